/-
  No cell of these rows narrows 'for every input' (looked for: loops, veiled, ifaces, maps, wideKeys, modest, calm, conditions, laid).
  DERIVED. THE GIVEN ROWS OF THIS SEAT. 6 by the template 'for every input the law returns true; each argument reads behind the call as it read before'; 0 by the template 'total and deterministic' (their statements: YtomkimifooddpaaTotals.lean).
  GIVEN WITH THE SEED: the statements are not yours to turn. If you find one false, say at which input.
  Laid BY PROGRAM, IN A SANDBOX (cutbox-rows.mjs): the forced cells as the released guide's own fill.sh prints them over the translation 2c429ecac79b414e… (all of the seat's roots in one cut). By AI agents, Wed Nov 11 2026. No macro, syntax, notation, axiom, sorry.
-/
import Derived.Test.YtomkimifooddpaaChecked
import GoSem.Claim
import GoSem.ClaimJoined
import GoSem.ClaimMapViews
import Derived.JoinedTies
import Derived.KernelRfl
namespace Go.Proofs.Ytomkimifooddpaa
/- THE CELL 'sum', in the pinned program and in every row, IS THE sha256 OF THE DUMP (.gsa) THAT YtomkimifooddpaaProg.lean LOADS. Nothing in Lean hashes anything: it is a label: what it is worth is what the hold of that sum in a sandbox is worth. -/
noncomputable def Try.pinned : Pinned := { name := "ytomkimifooddpaa", sum := "2c429ecac79b414eb1852e8dc348bba9a68e09d7cb6f0abc4785f5d1b8a909d4", checked := Try.checked }
namespace Rows
def none {H : Type} : Left H := { results := [], args := [] }

/-- 'newellaw16.PropsLoops': WHATEVER THE INPUT: true; the input reads as it did. -/
def propsLoopsSpec : ChangeSpec := { name := "propsLoops", fn := fun _ => fun
  | [d1, d2] => { results := [.lit (.bool true)], args := [d1, d2] }
  | _ => none }
def propsLoopsRow : OpenClaim := { program := "ytomkimifooddpaa", sum := "2c429ecac79b414eb1852e8dc348bba9a68e09d7cb6f0abc4785f5d1b8a909d4", func := "newel/newellaw16.PropsLoops", spec := "propsLoops", inPlace := ["internal/bytealg.IndexByteString", "internal/bytealg.IndexString", "internal/abi.NoEscape", "internal/bytealg.MakeNoZero"], unfollowed := true, recurses := true, named := ["internal/bytealg.MaxLen"], apart := false }
def PropsLoopsSaid : Prop := propsLoopsRow.holds Try.pinned (OpenSpec.ofChange propsLoopsSpec)

/-- ITS FALSE NEIGHBOUR: 'it returns false'. Refute it at one input. -/
def propsLoopsWrong : ChangeSpec := { name := "propsLoops", fn := fun _ => fun
  | [d1, d2] => { results := [.lit (.bool false)], args := [d1, d2] }
  | _ => none }
def PropsLoopsWrongFalsely : Prop := propsLoopsRow.holds Try.pinned (OpenSpec.ofChange propsLoopsWrong)

/-- 'newellaw16.PropsTrim': WHATEVER THE INPUT: true; the input reads as it did. -/
def propsTrimSpec : ChangeSpec := { name := "propsTrim", fn := fun _ => fun
  | [d1, d2, d3] => { results := [.lit (.bool true)], args := [d1, d2, d3] }
  | _ => none }
def propsTrimRow : OpenClaim := { program := "ytomkimifooddpaa", sum := "2c429ecac79b414eb1852e8dc348bba9a68e09d7cb6f0abc4785f5d1b8a909d4", func := "newel/newellaw16.PropsTrim", spec := "propsTrim", inPlace := ["internal/bytealg.IndexByteString", "internal/bytealg.IndexString", "internal/abi.NoEscape", "internal/bytealg.MakeNoZero"], unfollowed := true, recurses := true, named := ["internal/bytealg.MaxLen"], apart := false }
def PropsTrimSaid : Prop := propsTrimRow.holds Try.pinned (OpenSpec.ofChange propsTrimSpec)

/-- ITS FALSE NEIGHBOUR: 'it returns false'. Refute it at one input. -/
def propsTrimWrong : ChangeSpec := { name := "propsTrim", fn := fun _ => fun
  | [d1, d2, d3] => { results := [.lit (.bool false)], args := [d1, d2, d3] }
  | _ => none }
def PropsTrimWrongFalsely : Prop := propsTrimRow.holds Try.pinned (OpenSpec.ofChange propsTrimWrong)

/-- 'newellaw16.PropsMany': WHATEVER THE INPUT: true; the input reads as it did. -/
def propsManySpec : ChangeSpec := { name := "propsMany", fn := fun _ => fun
  | [d1, d2] => { results := [.lit (.bool true)], args := [d1, d2] }
  | _ => none }
def propsManyRow : OpenClaim := { program := "ytomkimifooddpaa", sum := "2c429ecac79b414eb1852e8dc348bba9a68e09d7cb6f0abc4785f5d1b8a909d4", func := "newel/newellaw16.PropsMany", spec := "propsMany", inPlace := ["internal/bytealg.IndexByteString", "internal/bytealg.IndexString", "internal/abi.NoEscape", "internal/bytealg.MakeNoZero"], unfollowed := true, recurses := true, named := ["internal/bytealg.MaxLen"], apart := false }
def PropsManySaid : Prop := propsManyRow.holds Try.pinned (OpenSpec.ofChange propsManySpec)

/-- ITS FALSE NEIGHBOUR: 'it returns false'. Refute it at one input. -/
def propsManyWrong : ChangeSpec := { name := "propsMany", fn := fun _ => fun
  | [d1, d2] => { results := [.lit (.bool false)], args := [d1, d2] }
  | _ => none }
def PropsManyWrongFalsely : Prop := propsManyRow.holds Try.pinned (OpenSpec.ofChange propsManyWrong)

/-- 'newellaw16.PropsWith': WHATEVER THE INPUT: true; the input reads as it did. -/
def propsWithSpec : ChangeSpec := { name := "propsWith", fn := fun _ => fun
  | [d1, d2] => { results := [.lit (.bool true)], args := [d1, d2] }
  | _ => none }
def propsWithRow : OpenClaim := { program := "ytomkimifooddpaa", sum := "2c429ecac79b414eb1852e8dc348bba9a68e09d7cb6f0abc4785f5d1b8a909d4", func := "newel/newellaw16.PropsWith", spec := "propsWith", inPlace := ["internal/bytealg.IndexByteString", "internal/bytealg.IndexString", "internal/abi.NoEscape", "internal/bytealg.MakeNoZero"], unfollowed := true, recurses := true, named := ["internal/bytealg.MaxLen"], apart := false }
def PropsWithSaid : Prop := propsWithRow.holds Try.pinned (OpenSpec.ofChange propsWithSpec)

/-- ITS FALSE NEIGHBOUR: 'it returns false'. Refute it at one input. -/
def propsWithWrong : ChangeSpec := { name := "propsWith", fn := fun _ => fun
  | [d1, d2] => { results := [.lit (.bool false)], args := [d1, d2] }
  | _ => none }
def PropsWithWrongFalsely : Prop := propsWithRow.holds Try.pinned (OpenSpec.ofChange propsWithWrong)

/-- 'newellaw16.PropsFixed': WHATEVER THE INPUT: true; the input reads as it did. -/
def propsFixedSpec : ChangeSpec := { name := "propsFixed", fn := fun _ => fun
  | [d1, d2] => { results := [.lit (.bool true)], args := [d1, d2] }
  | _ => none }
def propsFixedRow : OpenClaim := { program := "ytomkimifooddpaa", sum := "2c429ecac79b414eb1852e8dc348bba9a68e09d7cb6f0abc4785f5d1b8a909d4", func := "newel/newellaw16.PropsFixed", spec := "propsFixed", inPlace := ["internal/bytealg.IndexByteString", "internal/bytealg.IndexString", "internal/abi.NoEscape", "internal/bytealg.MakeNoZero"], unfollowed := true, recurses := true, named := ["internal/bytealg.MaxLen"], apart := false }
def PropsFixedSaid : Prop := propsFixedRow.holds Try.pinned (OpenSpec.ofChange propsFixedSpec)

/-- ITS FALSE NEIGHBOUR: 'it returns false'. Refute it at one input. -/
def propsFixedWrong : ChangeSpec := { name := "propsFixed", fn := fun _ => fun
  | [d1, d2] => { results := [.lit (.bool false)], args := [d1, d2] }
  | _ => none }
def PropsFixedWrongFalsely : Prop := propsFixedRow.holds Try.pinned (OpenSpec.ofChange propsFixedWrong)

/-- 'newellaw16.PropsTell': WHATEVER THE INPUT: true; the input reads as it did. -/
def propsTellSpec : ChangeSpec := { name := "propsTell", fn := fun _ => fun
  | [d1, d2, d3] => { results := [.lit (.bool true)], args := [d1, d2, d3] }
  | _ => none }
def propsTellRow : OpenClaim := { program := "ytomkimifooddpaa", sum := "2c429ecac79b414eb1852e8dc348bba9a68e09d7cb6f0abc4785f5d1b8a909d4", func := "newel/newellaw16.PropsTell", spec := "propsTell", inPlace := ["internal/bytealg.IndexByteString", "internal/bytealg.IndexString", "internal/abi.NoEscape", "internal/bytealg.MakeNoZero"], unfollowed := true, recurses := true, named := ["internal/bytealg.MaxLen"], apart := false }
def PropsTellSaid : Prop := propsTellRow.holds Try.pinned (OpenSpec.ofChange propsTellSpec)

/-- ITS FALSE NEIGHBOUR: 'it returns false'. Refute it at one input. -/
def propsTellWrong : ChangeSpec := { name := "propsTell", fn := fun _ => fun
  | [d1, d2, d3] => { results := [.lit (.bool false)], args := [d1, d2, d3] }
  | _ => none }
def PropsTellWrongFalsely : Prop := propsTellRow.holds Try.pinned (OpenSpec.ofChange propsTellWrong)

/- THE SECOND FORM. 'bulk': how many values and letters a reading holds, each counted each time it is reached (what is shared counts as often as it is met; a slice's spare places count too). A statement '..UptoSaid' is the law's where the arguments, and the package variables that the reading takes, are together of bulk at most 1048576: NARROWER than '..Said'. Prove '..Said' where nothing that the law and all that it calls make is longer than what came in: it says more and counts as full. Else prove '..UptoSaid'. A law counts once. -/
mutual
def uptoBulk {H : Type} : DataW H → Nat
  | .lit (.string bytes) => bytes.length + 1
  | .lit _ => 1
  | .nil => 1
  | .ptr d => uptoBulk d + 1
  | .slice elems spare => uptoBulkAll elems + uptoBulkAll spare + 1
  | .agg parts => uptoBulkAll parts + 1
  | .iface _ d => uptoBulk d + 1
  | .map entries => uptoBulkEntries entries + 1
  | .held _ => 1
def uptoBulkAll {H : Type} : List (DataW H) → Nat
  | [] => 0
  | d :: r => uptoBulk d + uptoBulkAll r
def uptoBulkEntries {H : Type} : List (Lit × DataW H) → Nat
  | [] => 0
  | x :: r => uptoBulkEntry x + uptoBulkEntries r
def uptoBulkEntry {H : Type} : Lit × DataW H → Nat
  | (.string bytes, d) => bytes.length + uptoBulk d + 1
  | (_, d) => uptoBulk d + 1
 end
def uptoSmall : (H : Type) → List (DataW H) → Bool := fun _ ds => decide (uptoBulkAll ds ≤ 1048576)
def OpenSpec.upto (s : _root_.Go.ChangeSpec) : _root_.Go.OpenSpec := { _root_.Go.OpenSpec.ofChange s with cond := some uptoSmall }

/-- 'newellaw16.PropsLoops', WHERE WHAT IT READS IS OF BULK AT MOST 1048576: true; the input reads as it did. -/
def propsLoopsUptoRow : OpenClaim := { program := "ytomkimifooddpaa", sum := "2c429ecac79b414eb1852e8dc348bba9a68e09d7cb6f0abc4785f5d1b8a909d4", func := "newel/newellaw16.PropsLoops", spec := "propsLoops", inPlace := ["internal/bytealg.IndexByteString", "internal/bytealg.IndexString", "internal/abi.NoEscape", "internal/bytealg.MakeNoZero"], unfollowed := true, recurses := true, named := ["internal/bytealg.MaxLen"], apart := false, narrowed := true }
def PropsLoopsUptoSaid : Prop := propsLoopsUptoRow.holds Try.pinned (OpenSpec.upto propsLoopsSpec)

/-- 'newellaw16.PropsTrim', WHERE WHAT IT READS IS OF BULK AT MOST 1048576: true; the input reads as it did. -/
def propsTrimUptoRow : OpenClaim := { program := "ytomkimifooddpaa", sum := "2c429ecac79b414eb1852e8dc348bba9a68e09d7cb6f0abc4785f5d1b8a909d4", func := "newel/newellaw16.PropsTrim", spec := "propsTrim", inPlace := ["internal/bytealg.IndexByteString", "internal/bytealg.IndexString", "internal/abi.NoEscape", "internal/bytealg.MakeNoZero"], unfollowed := true, recurses := true, named := ["internal/bytealg.MaxLen"], apart := false, narrowed := true }
def PropsTrimUptoSaid : Prop := propsTrimUptoRow.holds Try.pinned (OpenSpec.upto propsTrimSpec)

/-- 'newellaw16.PropsMany', WHERE WHAT IT READS IS OF BULK AT MOST 1048576: true; the input reads as it did. -/
def propsManyUptoRow : OpenClaim := { program := "ytomkimifooddpaa", sum := "2c429ecac79b414eb1852e8dc348bba9a68e09d7cb6f0abc4785f5d1b8a909d4", func := "newel/newellaw16.PropsMany", spec := "propsMany", inPlace := ["internal/bytealg.IndexByteString", "internal/bytealg.IndexString", "internal/abi.NoEscape", "internal/bytealg.MakeNoZero"], unfollowed := true, recurses := true, named := ["internal/bytealg.MaxLen"], apart := false, narrowed := true }
def PropsManyUptoSaid : Prop := propsManyUptoRow.holds Try.pinned (OpenSpec.upto propsManySpec)

/-- 'newellaw16.PropsWith', WHERE WHAT IT READS IS OF BULK AT MOST 1048576: true; the input reads as it did. -/
def propsWithUptoRow : OpenClaim := { program := "ytomkimifooddpaa", sum := "2c429ecac79b414eb1852e8dc348bba9a68e09d7cb6f0abc4785f5d1b8a909d4", func := "newel/newellaw16.PropsWith", spec := "propsWith", inPlace := ["internal/bytealg.IndexByteString", "internal/bytealg.IndexString", "internal/abi.NoEscape", "internal/bytealg.MakeNoZero"], unfollowed := true, recurses := true, named := ["internal/bytealg.MaxLen"], apart := false, narrowed := true }
def PropsWithUptoSaid : Prop := propsWithUptoRow.holds Try.pinned (OpenSpec.upto propsWithSpec)

/-- 'newellaw16.PropsFixed', WHERE WHAT IT READS IS OF BULK AT MOST 1048576: true; the input reads as it did. -/
def propsFixedUptoRow : OpenClaim := { program := "ytomkimifooddpaa", sum := "2c429ecac79b414eb1852e8dc348bba9a68e09d7cb6f0abc4785f5d1b8a909d4", func := "newel/newellaw16.PropsFixed", spec := "propsFixed", inPlace := ["internal/bytealg.IndexByteString", "internal/bytealg.IndexString", "internal/abi.NoEscape", "internal/bytealg.MakeNoZero"], unfollowed := true, recurses := true, named := ["internal/bytealg.MaxLen"], apart := false, narrowed := true }
def PropsFixedUptoSaid : Prop := propsFixedUptoRow.holds Try.pinned (OpenSpec.upto propsFixedSpec)

/-- 'newellaw16.PropsTell', WHERE WHAT IT READS IS OF BULK AT MOST 1048576: true; the input reads as it did. -/
def propsTellUptoRow : OpenClaim := { program := "ytomkimifooddpaa", sum := "2c429ecac79b414eb1852e8dc348bba9a68e09d7cb6f0abc4785f5d1b8a909d4", func := "newel/newellaw16.PropsTell", spec := "propsTell", inPlace := ["internal/bytealg.IndexByteString", "internal/bytealg.IndexString", "internal/abi.NoEscape", "internal/bytealg.MakeNoZero"], unfollowed := true, recurses := true, named := ["internal/bytealg.MaxLen"], apart := false, narrowed := true }
def PropsTellUptoSaid : Prop := propsTellUptoRow.holds Try.pinned (OpenSpec.upto propsTellSpec)

end Rows
end Go.Proofs.Ytomkimifooddpaa
