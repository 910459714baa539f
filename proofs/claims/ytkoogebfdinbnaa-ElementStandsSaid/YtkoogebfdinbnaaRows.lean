/-
  No cell of these rows narrows 'for every input' (looked for: loops, veiled, ifaces, maps, wideKeys, modest, calm, conditions, laid).
  DERIVED. THE GIVEN ROWS OF THIS SEAT. 5 by the template 'for every input the law returns true; each argument reads behind the call as it read before'; 0 by the template 'total and deterministic' (their statements: YtkoogebfdinbnaaTotals.lean).
  GIVEN WITH THE SEED: the statements are not yours to turn. If you find one false, say at which input.
  Laid BY PROGRAM, IN A SANDBOX (cutbox-rows.mjs): the forced cells as the released guide's own fill.sh prints them over the translation 12995ed57397917a… (all of the seat's roots in one cut). By AI agents, Wed Nov 11 2026. No macro, syntax, notation, axiom, sorry.
-/
import Derived.Test.YtkoogebfdinbnaaChecked
import GoSem.Claim
import GoSem.ClaimJoined
import GoSem.ClaimMapViews
import Derived.JoinedTies
import Derived.KernelRfl
namespace Go.Proofs.Ytkoogebfdinbnaa
/- THE CELL 'sum', in the pinned program and in every row, IS THE sha256 OF THE DUMP (.gsa) THAT YtkoogebfdinbnaaProg.lean LOADS. Nothing in Lean hashes anything: it is a label: what it is worth is what the hold of that sum in a sandbox is worth. -/
noncomputable def Try.pinned : Pinned := { name := "ytkoogebfdinbnaa", sum := "12995ed57397917adee28ce6f2882519010dd1f9747e7f1aa07d9d39b97715ba", checked := Try.checked }
namespace Rows
def none {H : Type} : Left H := { results := [], args := [] }

/-- 'newellaw03.ElementStands': WHATEVER THE INPUT: true; the input reads as it did. -/
def elementStandsSpec : ChangeSpec := { name := "elementStands", fn := fun _ => fun
  | [d] => { results := [.lit (.bool true)], args := [d] }
  | _ => none }
def elementStandsRow : OpenClaim := { program := "ytkoogebfdinbnaa", sum := "12995ed57397917adee28ce6f2882519010dd1f9747e7f1aa07d9d39b97715ba", func := "newel/newellaw03.ElementStands", spec := "elementStands", inPlace := ["internal/bytealg.IndexByteString", "internal/bytealg.IndexString", "internal/abi.NoEscape"], unfollowed := true, recurses := true, named := ["internal/bytealg.MaxLen"], apart := false }
def ElementStandsSaid : Prop := elementStandsRow.holds Try.pinned (OpenSpec.ofChange elementStandsSpec)

/-- ITS FALSE NEIGHBOUR: 'it returns false'. Refute it at one input. -/
def elementStandsWrong : ChangeSpec := { name := "elementStands", fn := fun _ => fun
  | [d] => { results := [.lit (.bool false)], args := [d] }
  | _ => none }
def ElementStandsWrongFalsely : Prop := elementStandsRow.holds Try.pinned (OpenSpec.ofChange elementStandsWrong)

/-- 'newellaw03.ElementDeep': WHATEVER THE INPUT: true; the input reads as it did. -/
def elementDeepSpec : ChangeSpec := { name := "elementDeep", fn := fun _ => fun
  | [d1, d2] => { results := [.lit (.bool true)], args := [d1, d2] }
  | _ => none }
def elementDeepRow : OpenClaim := { program := "ytkoogebfdinbnaa", sum := "12995ed57397917adee28ce6f2882519010dd1f9747e7f1aa07d9d39b97715ba", func := "newel/newellaw03.ElementDeep", spec := "elementDeep", inPlace := ["internal/bytealg.IndexByteString", "internal/bytealg.IndexString", "internal/abi.NoEscape"], unfollowed := true, recurses := true, named := ["internal/bytealg.MaxLen"], apart := false }
def ElementDeepSaid : Prop := elementDeepRow.holds Try.pinned (OpenSpec.ofChange elementDeepSpec)

/-- ITS FALSE NEIGHBOUR: 'it returns false'. Refute it at one input. -/
def elementDeepWrong : ChangeSpec := { name := "elementDeep", fn := fun _ => fun
  | [d1, d2] => { results := [.lit (.bool false)], args := [d1, d2] }
  | _ => none }
def ElementDeepWrongFalsely : Prop := elementDeepRow.holds Try.pinned (OpenSpec.ofChange elementDeepWrong)

/-- 'newellaw03.ElementJoins': WHATEVER THE INPUT: true; the input reads as it did. -/
def elementJoinsSpec : ChangeSpec := { name := "elementJoins", fn := fun _ => fun
  | [d] => { results := [.lit (.bool true)], args := [d] }
  | _ => none }
def elementJoinsRow : OpenClaim := { program := "ytkoogebfdinbnaa", sum := "12995ed57397917adee28ce6f2882519010dd1f9747e7f1aa07d9d39b97715ba", func := "newel/newellaw03.ElementJoins", spec := "elementJoins", inPlace := ["internal/bytealg.IndexByteString", "internal/bytealg.IndexString", "internal/abi.NoEscape"], unfollowed := true, recurses := true, named := ["internal/bytealg.MaxLen"], apart := false }
def ElementJoinsSaid : Prop := elementJoinsRow.holds Try.pinned (OpenSpec.ofChange elementJoinsSpec)

/-- ITS FALSE NEIGHBOUR: 'it returns false'. Refute it at one input. -/
def elementJoinsWrong : ChangeSpec := { name := "elementJoins", fn := fun _ => fun
  | [d] => { results := [.lit (.bool false)], args := [d] }
  | _ => none }
def ElementJoinsWrongFalsely : Prop := elementJoinsRow.holds Try.pinned (OpenSpec.ofChange elementJoinsWrong)

/-- 'newellaw03.ElementKids': WHATEVER THE INPUT: true; the input reads as it did. -/
def elementKidsSpec : ChangeSpec := { name := "elementKids", fn := fun _ => fun
  | [d] => { results := [.lit (.bool true)], args := [d] }
  | _ => none }
def elementKidsRow : OpenClaim := { program := "ytkoogebfdinbnaa", sum := "12995ed57397917adee28ce6f2882519010dd1f9747e7f1aa07d9d39b97715ba", func := "newel/newellaw03.ElementKids", spec := "elementKids", inPlace := ["internal/bytealg.IndexByteString", "internal/bytealg.IndexString", "internal/abi.NoEscape"], unfollowed := true, recurses := true, named := ["internal/bytealg.MaxLen"], apart := false }
def ElementKidsSaid : Prop := elementKidsRow.holds Try.pinned (OpenSpec.ofChange elementKidsSpec)

/-- ITS FALSE NEIGHBOUR: 'it returns false'. Refute it at one input. -/
def elementKidsWrong : ChangeSpec := { name := "elementKids", fn := fun _ => fun
  | [d] => { results := [.lit (.bool false)], args := [d] }
  | _ => none }
def ElementKidsWrongFalsely : Prop := elementKidsRow.holds Try.pinned (OpenSpec.ofChange elementKidsWrong)

/-- 'newellaw03.ElementBig': WHATEVER THE INPUT: true; the input reads as it did. -/
def elementBigSpec : ChangeSpec := { name := "elementBig", fn := fun _ => fun
  | [d] => { results := [.lit (.bool true)], args := [d] }
  | _ => none }
def elementBigRow : OpenClaim := { program := "ytkoogebfdinbnaa", sum := "12995ed57397917adee28ce6f2882519010dd1f9747e7f1aa07d9d39b97715ba", func := "newel/newellaw03.ElementBig", spec := "elementBig", inPlace := ["internal/bytealg.IndexByteString", "internal/bytealg.IndexString", "internal/abi.NoEscape"], unfollowed := true, recurses := true, named := ["internal/bytealg.MaxLen"], apart := false }
def ElementBigSaid : Prop := elementBigRow.holds Try.pinned (OpenSpec.ofChange elementBigSpec)

/-- ITS FALSE NEIGHBOUR: 'it returns false'. Refute it at one input. -/
def elementBigWrong : ChangeSpec := { name := "elementBig", fn := fun _ => fun
  | [d] => { results := [.lit (.bool false)], args := [d] }
  | _ => none }
def ElementBigWrongFalsely : Prop := elementBigRow.holds Try.pinned (OpenSpec.ofChange elementBigWrong)

/- THE SECOND FORM. 'bulk': how many values and letters a reading holds, each counted each time it is reached (what is shared counts as often as it is met; a slice's spare places count too). A statement '..UptoSaid' is the law's where the arguments, and the package variables that the reading takes, are together of bulk at most 1048576: NARROWER than '..Said'. Prove '..Said' where nothing that the law and all that it calls make is longer than what came in: it says more and counts as full. Else prove '..UptoSaid'. A law counts once. -/
mutual
def uptoBulk {H : Type} : DataW H → Nat
  | .lit (.string bytes) => bytes.length + 1
  | .lit _ => 1
  | .nil => 1
  | .ptr d => uptoBulk d + 1
  | .slice elems spare => uptoBulkAll elems + uptoBulkAll spare + 1
  | .agg parts => uptoBulkAll parts + 1
  | .iface _ d => uptoBulk d + 1
  | .map entries => uptoBulkEntries entries + 1
  | .held _ => 1
def uptoBulkAll {H : Type} : List (DataW H) → Nat
  | [] => 0
  | d :: r => uptoBulk d + uptoBulkAll r
def uptoBulkEntries {H : Type} : List (Lit × DataW H) → Nat
  | [] => 0
  | x :: r => uptoBulkEntry x + uptoBulkEntries r
def uptoBulkEntry {H : Type} : Lit × DataW H → Nat
  | (.string bytes, d) => bytes.length + uptoBulk d + 1
  | (_, d) => uptoBulk d + 1
 end
def uptoSmall : (H : Type) → List (DataW H) → Bool := fun _ ds => decide (uptoBulkAll ds ≤ 1048576)
def OpenSpec.upto (s : _root_.Go.ChangeSpec) : _root_.Go.OpenSpec := { _root_.Go.OpenSpec.ofChange s with cond := some uptoSmall }

/-- 'newellaw03.ElementStands', WHERE WHAT IT READS IS OF BULK AT MOST 1048576: true; the input reads as it did. -/
def elementStandsUptoRow : OpenClaim := { program := "ytkoogebfdinbnaa", sum := "12995ed57397917adee28ce6f2882519010dd1f9747e7f1aa07d9d39b97715ba", func := "newel/newellaw03.ElementStands", spec := "elementStands", inPlace := ["internal/bytealg.IndexByteString", "internal/bytealg.IndexString", "internal/abi.NoEscape"], unfollowed := true, recurses := true, named := ["internal/bytealg.MaxLen"], apart := false, narrowed := true }
def ElementStandsUptoSaid : Prop := elementStandsUptoRow.holds Try.pinned (OpenSpec.upto elementStandsSpec)

/-- 'newellaw03.ElementDeep', WHERE WHAT IT READS IS OF BULK AT MOST 1048576: true; the input reads as it did. -/
def elementDeepUptoRow : OpenClaim := { program := "ytkoogebfdinbnaa", sum := "12995ed57397917adee28ce6f2882519010dd1f9747e7f1aa07d9d39b97715ba", func := "newel/newellaw03.ElementDeep", spec := "elementDeep", inPlace := ["internal/bytealg.IndexByteString", "internal/bytealg.IndexString", "internal/abi.NoEscape"], unfollowed := true, recurses := true, named := ["internal/bytealg.MaxLen"], apart := false, narrowed := true }
def ElementDeepUptoSaid : Prop := elementDeepUptoRow.holds Try.pinned (OpenSpec.upto elementDeepSpec)

/-- 'newellaw03.ElementJoins', WHERE WHAT IT READS IS OF BULK AT MOST 1048576: true; the input reads as it did. -/
def elementJoinsUptoRow : OpenClaim := { program := "ytkoogebfdinbnaa", sum := "12995ed57397917adee28ce6f2882519010dd1f9747e7f1aa07d9d39b97715ba", func := "newel/newellaw03.ElementJoins", spec := "elementJoins", inPlace := ["internal/bytealg.IndexByteString", "internal/bytealg.IndexString", "internal/abi.NoEscape"], unfollowed := true, recurses := true, named := ["internal/bytealg.MaxLen"], apart := false, narrowed := true }
def ElementJoinsUptoSaid : Prop := elementJoinsUptoRow.holds Try.pinned (OpenSpec.upto elementJoinsSpec)

/-- 'newellaw03.ElementKids', WHERE WHAT IT READS IS OF BULK AT MOST 1048576: true; the input reads as it did. -/
def elementKidsUptoRow : OpenClaim := { program := "ytkoogebfdinbnaa", sum := "12995ed57397917adee28ce6f2882519010dd1f9747e7f1aa07d9d39b97715ba", func := "newel/newellaw03.ElementKids", spec := "elementKids", inPlace := ["internal/bytealg.IndexByteString", "internal/bytealg.IndexString", "internal/abi.NoEscape"], unfollowed := true, recurses := true, named := ["internal/bytealg.MaxLen"], apart := false, narrowed := true }
def ElementKidsUptoSaid : Prop := elementKidsUptoRow.holds Try.pinned (OpenSpec.upto elementKidsSpec)

/-- 'newellaw03.ElementBig', WHERE WHAT IT READS IS OF BULK AT MOST 1048576: true; the input reads as it did. -/
def elementBigUptoRow : OpenClaim := { program := "ytkoogebfdinbnaa", sum := "12995ed57397917adee28ce6f2882519010dd1f9747e7f1aa07d9d39b97715ba", func := "newel/newellaw03.ElementBig", spec := "elementBig", inPlace := ["internal/bytealg.IndexByteString", "internal/bytealg.IndexString", "internal/abi.NoEscape"], unfollowed := true, recurses := true, named := ["internal/bytealg.MaxLen"], apart := false, narrowed := true }
def ElementBigUptoSaid : Prop := elementBigUptoRow.holds Try.pinned (OpenSpec.upto elementBigSpec)

end Rows
end Go.Proofs.Ytkoogebfdinbnaa
