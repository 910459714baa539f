/-
  NARROWER THAN 'FOR EVERY INPUT', by the rows' own cells (each row's printed sentence says how): CoordKeys: laid · CoordIds: laid · WordsTell: laid · WordsForm: laid · WordsZeros: laid · WordsShort: laid · WordsParts: laid · WordsRight: laid · CoordTells: laid · CoordBack: laid · CoordOrder: laid · ChooseTells: laid · ChooseHolds: laid · ChooseMore: laid · ChoosePlain: laid · SpanEdges: laid · SpanRefuses: laid · SpanTexts: laid · SpanMany: laid.
  DERIVED. THE GIVEN ROWS OF THIS SEAT. 19 by the template 'for every input the law returns true; each argument reads behind the call as it read before'; 0 by the template 'total and deterministic' (their statements: YtgdjfcmmpjcaaaaDoorTotals.lean).
  GIVEN WITH THE SEED: the statements are not yours to turn. If you find one false, say at which input.
  Laid BY PROGRAM, IN A SANDBOX (cutbox-rows.mjs): the forced cells as the released guide's own fill.sh prints them over the translation 5db79c3e437f873b… (all of the seat's roots in one cut). By AI agents, Wed Nov 11 2026. No macro, syntax, notation, axiom, sorry.
-/
import Derived.Test.YtgdjfcmmpjcaaaaDoorChecked
import GoSem.PinnedTables
import GoSem.Claim
import GoSem.ClaimJoined
import GoSem.ClaimMapViews
import Derived.JoinedTies
import Derived.KernelRfl
namespace Go.Proofs.YtgdjfcmmpjcaaaaDoor
/- THE CELL 'sum', in the pinned program and in every row, IS THE sha256 OF THE DUMP (.gsa) THAT YtgdjfcmmpjcaaaaDoorProg.lean LOADS. Nothing in Lean hashes anything: it is a label: what it is worth is what the hold of that sum in a sandbox is worth. -/
noncomputable def Tryd.pinned : Pinned := { name := "ytgdjfcmmpjcaaaadoor", sum := "5db79c3e437f873b3ec4f508304b799c0619fb2b28c7852ad833239dfa1ab56b", checked := Tryd.checked }
namespace Rows
def none {H : Type} : Left H := { results := [], args := [] }

/- WHAT THE LISTED PACKAGE-LEVEL VARIABLES READ AS WHEN THE CALL BEGINS. Each datum BY PROGRAM (the guide's laid-datum.mjs) off the statement by which the dump's own 'gosem.cut.vars' lays the variable. In a bare row this is a premise. The card (YtgdjfcmmpjcaaaaDoorCards.lean) ties it to the program's text. -/
def laid_unicode_utf8_acceptRanges {H : Type} : DataW H := .agg [.agg [.lit (.int .u8 128), .lit (.int .u8 191)], .agg [.lit (.int .u8 160), .lit (.int .u8 191)], .agg [.lit (.int .u8 128), .lit (.int .u8 159)], .agg [.lit (.int .u8 144), .lit (.int .u8 191)], .agg [.lit (.int .u8 128), .lit (.int .u8 143)], .agg [.lit (.int .u8 0), .lit (.int .u8 0)], .agg [.lit (.int .u8 0), .lit (.int .u8 0)], .agg [.lit (.int .u8 0), .lit (.int .u8 0)], .agg [.lit (.int .u8 0), .lit (.int .u8 0)], .agg [.lit (.int .u8 0), .lit (.int .u8 0)], .agg [.lit (.int .u8 0), .lit (.int .u8 0)], .agg [.lit (.int .u8 0), .lit (.int .u8 0)], .agg [.lit (.int .u8 0), .lit (.int .u8 0)], .agg [.lit (.int .u8 0), .lit (.int .u8 0)], .agg [.lit (.int .u8 0), .lit (.int .u8 0)], .agg [.lit (.int .u8 0), .lit (.int .u8 0)]]
/-- One of Go's own tables, pinned by name: the form's constant. -/
def laid_unicode_utf8_first : DataW Unit := Go.Pinned.utf8First

/-- 'newellaw09.CoordKeys': WHATEVER THE INPUT: true; the input reads as it did. -/
def coordKeysSpec : ChangeSpec := { name := "coordKeys", fn := fun _ => fun
  | [d1, d2] => { results := [.lit (.bool true)], args := [d1, d2] }
  | _ => none }
def coordKeysRow : OpenClaim := { program := "ytgdjfcmmpjcaaaadoor", sum := "5db79c3e437f873b3ec4f508304b799c0619fb2b28c7852ad833239dfa1ab56b", func := "newel/newellaw09.CoordKeys", spec := "coordKeys", inPlace := ["internal/bytealg.CountString", "internal/bytealg.IndexByteString", "internal/bytealg.IndexString"], unfollowed := true, recurses := true, named := ["unicode/utf8.first", "unicode/utf8.acceptRanges", "internal/bytealg.MaxLen"], apart := false, laid := [("unicode/utf8.acceptRanges", laid_unicode_utf8_acceptRanges), ("unicode/utf8.first", laid_unicode_utf8_first)] }
def CoordKeysSaid : Prop := coordKeysRow.holds Tryd.pinned (OpenSpec.ofChange coordKeysSpec)

/-- ITS FALSE NEIGHBOUR: 'it returns false'. Refute it at one input. -/
def coordKeysWrong : ChangeSpec := { name := "coordKeys", fn := fun _ => fun
  | [d1, d2] => { results := [.lit (.bool false)], args := [d1, d2] }
  | _ => none }
def CoordKeysWrongFalsely : Prop := coordKeysRow.holds Tryd.pinned (OpenSpec.ofChange coordKeysWrong)

/-- 'newellaw09.CoordIds': WHATEVER THE INPUT: true; the input reads as it did. -/
def coordIdsSpec : ChangeSpec := { name := "coordIds", fn := fun _ => fun
  | [d1, d2] => { results := [.lit (.bool true)], args := [d1, d2] }
  | _ => none }
def coordIdsRow : OpenClaim := { program := "ytgdjfcmmpjcaaaadoor", sum := "5db79c3e437f873b3ec4f508304b799c0619fb2b28c7852ad833239dfa1ab56b", func := "newel/newellaw09.CoordIds", spec := "coordIds", inPlace := ["internal/bytealg.CountString", "internal/bytealg.IndexByteString", "internal/bytealg.IndexString"], unfollowed := true, recurses := true, named := ["unicode/utf8.first", "unicode/utf8.acceptRanges", "internal/bytealg.MaxLen"], apart := false, laid := [("unicode/utf8.acceptRanges", laid_unicode_utf8_acceptRanges), ("unicode/utf8.first", laid_unicode_utf8_first)] }
def CoordIdsSaid : Prop := coordIdsRow.holds Tryd.pinned (OpenSpec.ofChange coordIdsSpec)

/-- ITS FALSE NEIGHBOUR: 'it returns false'. Refute it at one input. -/
def coordIdsWrong : ChangeSpec := { name := "coordIds", fn := fun _ => fun
  | [d1, d2] => { results := [.lit (.bool false)], args := [d1, d2] }
  | _ => none }
def CoordIdsWrongFalsely : Prop := coordIdsRow.holds Tryd.pinned (OpenSpec.ofChange coordIdsWrong)

/-- 'newellaw05.WordsTell': WHATEVER THE INPUT: true; the input reads as it did. -/
def wordsTellSpec : ChangeSpec := { name := "wordsTell", fn := fun _ => fun
  | [d] => { results := [.lit (.bool true)], args := [d] }
  | _ => none }
def wordsTellRow : OpenClaim := { program := "ytgdjfcmmpjcaaaadoor", sum := "5db79c3e437f873b3ec4f508304b799c0619fb2b28c7852ad833239dfa1ab56b", func := "newel/newellaw05.WordsTell", spec := "wordsTell", inPlace := ["internal/bytealg.IndexByteString", "internal/bytealg.IndexString"], unfollowed := true, recurses := true, named := ["unicode/utf8.first", "unicode/utf8.acceptRanges", "internal/bytealg.MaxLen"], apart := false, laid := [("unicode/utf8.acceptRanges", laid_unicode_utf8_acceptRanges), ("unicode/utf8.first", laid_unicode_utf8_first)] }
def WordsTellSaid : Prop := wordsTellRow.holds Tryd.pinned (OpenSpec.ofChange wordsTellSpec)

/-- ITS FALSE NEIGHBOUR: 'it returns false'. Refute it at one input. -/
def wordsTellWrong : ChangeSpec := { name := "wordsTell", fn := fun _ => fun
  | [d] => { results := [.lit (.bool false)], args := [d] }
  | _ => none }
def WordsTellWrongFalsely : Prop := wordsTellRow.holds Tryd.pinned (OpenSpec.ofChange wordsTellWrong)

/-- 'newellaw05.WordsForm': WHATEVER THE INPUT: true; the input reads as it did. -/
def wordsFormSpec : ChangeSpec := { name := "wordsForm", fn := fun _ => fun
  | [d] => { results := [.lit (.bool true)], args := [d] }
  | _ => none }
def wordsFormRow : OpenClaim := { program := "ytgdjfcmmpjcaaaadoor", sum := "5db79c3e437f873b3ec4f508304b799c0619fb2b28c7852ad833239dfa1ab56b", func := "newel/newellaw05.WordsForm", spec := "wordsForm", inPlace := ["internal/bytealg.IndexByteString", "internal/bytealg.IndexString"], unfollowed := true, recurses := true, named := ["unicode/utf8.first", "unicode/utf8.acceptRanges", "internal/bytealg.MaxLen"], apart := false, laid := [("unicode/utf8.acceptRanges", laid_unicode_utf8_acceptRanges), ("unicode/utf8.first", laid_unicode_utf8_first)] }
def WordsFormSaid : Prop := wordsFormRow.holds Tryd.pinned (OpenSpec.ofChange wordsFormSpec)

/-- ITS FALSE NEIGHBOUR: 'it returns false'. Refute it at one input. -/
def wordsFormWrong : ChangeSpec := { name := "wordsForm", fn := fun _ => fun
  | [d] => { results := [.lit (.bool false)], args := [d] }
  | _ => none }
def WordsFormWrongFalsely : Prop := wordsFormRow.holds Tryd.pinned (OpenSpec.ofChange wordsFormWrong)

/-- 'newellaw05.WordsZeros': WHATEVER THE INPUT: true; the input reads as it did. -/
def wordsZerosSpec : ChangeSpec := { name := "wordsZeros", fn := fun _ => fun
  | [d1, d2, d3] => { results := [.lit (.bool true)], args := [d1, d2, d3] }
  | _ => none }
def wordsZerosRow : OpenClaim := { program := "ytgdjfcmmpjcaaaadoor", sum := "5db79c3e437f873b3ec4f508304b799c0619fb2b28c7852ad833239dfa1ab56b", func := "newel/newellaw05.WordsZeros", spec := "wordsZeros", inPlace := ["internal/bytealg.IndexByteString", "internal/bytealg.IndexString"], unfollowed := true, recurses := true, named := ["unicode/utf8.first", "unicode/utf8.acceptRanges", "internal/bytealg.MaxLen"], apart := false, laid := [("unicode/utf8.acceptRanges", laid_unicode_utf8_acceptRanges), ("unicode/utf8.first", laid_unicode_utf8_first)] }
def WordsZerosSaid : Prop := wordsZerosRow.holds Tryd.pinned (OpenSpec.ofChange wordsZerosSpec)

/-- ITS FALSE NEIGHBOUR: 'it returns false'. Refute it at one input. -/
def wordsZerosWrong : ChangeSpec := { name := "wordsZeros", fn := fun _ => fun
  | [d1, d2, d3] => { results := [.lit (.bool false)], args := [d1, d2, d3] }
  | _ => none }
def WordsZerosWrongFalsely : Prop := wordsZerosRow.holds Tryd.pinned (OpenSpec.ofChange wordsZerosWrong)

/-- 'newellaw05.WordsShort': WHATEVER THE INPUT: true; the input reads as it did. -/
def wordsShortSpec : ChangeSpec := { name := "wordsShort", fn := fun _ => fun
  | [d1, d2] => { results := [.lit (.bool true)], args := [d1, d2] }
  | _ => none }
def wordsShortRow : OpenClaim := { program := "ytgdjfcmmpjcaaaadoor", sum := "5db79c3e437f873b3ec4f508304b799c0619fb2b28c7852ad833239dfa1ab56b", func := "newel/newellaw05.WordsShort", spec := "wordsShort", inPlace := ["internal/bytealg.IndexByteString", "internal/bytealg.IndexString"], unfollowed := true, recurses := true, named := ["unicode/utf8.first", "unicode/utf8.acceptRanges", "internal/bytealg.MaxLen"], apart := false, laid := [("unicode/utf8.acceptRanges", laid_unicode_utf8_acceptRanges), ("unicode/utf8.first", laid_unicode_utf8_first)] }
def WordsShortSaid : Prop := wordsShortRow.holds Tryd.pinned (OpenSpec.ofChange wordsShortSpec)

/-- ITS FALSE NEIGHBOUR: 'it returns false'. Refute it at one input. -/
def wordsShortWrong : ChangeSpec := { name := "wordsShort", fn := fun _ => fun
  | [d1, d2] => { results := [.lit (.bool false)], args := [d1, d2] }
  | _ => none }
def WordsShortWrongFalsely : Prop := wordsShortRow.holds Tryd.pinned (OpenSpec.ofChange wordsShortWrong)

/-- 'newellaw05.WordsParts': WHATEVER THE INPUT: true; the input reads as it did. -/
def wordsPartsSpec : ChangeSpec := { name := "wordsParts", fn := fun _ => fun
  | [d1, d2, d3] => { results := [.lit (.bool true)], args := [d1, d2, d3] }
  | _ => none }
def wordsPartsRow : OpenClaim := { program := "ytgdjfcmmpjcaaaadoor", sum := "5db79c3e437f873b3ec4f508304b799c0619fb2b28c7852ad833239dfa1ab56b", func := "newel/newellaw05.WordsParts", spec := "wordsParts", inPlace := ["internal/bytealg.IndexByteString", "internal/bytealg.IndexString"], unfollowed := true, recurses := true, named := ["unicode/utf8.first", "unicode/utf8.acceptRanges", "internal/bytealg.MaxLen"], apart := false, laid := [("unicode/utf8.acceptRanges", laid_unicode_utf8_acceptRanges), ("unicode/utf8.first", laid_unicode_utf8_first)] }
def WordsPartsSaid : Prop := wordsPartsRow.holds Tryd.pinned (OpenSpec.ofChange wordsPartsSpec)

/-- ITS FALSE NEIGHBOUR: 'it returns false'. Refute it at one input. -/
def wordsPartsWrong : ChangeSpec := { name := "wordsParts", fn := fun _ => fun
  | [d1, d2, d3] => { results := [.lit (.bool false)], args := [d1, d2, d3] }
  | _ => none }
def WordsPartsWrongFalsely : Prop := wordsPartsRow.holds Tryd.pinned (OpenSpec.ofChange wordsPartsWrong)

/-- 'newellaw05.WordsRight': WHATEVER THE INPUT: true; the input reads as it did. -/
def wordsRightSpec : ChangeSpec := { name := "wordsRight", fn := fun _ => fun
  | [d1, d2] => { results := [.lit (.bool true)], args := [d1, d2] }
  | _ => none }
def wordsRightRow : OpenClaim := { program := "ytgdjfcmmpjcaaaadoor", sum := "5db79c3e437f873b3ec4f508304b799c0619fb2b28c7852ad833239dfa1ab56b", func := "newel/newellaw05.WordsRight", spec := "wordsRight", inPlace := ["internal/bytealg.IndexByteString", "internal/bytealg.IndexString"], unfollowed := true, recurses := true, named := ["unicode/utf8.first", "unicode/utf8.acceptRanges", "internal/bytealg.MaxLen"], apart := false, laid := [("unicode/utf8.acceptRanges", laid_unicode_utf8_acceptRanges), ("unicode/utf8.first", laid_unicode_utf8_first)] }
def WordsRightSaid : Prop := wordsRightRow.holds Tryd.pinned (OpenSpec.ofChange wordsRightSpec)

/-- ITS FALSE NEIGHBOUR: 'it returns false'. Refute it at one input. -/
def wordsRightWrong : ChangeSpec := { name := "wordsRight", fn := fun _ => fun
  | [d1, d2] => { results := [.lit (.bool false)], args := [d1, d2] }
  | _ => none }
def WordsRightWrongFalsely : Prop := wordsRightRow.holds Tryd.pinned (OpenSpec.ofChange wordsRightWrong)

/-- 'newellaw09.CoordTells': WHATEVER THE INPUT: true; the input reads as it did. -/
def coordTellsSpec : ChangeSpec := { name := "coordTells", fn := fun _ => fun
  | [d1, d2, d3, d4] => { results := [.lit (.bool true)], args := [d1, d2, d3, d4] }
  | _ => none }
def coordTellsRow : OpenClaim := { program := "ytgdjfcmmpjcaaaadoor", sum := "5db79c3e437f873b3ec4f508304b799c0619fb2b28c7852ad833239dfa1ab56b", func := "newel/newellaw09.CoordTells", spec := "coordTells", inPlace := ["internal/bytealg.CountString", "internal/bytealg.IndexByteString", "internal/bytealg.IndexString"], unfollowed := true, recurses := true, named := ["unicode/utf8.first", "unicode/utf8.acceptRanges", "internal/bytealg.MaxLen"], apart := false, laid := [("unicode/utf8.acceptRanges", laid_unicode_utf8_acceptRanges), ("unicode/utf8.first", laid_unicode_utf8_first)] }
def CoordTellsSaid : Prop := coordTellsRow.holds Tryd.pinned (OpenSpec.ofChange coordTellsSpec)

/-- ITS FALSE NEIGHBOUR: 'it returns false'. Refute it at one input. -/
def coordTellsWrong : ChangeSpec := { name := "coordTells", fn := fun _ => fun
  | [d1, d2, d3, d4] => { results := [.lit (.bool false)], args := [d1, d2, d3, d4] }
  | _ => none }
def CoordTellsWrongFalsely : Prop := coordTellsRow.holds Tryd.pinned (OpenSpec.ofChange coordTellsWrong)

/-- 'newellaw09.CoordBack': WHATEVER THE INPUT: true; the input reads as it did. -/
def coordBackSpec : ChangeSpec := { name := "coordBack", fn := fun _ => fun
  | [d1, d2, d3] => { results := [.lit (.bool true)], args := [d1, d2, d3] }
  | _ => none }
def coordBackRow : OpenClaim := { program := "ytgdjfcmmpjcaaaadoor", sum := "5db79c3e437f873b3ec4f508304b799c0619fb2b28c7852ad833239dfa1ab56b", func := "newel/newellaw09.CoordBack", spec := "coordBack", inPlace := ["internal/bytealg.CountString", "internal/bytealg.IndexByteString", "internal/bytealg.IndexString"], unfollowed := true, recurses := true, named := ["unicode/utf8.first", "unicode/utf8.acceptRanges", "internal/bytealg.MaxLen"], apart := false, laid := [("unicode/utf8.acceptRanges", laid_unicode_utf8_acceptRanges), ("unicode/utf8.first", laid_unicode_utf8_first)] }
def CoordBackSaid : Prop := coordBackRow.holds Tryd.pinned (OpenSpec.ofChange coordBackSpec)

/-- ITS FALSE NEIGHBOUR: 'it returns false'. Refute it at one input. -/
def coordBackWrong : ChangeSpec := { name := "coordBack", fn := fun _ => fun
  | [d1, d2, d3] => { results := [.lit (.bool false)], args := [d1, d2, d3] }
  | _ => none }
def CoordBackWrongFalsely : Prop := coordBackRow.holds Tryd.pinned (OpenSpec.ofChange coordBackWrong)

/-- 'newellaw09.CoordOrder': WHATEVER THE INPUT: true; the input reads as it did. -/
def coordOrderSpec : ChangeSpec := { name := "coordOrder", fn := fun _ => fun
  | [d1, d2, d3] => { results := [.lit (.bool true)], args := [d1, d2, d3] }
  | _ => none }
def coordOrderRow : OpenClaim := { program := "ytgdjfcmmpjcaaaadoor", sum := "5db79c3e437f873b3ec4f508304b799c0619fb2b28c7852ad833239dfa1ab56b", func := "newel/newellaw09.CoordOrder", spec := "coordOrder", inPlace := ["internal/bytealg.CountString", "internal/bytealg.IndexByteString", "internal/bytealg.IndexString"], unfollowed := true, recurses := true, named := ["unicode/utf8.first", "unicode/utf8.acceptRanges", "internal/bytealg.MaxLen"], apart := false, laid := [("unicode/utf8.acceptRanges", laid_unicode_utf8_acceptRanges), ("unicode/utf8.first", laid_unicode_utf8_first)] }
def CoordOrderSaid : Prop := coordOrderRow.holds Tryd.pinned (OpenSpec.ofChange coordOrderSpec)

/-- ITS FALSE NEIGHBOUR: 'it returns false'. Refute it at one input. -/
def coordOrderWrong : ChangeSpec := { name := "coordOrder", fn := fun _ => fun
  | [d1, d2, d3] => { results := [.lit (.bool false)], args := [d1, d2, d3] }
  | _ => none }
def CoordOrderWrongFalsely : Prop := coordOrderRow.holds Tryd.pinned (OpenSpec.ofChange coordOrderWrong)

/-- 'newellaw08.ChooseTells': WHATEVER THE INPUT: true; the input reads as it did. -/
def chooseTellsSpec : ChangeSpec := { name := "chooseTells", fn := fun _ => fun
  | [d1, d2, d3] => { results := [.lit (.bool true)], args := [d1, d2, d3] }
  | _ => none }
def chooseTellsRow : OpenClaim := { program := "ytgdjfcmmpjcaaaadoor", sum := "5db79c3e437f873b3ec4f508304b799c0619fb2b28c7852ad833239dfa1ab56b", func := "newel/newellaw08.ChooseTells", spec := "chooseTells", inPlace := ["internal/bytealg.IndexByteString", "internal/bytealg.IndexString"], unfollowed := true, recurses := true, named := ["internal/bytealg.MaxLen", "unicode/utf8.first", "unicode/utf8.acceptRanges"], apart := false, laid := [("unicode/utf8.acceptRanges", laid_unicode_utf8_acceptRanges), ("unicode/utf8.first", laid_unicode_utf8_first)] }
def ChooseTellsSaid : Prop := chooseTellsRow.holds Tryd.pinned (OpenSpec.ofChange chooseTellsSpec)

/-- ITS FALSE NEIGHBOUR: 'it returns false'. Refute it at one input. -/
def chooseTellsWrong : ChangeSpec := { name := "chooseTells", fn := fun _ => fun
  | [d1, d2, d3] => { results := [.lit (.bool false)], args := [d1, d2, d3] }
  | _ => none }
def ChooseTellsWrongFalsely : Prop := chooseTellsRow.holds Tryd.pinned (OpenSpec.ofChange chooseTellsWrong)

/-- 'newellaw08.ChooseHolds': WHATEVER THE INPUT: true; the input reads as it did. -/
def chooseHoldsSpec : ChangeSpec := { name := "chooseHolds", fn := fun _ => fun
  | [d1, d2, d3] => { results := [.lit (.bool true)], args := [d1, d2, d3] }
  | _ => none }
def chooseHoldsRow : OpenClaim := { program := "ytgdjfcmmpjcaaaadoor", sum := "5db79c3e437f873b3ec4f508304b799c0619fb2b28c7852ad833239dfa1ab56b", func := "newel/newellaw08.ChooseHolds", spec := "chooseHolds", inPlace := ["internal/bytealg.IndexByteString", "internal/bytealg.IndexString"], unfollowed := true, recurses := true, named := ["internal/bytealg.MaxLen", "unicode/utf8.first", "unicode/utf8.acceptRanges"], apart := false, laid := [("unicode/utf8.acceptRanges", laid_unicode_utf8_acceptRanges), ("unicode/utf8.first", laid_unicode_utf8_first)] }
def ChooseHoldsSaid : Prop := chooseHoldsRow.holds Tryd.pinned (OpenSpec.ofChange chooseHoldsSpec)

/-- ITS FALSE NEIGHBOUR: 'it returns false'. Refute it at one input. -/
def chooseHoldsWrong : ChangeSpec := { name := "chooseHolds", fn := fun _ => fun
  | [d1, d2, d3] => { results := [.lit (.bool false)], args := [d1, d2, d3] }
  | _ => none }
def ChooseHoldsWrongFalsely : Prop := chooseHoldsRow.holds Tryd.pinned (OpenSpec.ofChange chooseHoldsWrong)

/-- 'newellaw08.ChooseMore': WHATEVER THE INPUT: true; the input reads as it did. -/
def chooseMoreSpec : ChangeSpec := { name := "chooseMore", fn := fun _ => fun
  | [d1, d2, d3] => { results := [.lit (.bool true)], args := [d1, d2, d3] }
  | _ => none }
def chooseMoreRow : OpenClaim := { program := "ytgdjfcmmpjcaaaadoor", sum := "5db79c3e437f873b3ec4f508304b799c0619fb2b28c7852ad833239dfa1ab56b", func := "newel/newellaw08.ChooseMore", spec := "chooseMore", inPlace := ["internal/bytealg.IndexByteString", "internal/bytealg.IndexString"], unfollowed := true, recurses := true, named := ["internal/bytealg.MaxLen", "unicode/utf8.first", "unicode/utf8.acceptRanges"], apart := false, laid := [("unicode/utf8.acceptRanges", laid_unicode_utf8_acceptRanges), ("unicode/utf8.first", laid_unicode_utf8_first)] }
def ChooseMoreSaid : Prop := chooseMoreRow.holds Tryd.pinned (OpenSpec.ofChange chooseMoreSpec)

/-- ITS FALSE NEIGHBOUR: 'it returns false'. Refute it at one input. -/
def chooseMoreWrong : ChangeSpec := { name := "chooseMore", fn := fun _ => fun
  | [d1, d2, d3] => { results := [.lit (.bool false)], args := [d1, d2, d3] }
  | _ => none }
def ChooseMoreWrongFalsely : Prop := chooseMoreRow.holds Tryd.pinned (OpenSpec.ofChange chooseMoreWrong)

/-- 'newellaw08.ChoosePlain': WHATEVER THE INPUT: true; the input reads as it did. -/
def choosePlainSpec : ChangeSpec := { name := "choosePlain", fn := fun _ => fun
  | [d1, d2] => { results := [.lit (.bool true)], args := [d1, d2] }
  | _ => none }
def choosePlainRow : OpenClaim := { program := "ytgdjfcmmpjcaaaadoor", sum := "5db79c3e437f873b3ec4f508304b799c0619fb2b28c7852ad833239dfa1ab56b", func := "newel/newellaw08.ChoosePlain", spec := "choosePlain", inPlace := ["internal/bytealg.IndexByteString", "internal/bytealg.IndexString"], unfollowed := true, recurses := true, named := ["internal/bytealg.MaxLen", "unicode/utf8.first", "unicode/utf8.acceptRanges"], apart := false, laid := [("unicode/utf8.acceptRanges", laid_unicode_utf8_acceptRanges), ("unicode/utf8.first", laid_unicode_utf8_first)] }
def ChoosePlainSaid : Prop := choosePlainRow.holds Tryd.pinned (OpenSpec.ofChange choosePlainSpec)

/-- ITS FALSE NEIGHBOUR: 'it returns false'. Refute it at one input. -/
def choosePlainWrong : ChangeSpec := { name := "choosePlain", fn := fun _ => fun
  | [d1, d2] => { results := [.lit (.bool false)], args := [d1, d2] }
  | _ => none }
def ChoosePlainWrongFalsely : Prop := choosePlainRow.holds Tryd.pinned (OpenSpec.ofChange choosePlainWrong)

/-- 'newellaw07.SpanEdges': WHATEVER THE INPUT: true; the input reads as it did. -/
def spanEdgesSpec : ChangeSpec := { name := "spanEdges", fn := fun _ => fun
  | [d1, d2, d3, d4, d5] => { results := [.lit (.bool true)], args := [d1, d2, d3, d4, d5] }
  | _ => none }
def spanEdgesRow : OpenClaim := { program := "ytgdjfcmmpjcaaaadoor", sum := "5db79c3e437f873b3ec4f508304b799c0619fb2b28c7852ad833239dfa1ab56b", func := "newel/newellaw07.SpanEdges", spec := "spanEdges", inPlace := ["internal/bytealg.IndexByteString", "internal/bytealg.IndexString", "internal/abi.NoEscape", "internal/bytealg.MakeNoZero"], unfollowed := true, recurses := true, named := ["internal/bytealg.MaxLen", "unicode/utf8.first", "unicode/utf8.acceptRanges"], apart := false, laid := [("unicode/utf8.acceptRanges", laid_unicode_utf8_acceptRanges), ("unicode/utf8.first", laid_unicode_utf8_first)] }
def SpanEdgesSaid : Prop := spanEdgesRow.holds Tryd.pinned (OpenSpec.ofChange spanEdgesSpec)

/-- ITS FALSE NEIGHBOUR: 'it returns false'. Refute it at one input. -/
def spanEdgesWrong : ChangeSpec := { name := "spanEdges", fn := fun _ => fun
  | [d1, d2, d3, d4, d5] => { results := [.lit (.bool false)], args := [d1, d2, d3, d4, d5] }
  | _ => none }
def SpanEdgesWrongFalsely : Prop := spanEdgesRow.holds Tryd.pinned (OpenSpec.ofChange spanEdgesWrong)

/-- 'newellaw07.SpanRefuses': WHATEVER THE INPUT: true; the input reads as it did. -/
def spanRefusesSpec : ChangeSpec := { name := "spanRefuses", fn := fun _ => fun
  | [d] => { results := [.lit (.bool true)], args := [d] }
  | _ => none }
def spanRefusesRow : OpenClaim := { program := "ytgdjfcmmpjcaaaadoor", sum := "5db79c3e437f873b3ec4f508304b799c0619fb2b28c7852ad833239dfa1ab56b", func := "newel/newellaw07.SpanRefuses", spec := "spanRefuses", inPlace := ["internal/bytealg.IndexByteString", "internal/bytealg.IndexString", "internal/abi.NoEscape", "internal/bytealg.MakeNoZero"], unfollowed := true, recurses := true, named := ["internal/bytealg.MaxLen", "unicode/utf8.first", "unicode/utf8.acceptRanges"], apart := false, laid := [("unicode/utf8.acceptRanges", laid_unicode_utf8_acceptRanges), ("unicode/utf8.first", laid_unicode_utf8_first)] }
def SpanRefusesSaid : Prop := spanRefusesRow.holds Tryd.pinned (OpenSpec.ofChange spanRefusesSpec)

/-- ITS FALSE NEIGHBOUR: 'it returns false'. Refute it at one input. -/
def spanRefusesWrong : ChangeSpec := { name := "spanRefuses", fn := fun _ => fun
  | [d] => { results := [.lit (.bool false)], args := [d] }
  | _ => none }
def SpanRefusesWrongFalsely : Prop := spanRefusesRow.holds Tryd.pinned (OpenSpec.ofChange spanRefusesWrong)

/-- 'newellaw07.SpanTexts': WHATEVER THE INPUT: true; the input reads as it did. -/
def spanTextsSpec : ChangeSpec := { name := "spanTexts", fn := fun _ => fun
  | [d1, d2] => { results := [.lit (.bool true)], args := [d1, d2] }
  | _ => none }
def spanTextsRow : OpenClaim := { program := "ytgdjfcmmpjcaaaadoor", sum := "5db79c3e437f873b3ec4f508304b799c0619fb2b28c7852ad833239dfa1ab56b", func := "newel/newellaw07.SpanTexts", spec := "spanTexts", inPlace := ["internal/bytealg.IndexByteString", "internal/bytealg.IndexString", "internal/abi.NoEscape", "internal/bytealg.MakeNoZero"], unfollowed := true, recurses := true, named := ["internal/bytealg.MaxLen", "unicode/utf8.first", "unicode/utf8.acceptRanges"], apart := false, laid := [("unicode/utf8.acceptRanges", laid_unicode_utf8_acceptRanges), ("unicode/utf8.first", laid_unicode_utf8_first)] }
def SpanTextsSaid : Prop := spanTextsRow.holds Tryd.pinned (OpenSpec.ofChange spanTextsSpec)

/-- ITS FALSE NEIGHBOUR: 'it returns false'. Refute it at one input. -/
def spanTextsWrong : ChangeSpec := { name := "spanTexts", fn := fun _ => fun
  | [d1, d2] => { results := [.lit (.bool false)], args := [d1, d2] }
  | _ => none }
def SpanTextsWrongFalsely : Prop := spanTextsRow.holds Tryd.pinned (OpenSpec.ofChange spanTextsWrong)

/-- 'newellaw07.SpanMany': WHATEVER THE INPUT: true; the input reads as it did. -/
def spanManySpec : ChangeSpec := { name := "spanMany", fn := fun _ => fun
  | [d1, d2] => { results := [.lit (.bool true)], args := [d1, d2] }
  | _ => none }
def spanManyRow : OpenClaim := { program := "ytgdjfcmmpjcaaaadoor", sum := "5db79c3e437f873b3ec4f508304b799c0619fb2b28c7852ad833239dfa1ab56b", func := "newel/newellaw07.SpanMany", spec := "spanMany", inPlace := ["internal/bytealg.IndexByteString", "internal/bytealg.IndexString", "internal/abi.NoEscape", "internal/bytealg.MakeNoZero"], unfollowed := true, recurses := true, named := ["internal/bytealg.MaxLen", "unicode/utf8.first", "unicode/utf8.acceptRanges"], apart := false, laid := [("unicode/utf8.acceptRanges", laid_unicode_utf8_acceptRanges), ("unicode/utf8.first", laid_unicode_utf8_first)] }
def SpanManySaid : Prop := spanManyRow.holds Tryd.pinned (OpenSpec.ofChange spanManySpec)

/-- ITS FALSE NEIGHBOUR: 'it returns false'. Refute it at one input. -/
def spanManyWrong : ChangeSpec := { name := "spanMany", fn := fun _ => fun
  | [d1, d2] => { results := [.lit (.bool false)], args := [d1, d2] }
  | _ => none }
def SpanManyWrongFalsely : Prop := spanManyRow.holds Tryd.pinned (OpenSpec.ofChange spanManyWrong)

/- THE SECOND FORM. 'bulk': how many values and letters a reading holds, each counted each time it is reached (what is shared counts as often as it is met; a slice's spare places count too). A statement '..UptoSaid' is the law's where the arguments, and the package variables that the reading takes, are together of bulk at most 1048576: NARROWER than '..Said'. Prove '..Said' where nothing that the law and all that it calls make is longer than what came in: it says more and counts as full. Else prove '..UptoSaid'. A law counts once. -/
mutual
def uptoBulk {H : Type} : DataW H → Nat
  | .lit (.string bytes) => bytes.length + 1
  | .lit _ => 1
  | .nil => 1
  | .ptr d => uptoBulk d + 1
  | .slice elems spare => uptoBulkAll elems + uptoBulkAll spare + 1
  | .agg parts => uptoBulkAll parts + 1
  | .iface _ d => uptoBulk d + 1
  | .map entries => uptoBulkEntries entries + 1
  | .held _ => 1
def uptoBulkAll {H : Type} : List (DataW H) → Nat
  | [] => 0
  | d :: r => uptoBulk d + uptoBulkAll r
def uptoBulkEntries {H : Type} : List (Lit × DataW H) → Nat
  | [] => 0
  | x :: r => uptoBulkEntry x + uptoBulkEntries r
def uptoBulkEntry {H : Type} : Lit × DataW H → Nat
  | (.string bytes, d) => bytes.length + uptoBulk d + 1
  | (_, d) => uptoBulk d + 1
 end
def uptoSmall : (H : Type) → List (DataW H) → Bool := fun _ ds => decide (uptoBulkAll ds ≤ 1048576)
def OpenSpec.upto (s : _root_.Go.ChangeSpec) : _root_.Go.OpenSpec := { _root_.Go.OpenSpec.ofChange s with cond := some uptoSmall }

/-- 'newellaw09.CoordKeys', WHERE WHAT IT READS IS OF BULK AT MOST 1048576: true; the input reads as it did. -/
def coordKeysUptoRow : OpenClaim := { program := "ytgdjfcmmpjcaaaadoor", sum := "5db79c3e437f873b3ec4f508304b799c0619fb2b28c7852ad833239dfa1ab56b", func := "newel/newellaw09.CoordKeys", spec := "coordKeys", inPlace := ["internal/bytealg.CountString", "internal/bytealg.IndexByteString", "internal/bytealg.IndexString"], unfollowed := true, recurses := true, named := ["unicode/utf8.first", "unicode/utf8.acceptRanges", "internal/bytealg.MaxLen"], apart := false, laid := [("unicode/utf8.acceptRanges", laid_unicode_utf8_acceptRanges), ("unicode/utf8.first", laid_unicode_utf8_first)], narrowed := true }
def CoordKeysUptoSaid : Prop := coordKeysUptoRow.holds Tryd.pinned (OpenSpec.upto coordKeysSpec)

/-- 'newellaw09.CoordIds', WHERE WHAT IT READS IS OF BULK AT MOST 1048576: true; the input reads as it did. -/
def coordIdsUptoRow : OpenClaim := { program := "ytgdjfcmmpjcaaaadoor", sum := "5db79c3e437f873b3ec4f508304b799c0619fb2b28c7852ad833239dfa1ab56b", func := "newel/newellaw09.CoordIds", spec := "coordIds", inPlace := ["internal/bytealg.CountString", "internal/bytealg.IndexByteString", "internal/bytealg.IndexString"], unfollowed := true, recurses := true, named := ["unicode/utf8.first", "unicode/utf8.acceptRanges", "internal/bytealg.MaxLen"], apart := false, laid := [("unicode/utf8.acceptRanges", laid_unicode_utf8_acceptRanges), ("unicode/utf8.first", laid_unicode_utf8_first)], narrowed := true }
def CoordIdsUptoSaid : Prop := coordIdsUptoRow.holds Tryd.pinned (OpenSpec.upto coordIdsSpec)

/-- 'newellaw05.WordsTell', WHERE WHAT IT READS IS OF BULK AT MOST 1048576: true; the input reads as it did. -/
def wordsTellUptoRow : OpenClaim := { program := "ytgdjfcmmpjcaaaadoor", sum := "5db79c3e437f873b3ec4f508304b799c0619fb2b28c7852ad833239dfa1ab56b", func := "newel/newellaw05.WordsTell", spec := "wordsTell", inPlace := ["internal/bytealg.IndexByteString", "internal/bytealg.IndexString"], unfollowed := true, recurses := true, named := ["unicode/utf8.first", "unicode/utf8.acceptRanges", "internal/bytealg.MaxLen"], apart := false, laid := [("unicode/utf8.acceptRanges", laid_unicode_utf8_acceptRanges), ("unicode/utf8.first", laid_unicode_utf8_first)], narrowed := true }
def WordsTellUptoSaid : Prop := wordsTellUptoRow.holds Tryd.pinned (OpenSpec.upto wordsTellSpec)

/-- 'newellaw05.WordsForm', WHERE WHAT IT READS IS OF BULK AT MOST 1048576: true; the input reads as it did. -/
def wordsFormUptoRow : OpenClaim := { program := "ytgdjfcmmpjcaaaadoor", sum := "5db79c3e437f873b3ec4f508304b799c0619fb2b28c7852ad833239dfa1ab56b", func := "newel/newellaw05.WordsForm", spec := "wordsForm", inPlace := ["internal/bytealg.IndexByteString", "internal/bytealg.IndexString"], unfollowed := true, recurses := true, named := ["unicode/utf8.first", "unicode/utf8.acceptRanges", "internal/bytealg.MaxLen"], apart := false, laid := [("unicode/utf8.acceptRanges", laid_unicode_utf8_acceptRanges), ("unicode/utf8.first", laid_unicode_utf8_first)], narrowed := true }
def WordsFormUptoSaid : Prop := wordsFormUptoRow.holds Tryd.pinned (OpenSpec.upto wordsFormSpec)

/-- 'newellaw05.WordsZeros', WHERE WHAT IT READS IS OF BULK AT MOST 1048576: true; the input reads as it did. -/
def wordsZerosUptoRow : OpenClaim := { program := "ytgdjfcmmpjcaaaadoor", sum := "5db79c3e437f873b3ec4f508304b799c0619fb2b28c7852ad833239dfa1ab56b", func := "newel/newellaw05.WordsZeros", spec := "wordsZeros", inPlace := ["internal/bytealg.IndexByteString", "internal/bytealg.IndexString"], unfollowed := true, recurses := true, named := ["unicode/utf8.first", "unicode/utf8.acceptRanges", "internal/bytealg.MaxLen"], apart := false, laid := [("unicode/utf8.acceptRanges", laid_unicode_utf8_acceptRanges), ("unicode/utf8.first", laid_unicode_utf8_first)], narrowed := true }
def WordsZerosUptoSaid : Prop := wordsZerosUptoRow.holds Tryd.pinned (OpenSpec.upto wordsZerosSpec)

/-- 'newellaw05.WordsShort', WHERE WHAT IT READS IS OF BULK AT MOST 1048576: true; the input reads as it did. -/
def wordsShortUptoRow : OpenClaim := { program := "ytgdjfcmmpjcaaaadoor", sum := "5db79c3e437f873b3ec4f508304b799c0619fb2b28c7852ad833239dfa1ab56b", func := "newel/newellaw05.WordsShort", spec := "wordsShort", inPlace := ["internal/bytealg.IndexByteString", "internal/bytealg.IndexString"], unfollowed := true, recurses := true, named := ["unicode/utf8.first", "unicode/utf8.acceptRanges", "internal/bytealg.MaxLen"], apart := false, laid := [("unicode/utf8.acceptRanges", laid_unicode_utf8_acceptRanges), ("unicode/utf8.first", laid_unicode_utf8_first)], narrowed := true }
def WordsShortUptoSaid : Prop := wordsShortUptoRow.holds Tryd.pinned (OpenSpec.upto wordsShortSpec)

/-- 'newellaw05.WordsParts', WHERE WHAT IT READS IS OF BULK AT MOST 1048576: true; the input reads as it did. -/
def wordsPartsUptoRow : OpenClaim := { program := "ytgdjfcmmpjcaaaadoor", sum := "5db79c3e437f873b3ec4f508304b799c0619fb2b28c7852ad833239dfa1ab56b", func := "newel/newellaw05.WordsParts", spec := "wordsParts", inPlace := ["internal/bytealg.IndexByteString", "internal/bytealg.IndexString"], unfollowed := true, recurses := true, named := ["unicode/utf8.first", "unicode/utf8.acceptRanges", "internal/bytealg.MaxLen"], apart := false, laid := [("unicode/utf8.acceptRanges", laid_unicode_utf8_acceptRanges), ("unicode/utf8.first", laid_unicode_utf8_first)], narrowed := true }
def WordsPartsUptoSaid : Prop := wordsPartsUptoRow.holds Tryd.pinned (OpenSpec.upto wordsPartsSpec)

/-- 'newellaw05.WordsRight', WHERE WHAT IT READS IS OF BULK AT MOST 1048576: true; the input reads as it did. -/
def wordsRightUptoRow : OpenClaim := { program := "ytgdjfcmmpjcaaaadoor", sum := "5db79c3e437f873b3ec4f508304b799c0619fb2b28c7852ad833239dfa1ab56b", func := "newel/newellaw05.WordsRight", spec := "wordsRight", inPlace := ["internal/bytealg.IndexByteString", "internal/bytealg.IndexString"], unfollowed := true, recurses := true, named := ["unicode/utf8.first", "unicode/utf8.acceptRanges", "internal/bytealg.MaxLen"], apart := false, laid := [("unicode/utf8.acceptRanges", laid_unicode_utf8_acceptRanges), ("unicode/utf8.first", laid_unicode_utf8_first)], narrowed := true }
def WordsRightUptoSaid : Prop := wordsRightUptoRow.holds Tryd.pinned (OpenSpec.upto wordsRightSpec)

/-- 'newellaw09.CoordTells', WHERE WHAT IT READS IS OF BULK AT MOST 1048576: true; the input reads as it did. -/
def coordTellsUptoRow : OpenClaim := { program := "ytgdjfcmmpjcaaaadoor", sum := "5db79c3e437f873b3ec4f508304b799c0619fb2b28c7852ad833239dfa1ab56b", func := "newel/newellaw09.CoordTells", spec := "coordTells", inPlace := ["internal/bytealg.CountString", "internal/bytealg.IndexByteString", "internal/bytealg.IndexString"], unfollowed := true, recurses := true, named := ["unicode/utf8.first", "unicode/utf8.acceptRanges", "internal/bytealg.MaxLen"], apart := false, laid := [("unicode/utf8.acceptRanges", laid_unicode_utf8_acceptRanges), ("unicode/utf8.first", laid_unicode_utf8_first)], narrowed := true }
def CoordTellsUptoSaid : Prop := coordTellsUptoRow.holds Tryd.pinned (OpenSpec.upto coordTellsSpec)

/-- 'newellaw09.CoordBack', WHERE WHAT IT READS IS OF BULK AT MOST 1048576: true; the input reads as it did. -/
def coordBackUptoRow : OpenClaim := { program := "ytgdjfcmmpjcaaaadoor", sum := "5db79c3e437f873b3ec4f508304b799c0619fb2b28c7852ad833239dfa1ab56b", func := "newel/newellaw09.CoordBack", spec := "coordBack", inPlace := ["internal/bytealg.CountString", "internal/bytealg.IndexByteString", "internal/bytealg.IndexString"], unfollowed := true, recurses := true, named := ["unicode/utf8.first", "unicode/utf8.acceptRanges", "internal/bytealg.MaxLen"], apart := false, laid := [("unicode/utf8.acceptRanges", laid_unicode_utf8_acceptRanges), ("unicode/utf8.first", laid_unicode_utf8_first)], narrowed := true }
def CoordBackUptoSaid : Prop := coordBackUptoRow.holds Tryd.pinned (OpenSpec.upto coordBackSpec)

/-- 'newellaw09.CoordOrder', WHERE WHAT IT READS IS OF BULK AT MOST 1048576: true; the input reads as it did. -/
def coordOrderUptoRow : OpenClaim := { program := "ytgdjfcmmpjcaaaadoor", sum := "5db79c3e437f873b3ec4f508304b799c0619fb2b28c7852ad833239dfa1ab56b", func := "newel/newellaw09.CoordOrder", spec := "coordOrder", inPlace := ["internal/bytealg.CountString", "internal/bytealg.IndexByteString", "internal/bytealg.IndexString"], unfollowed := true, recurses := true, named := ["unicode/utf8.first", "unicode/utf8.acceptRanges", "internal/bytealg.MaxLen"], apart := false, laid := [("unicode/utf8.acceptRanges", laid_unicode_utf8_acceptRanges), ("unicode/utf8.first", laid_unicode_utf8_first)], narrowed := true }
def CoordOrderUptoSaid : Prop := coordOrderUptoRow.holds Tryd.pinned (OpenSpec.upto coordOrderSpec)

/-- 'newellaw08.ChooseTells', WHERE WHAT IT READS IS OF BULK AT MOST 1048576: true; the input reads as it did. -/
def chooseTellsUptoRow : OpenClaim := { program := "ytgdjfcmmpjcaaaadoor", sum := "5db79c3e437f873b3ec4f508304b799c0619fb2b28c7852ad833239dfa1ab56b", func := "newel/newellaw08.ChooseTells", spec := "chooseTells", inPlace := ["internal/bytealg.IndexByteString", "internal/bytealg.IndexString"], unfollowed := true, recurses := true, named := ["internal/bytealg.MaxLen", "unicode/utf8.first", "unicode/utf8.acceptRanges"], apart := false, laid := [("unicode/utf8.acceptRanges", laid_unicode_utf8_acceptRanges), ("unicode/utf8.first", laid_unicode_utf8_first)], narrowed := true }
def ChooseTellsUptoSaid : Prop := chooseTellsUptoRow.holds Tryd.pinned (OpenSpec.upto chooseTellsSpec)

/-- 'newellaw08.ChooseHolds', WHERE WHAT IT READS IS OF BULK AT MOST 1048576: true; the input reads as it did. -/
def chooseHoldsUptoRow : OpenClaim := { program := "ytgdjfcmmpjcaaaadoor", sum := "5db79c3e437f873b3ec4f508304b799c0619fb2b28c7852ad833239dfa1ab56b", func := "newel/newellaw08.ChooseHolds", spec := "chooseHolds", inPlace := ["internal/bytealg.IndexByteString", "internal/bytealg.IndexString"], unfollowed := true, recurses := true, named := ["internal/bytealg.MaxLen", "unicode/utf8.first", "unicode/utf8.acceptRanges"], apart := false, laid := [("unicode/utf8.acceptRanges", laid_unicode_utf8_acceptRanges), ("unicode/utf8.first", laid_unicode_utf8_first)], narrowed := true }
def ChooseHoldsUptoSaid : Prop := chooseHoldsUptoRow.holds Tryd.pinned (OpenSpec.upto chooseHoldsSpec)

/-- 'newellaw08.ChooseMore', WHERE WHAT IT READS IS OF BULK AT MOST 1048576: true; the input reads as it did. -/
def chooseMoreUptoRow : OpenClaim := { program := "ytgdjfcmmpjcaaaadoor", sum := "5db79c3e437f873b3ec4f508304b799c0619fb2b28c7852ad833239dfa1ab56b", func := "newel/newellaw08.ChooseMore", spec := "chooseMore", inPlace := ["internal/bytealg.IndexByteString", "internal/bytealg.IndexString"], unfollowed := true, recurses := true, named := ["internal/bytealg.MaxLen", "unicode/utf8.first", "unicode/utf8.acceptRanges"], apart := false, laid := [("unicode/utf8.acceptRanges", laid_unicode_utf8_acceptRanges), ("unicode/utf8.first", laid_unicode_utf8_first)], narrowed := true }
def ChooseMoreUptoSaid : Prop := chooseMoreUptoRow.holds Tryd.pinned (OpenSpec.upto chooseMoreSpec)

/-- 'newellaw08.ChoosePlain', WHERE WHAT IT READS IS OF BULK AT MOST 1048576: true; the input reads as it did. -/
def choosePlainUptoRow : OpenClaim := { program := "ytgdjfcmmpjcaaaadoor", sum := "5db79c3e437f873b3ec4f508304b799c0619fb2b28c7852ad833239dfa1ab56b", func := "newel/newellaw08.ChoosePlain", spec := "choosePlain", inPlace := ["internal/bytealg.IndexByteString", "internal/bytealg.IndexString"], unfollowed := true, recurses := true, named := ["internal/bytealg.MaxLen", "unicode/utf8.first", "unicode/utf8.acceptRanges"], apart := false, laid := [("unicode/utf8.acceptRanges", laid_unicode_utf8_acceptRanges), ("unicode/utf8.first", laid_unicode_utf8_first)], narrowed := true }
def ChoosePlainUptoSaid : Prop := choosePlainUptoRow.holds Tryd.pinned (OpenSpec.upto choosePlainSpec)

/-- 'newellaw07.SpanEdges', WHERE WHAT IT READS IS OF BULK AT MOST 1048576: true; the input reads as it did. -/
def spanEdgesUptoRow : OpenClaim := { program := "ytgdjfcmmpjcaaaadoor", sum := "5db79c3e437f873b3ec4f508304b799c0619fb2b28c7852ad833239dfa1ab56b", func := "newel/newellaw07.SpanEdges", spec := "spanEdges", inPlace := ["internal/bytealg.IndexByteString", "internal/bytealg.IndexString", "internal/abi.NoEscape", "internal/bytealg.MakeNoZero"], unfollowed := true, recurses := true, named := ["internal/bytealg.MaxLen", "unicode/utf8.first", "unicode/utf8.acceptRanges"], apart := false, laid := [("unicode/utf8.acceptRanges", laid_unicode_utf8_acceptRanges), ("unicode/utf8.first", laid_unicode_utf8_first)], narrowed := true }
def SpanEdgesUptoSaid : Prop := spanEdgesUptoRow.holds Tryd.pinned (OpenSpec.upto spanEdgesSpec)

/-- 'newellaw07.SpanRefuses', WHERE WHAT IT READS IS OF BULK AT MOST 1048576: true; the input reads as it did. -/
def spanRefusesUptoRow : OpenClaim := { program := "ytgdjfcmmpjcaaaadoor", sum := "5db79c3e437f873b3ec4f508304b799c0619fb2b28c7852ad833239dfa1ab56b", func := "newel/newellaw07.SpanRefuses", spec := "spanRefuses", inPlace := ["internal/bytealg.IndexByteString", "internal/bytealg.IndexString", "internal/abi.NoEscape", "internal/bytealg.MakeNoZero"], unfollowed := true, recurses := true, named := ["internal/bytealg.MaxLen", "unicode/utf8.first", "unicode/utf8.acceptRanges"], apart := false, laid := [("unicode/utf8.acceptRanges", laid_unicode_utf8_acceptRanges), ("unicode/utf8.first", laid_unicode_utf8_first)], narrowed := true }
def SpanRefusesUptoSaid : Prop := spanRefusesUptoRow.holds Tryd.pinned (OpenSpec.upto spanRefusesSpec)

/-- 'newellaw07.SpanTexts', WHERE WHAT IT READS IS OF BULK AT MOST 1048576: true; the input reads as it did. -/
def spanTextsUptoRow : OpenClaim := { program := "ytgdjfcmmpjcaaaadoor", sum := "5db79c3e437f873b3ec4f508304b799c0619fb2b28c7852ad833239dfa1ab56b", func := "newel/newellaw07.SpanTexts", spec := "spanTexts", inPlace := ["internal/bytealg.IndexByteString", "internal/bytealg.IndexString", "internal/abi.NoEscape", "internal/bytealg.MakeNoZero"], unfollowed := true, recurses := true, named := ["internal/bytealg.MaxLen", "unicode/utf8.first", "unicode/utf8.acceptRanges"], apart := false, laid := [("unicode/utf8.acceptRanges", laid_unicode_utf8_acceptRanges), ("unicode/utf8.first", laid_unicode_utf8_first)], narrowed := true }
def SpanTextsUptoSaid : Prop := spanTextsUptoRow.holds Tryd.pinned (OpenSpec.upto spanTextsSpec)

/-- 'newellaw07.SpanMany', WHERE WHAT IT READS IS OF BULK AT MOST 1048576: true; the input reads as it did. -/
def spanManyUptoRow : OpenClaim := { program := "ytgdjfcmmpjcaaaadoor", sum := "5db79c3e437f873b3ec4f508304b799c0619fb2b28c7852ad833239dfa1ab56b", func := "newel/newellaw07.SpanMany", spec := "spanMany", inPlace := ["internal/bytealg.IndexByteString", "internal/bytealg.IndexString", "internal/abi.NoEscape", "internal/bytealg.MakeNoZero"], unfollowed := true, recurses := true, named := ["internal/bytealg.MaxLen", "unicode/utf8.first", "unicode/utf8.acceptRanges"], apart := false, laid := [("unicode/utf8.acceptRanges", laid_unicode_utf8_acceptRanges), ("unicode/utf8.first", laid_unicode_utf8_first)], narrowed := true }
def SpanManyUptoSaid : Prop := spanManyUptoRow.holds Tryd.pinned (OpenSpec.upto spanManySpec)

end Rows
end Go.Proofs.YtgdjfcmmpjcaaaaDoor
