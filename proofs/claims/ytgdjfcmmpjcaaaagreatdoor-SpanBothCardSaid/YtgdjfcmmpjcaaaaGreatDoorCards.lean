/-
  DERIVED. GIVEN WITH THE SEED: THE CARDS: each row of YtgdjfcmmpjcaaaaGreatDoorRows.lean that lists a variable, with what it lists TIED to the program's text (the seventh form; the later family's looks); each row that meets fmt, with fmt's text TOLD by the authors' own Lean function (tested against real Go, not proved from fmt's source: count such statements apart). THE CARD IS WHAT COUNTS. Prove the row's statement (the work); the ties are given (YtgdjfcmmpjcaaaaGreatDoorTie.lean); close each card by the builder's one call (the guide's Derived/Test/ToyasCard.lean, 'card_holds'). Laid BY PROGRAM, IN A SANDBOX (cutbox-door.mjs). By AI agents, Wed Nov 11 2026. No macro, syntax, notation, axiom, sorry.
-/
import Derived.Test.YtgdjfcmmpjcaaaaGreatDoorRows
import GoSem.ClaimSeven
namespace Go.Proofs.YtgdjfcmmpjcaaaaGreatDoor
namespace Rows

/-- THE TIED CARD OF 'newellaw07.SpanBoth'. -/
def spanBothCard : Claim7 := { stood := { row := spanBothRow, standIns := [], harness := (true, "e7523e04a884bdfa55788d6142766664e6c875315e3602a341c820f4015ae7e1"), looks := false }, kinds := [], alts := [], laidByText := true, laidKinds := [.data, .pinned], laidTests := true, laidLooks := .later }
def SpanBothCardSaid : Prop := Claim7.holds Tryz.pinned (.plain (OpenSpec.ofChange spanBothSpec)) spanBothCard

/-- THE SECOND FORM's CARD OF 'newellaw07.SpanBoth'. -/
def spanBothUptoCard : Claim7 := { stood := { row := spanBothUptoRow, standIns := [], harness := (true, "e7523e04a884bdfa55788d6142766664e6c875315e3602a341c820f4015ae7e1"), looks := false }, kinds := [], alts := [], laidByText := true, laidKinds := [.data, .pinned], laidTests := true, laidLooks := .later }
def SpanBothUptoCardSaid : Prop := Claim7.holds Tryz.pinned (.plain (OpenSpec.upto spanBothSpec)) spanBothUptoCard
end Rows
end Go.Proofs.YtgdjfcmmpjcaaaaGreatDoor
