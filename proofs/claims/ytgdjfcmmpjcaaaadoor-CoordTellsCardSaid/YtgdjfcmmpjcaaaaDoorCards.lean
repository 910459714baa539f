/-
  DERIVED. GIVEN WITH THE SEED: THE CARDS: each row of YtgdjfcmmpjcaaaaDoorRows.lean that lists a variable, with what it lists TIED to the program's text (the seventh form; the later family's looks); each row that meets fmt, with fmt's text TOLD by the authors' own Lean function (tested against real Go, not proved from fmt's source: count such statements apart). THE CARD IS WHAT COUNTS. Prove the row's statement (the work); the ties are given (YtgdjfcmmpjcaaaaDoorTie.lean); close each card by the builder's one call (the guide's Derived/Test/ToyasCard.lean, 'card_holds'). Laid BY PROGRAM, IN A SANDBOX (cutbox-door.mjs). By AI agents, Wed Nov 11 2026. No macro, syntax, notation, axiom, sorry.
-/
import Derived.Test.YtgdjfcmmpjcaaaaDoorRows
import GoSem.ClaimSeven
namespace Go.Proofs.YtgdjfcmmpjcaaaaDoor
namespace Rows

/-- THE TIED CARD OF 'newellaw09.CoordKeys'. -/
def coordKeysCard : Claim7 := { stood := { row := coordKeysRow, standIns := [], harness := (true, "d271ae6d4a30b11d370ccb0fbe88b8c8abd982cad6f78105f02f0ee1a63e7592"), looks := false }, kinds := [], alts := [], laidByText := true, laidKinds := [.data, .pinned], laidTests := true, laidLooks := .later }
def CoordKeysCardSaid : Prop := Claim7.holds Tryd.pinned (.plain (OpenSpec.ofChange coordKeysSpec)) coordKeysCard

/-- THE TIED CARD OF 'newellaw09.CoordIds'. -/
def coordIdsCard : Claim7 := { stood := { row := coordIdsRow, standIns := [], harness := (true, "d271ae6d4a30b11d370ccb0fbe88b8c8abd982cad6f78105f02f0ee1a63e7592"), looks := false }, kinds := [], alts := [], laidByText := true, laidKinds := [.data, .pinned], laidTests := true, laidLooks := .later }
def CoordIdsCardSaid : Prop := Claim7.holds Tryd.pinned (.plain (OpenSpec.ofChange coordIdsSpec)) coordIdsCard

/-- THE TIED CARD OF 'newellaw05.WordsTell'. -/
def wordsTellCard : Claim7 := { stood := { row := wordsTellRow, standIns := [], harness := (true, "d271ae6d4a30b11d370ccb0fbe88b8c8abd982cad6f78105f02f0ee1a63e7592"), looks := false }, kinds := [], alts := [], laidByText := true, laidKinds := [.data, .pinned], laidTests := true, laidLooks := .later }
def WordsTellCardSaid : Prop := Claim7.holds Tryd.pinned (.plain (OpenSpec.ofChange wordsTellSpec)) wordsTellCard

/-- THE TIED CARD OF 'newellaw05.WordsForm'. -/
def wordsFormCard : Claim7 := { stood := { row := wordsFormRow, standIns := [], harness := (true, "d271ae6d4a30b11d370ccb0fbe88b8c8abd982cad6f78105f02f0ee1a63e7592"), looks := false }, kinds := [], alts := [], laidByText := true, laidKinds := [.data, .pinned], laidTests := true, laidLooks := .later }
def WordsFormCardSaid : Prop := Claim7.holds Tryd.pinned (.plain (OpenSpec.ofChange wordsFormSpec)) wordsFormCard

/-- THE TIED CARD OF 'newellaw05.WordsZeros'. -/
def wordsZerosCard : Claim7 := { stood := { row := wordsZerosRow, standIns := [], harness := (true, "d271ae6d4a30b11d370ccb0fbe88b8c8abd982cad6f78105f02f0ee1a63e7592"), looks := false }, kinds := [], alts := [], laidByText := true, laidKinds := [.data, .pinned], laidTests := true, laidLooks := .later }
def WordsZerosCardSaid : Prop := Claim7.holds Tryd.pinned (.plain (OpenSpec.ofChange wordsZerosSpec)) wordsZerosCard

/-- THE TIED CARD OF 'newellaw05.WordsShort'. -/
def wordsShortCard : Claim7 := { stood := { row := wordsShortRow, standIns := [], harness := (true, "d271ae6d4a30b11d370ccb0fbe88b8c8abd982cad6f78105f02f0ee1a63e7592"), looks := false }, kinds := [], alts := [], laidByText := true, laidKinds := [.data, .pinned], laidTests := true, laidLooks := .later }
def WordsShortCardSaid : Prop := Claim7.holds Tryd.pinned (.plain (OpenSpec.ofChange wordsShortSpec)) wordsShortCard

/-- THE TIED CARD OF 'newellaw05.WordsParts'. -/
def wordsPartsCard : Claim7 := { stood := { row := wordsPartsRow, standIns := [], harness := (true, "d271ae6d4a30b11d370ccb0fbe88b8c8abd982cad6f78105f02f0ee1a63e7592"), looks := false }, kinds := [], alts := [], laidByText := true, laidKinds := [.data, .pinned], laidTests := true, laidLooks := .later }
def WordsPartsCardSaid : Prop := Claim7.holds Tryd.pinned (.plain (OpenSpec.ofChange wordsPartsSpec)) wordsPartsCard

/-- THE TIED CARD OF 'newellaw05.WordsRight'. -/
def wordsRightCard : Claim7 := { stood := { row := wordsRightRow, standIns := [], harness := (true, "d271ae6d4a30b11d370ccb0fbe88b8c8abd982cad6f78105f02f0ee1a63e7592"), looks := false }, kinds := [], alts := [], laidByText := true, laidKinds := [.data, .pinned], laidTests := true, laidLooks := .later }
def WordsRightCardSaid : Prop := Claim7.holds Tryd.pinned (.plain (OpenSpec.ofChange wordsRightSpec)) wordsRightCard

/-- THE TIED CARD OF 'newellaw09.CoordTells'. -/
def coordTellsCard : Claim7 := { stood := { row := coordTellsRow, standIns := [], harness := (true, "d271ae6d4a30b11d370ccb0fbe88b8c8abd982cad6f78105f02f0ee1a63e7592"), looks := false }, kinds := [], alts := [], laidByText := true, laidKinds := [.data, .pinned], laidTests := true, laidLooks := .later }
def CoordTellsCardSaid : Prop := Claim7.holds Tryd.pinned (.plain (OpenSpec.ofChange coordTellsSpec)) coordTellsCard

/-- THE TIED CARD OF 'newellaw09.CoordBack'. -/
def coordBackCard : Claim7 := { stood := { row := coordBackRow, standIns := [], harness := (true, "d271ae6d4a30b11d370ccb0fbe88b8c8abd982cad6f78105f02f0ee1a63e7592"), looks := false }, kinds := [], alts := [], laidByText := true, laidKinds := [.data, .pinned], laidTests := true, laidLooks := .later }
def CoordBackCardSaid : Prop := Claim7.holds Tryd.pinned (.plain (OpenSpec.ofChange coordBackSpec)) coordBackCard

/-- THE TIED CARD OF 'newellaw09.CoordOrder'. -/
def coordOrderCard : Claim7 := { stood := { row := coordOrderRow, standIns := [], harness := (true, "d271ae6d4a30b11d370ccb0fbe88b8c8abd982cad6f78105f02f0ee1a63e7592"), looks := false }, kinds := [], alts := [], laidByText := true, laidKinds := [.data, .pinned], laidTests := true, laidLooks := .later }
def CoordOrderCardSaid : Prop := Claim7.holds Tryd.pinned (.plain (OpenSpec.ofChange coordOrderSpec)) coordOrderCard

/-- THE TIED CARD OF 'newellaw08.ChooseTells'. -/
def chooseTellsCard : Claim7 := { stood := { row := chooseTellsRow, standIns := [], harness := (true, "d271ae6d4a30b11d370ccb0fbe88b8c8abd982cad6f78105f02f0ee1a63e7592"), looks := false }, kinds := [], alts := [], laidByText := true, laidKinds := [.data, .pinned], laidTests := true, laidLooks := .later }
def ChooseTellsCardSaid : Prop := Claim7.holds Tryd.pinned (.plain (OpenSpec.ofChange chooseTellsSpec)) chooseTellsCard

/-- THE TIED CARD OF 'newellaw08.ChooseHolds'. -/
def chooseHoldsCard : Claim7 := { stood := { row := chooseHoldsRow, standIns := [], harness := (true, "d271ae6d4a30b11d370ccb0fbe88b8c8abd982cad6f78105f02f0ee1a63e7592"), looks := false }, kinds := [], alts := [], laidByText := true, laidKinds := [.data, .pinned], laidTests := true, laidLooks := .later }
def ChooseHoldsCardSaid : Prop := Claim7.holds Tryd.pinned (.plain (OpenSpec.ofChange chooseHoldsSpec)) chooseHoldsCard

/-- THE TIED CARD OF 'newellaw08.ChooseMore'. -/
def chooseMoreCard : Claim7 := { stood := { row := chooseMoreRow, standIns := [], harness := (true, "d271ae6d4a30b11d370ccb0fbe88b8c8abd982cad6f78105f02f0ee1a63e7592"), looks := false }, kinds := [], alts := [], laidByText := true, laidKinds := [.data, .pinned], laidTests := true, laidLooks := .later }
def ChooseMoreCardSaid : Prop := Claim7.holds Tryd.pinned (.plain (OpenSpec.ofChange chooseMoreSpec)) chooseMoreCard

/-- THE TIED CARD OF 'newellaw08.ChoosePlain'. -/
def choosePlainCard : Claim7 := { stood := { row := choosePlainRow, standIns := [], harness := (true, "d271ae6d4a30b11d370ccb0fbe88b8c8abd982cad6f78105f02f0ee1a63e7592"), looks := false }, kinds := [], alts := [], laidByText := true, laidKinds := [.data, .pinned], laidTests := true, laidLooks := .later }
def ChoosePlainCardSaid : Prop := Claim7.holds Tryd.pinned (.plain (OpenSpec.ofChange choosePlainSpec)) choosePlainCard

/-- THE TIED CARD OF 'newellaw07.SpanEdges'. -/
def spanEdgesCard : Claim7 := { stood := { row := spanEdgesRow, standIns := [], harness := (true, "d271ae6d4a30b11d370ccb0fbe88b8c8abd982cad6f78105f02f0ee1a63e7592"), looks := false }, kinds := [], alts := [], laidByText := true, laidKinds := [.data, .pinned], laidTests := true, laidLooks := .later }
def SpanEdgesCardSaid : Prop := Claim7.holds Tryd.pinned (.plain (OpenSpec.ofChange spanEdgesSpec)) spanEdgesCard

/-- THE TIED CARD OF 'newellaw07.SpanRefuses'. -/
def spanRefusesCard : Claim7 := { stood := { row := spanRefusesRow, standIns := [], harness := (true, "d271ae6d4a30b11d370ccb0fbe88b8c8abd982cad6f78105f02f0ee1a63e7592"), looks := false }, kinds := [], alts := [], laidByText := true, laidKinds := [.data, .pinned], laidTests := true, laidLooks := .later }
def SpanRefusesCardSaid : Prop := Claim7.holds Tryd.pinned (.plain (OpenSpec.ofChange spanRefusesSpec)) spanRefusesCard

/-- THE TIED CARD OF 'newellaw07.SpanTexts'. -/
def spanTextsCard : Claim7 := { stood := { row := spanTextsRow, standIns := [], harness := (true, "d271ae6d4a30b11d370ccb0fbe88b8c8abd982cad6f78105f02f0ee1a63e7592"), looks := false }, kinds := [], alts := [], laidByText := true, laidKinds := [.data, .pinned], laidTests := true, laidLooks := .later }
def SpanTextsCardSaid : Prop := Claim7.holds Tryd.pinned (.plain (OpenSpec.ofChange spanTextsSpec)) spanTextsCard

/-- THE TIED CARD OF 'newellaw07.SpanMany'. -/
def spanManyCard : Claim7 := { stood := { row := spanManyRow, standIns := [], harness := (true, "d271ae6d4a30b11d370ccb0fbe88b8c8abd982cad6f78105f02f0ee1a63e7592"), looks := false }, kinds := [], alts := [], laidByText := true, laidKinds := [.data, .pinned], laidTests := true, laidLooks := .later }
def SpanManyCardSaid : Prop := Claim7.holds Tryd.pinned (.plain (OpenSpec.ofChange spanManySpec)) spanManyCard

/-- THE SECOND FORM's CARD OF 'newellaw09.CoordKeys'. -/
def coordKeysUptoCard : Claim7 := { stood := { row := coordKeysUptoRow, standIns := [], harness := (true, "d271ae6d4a30b11d370ccb0fbe88b8c8abd982cad6f78105f02f0ee1a63e7592"), looks := false }, kinds := [], alts := [], laidByText := true, laidKinds := [.data, .pinned], laidTests := true, laidLooks := .later }
def CoordKeysUptoCardSaid : Prop := Claim7.holds Tryd.pinned (.plain (OpenSpec.upto coordKeysSpec)) coordKeysUptoCard

/-- THE SECOND FORM's CARD OF 'newellaw09.CoordIds'. -/
def coordIdsUptoCard : Claim7 := { stood := { row := coordIdsUptoRow, standIns := [], harness := (true, "d271ae6d4a30b11d370ccb0fbe88b8c8abd982cad6f78105f02f0ee1a63e7592"), looks := false }, kinds := [], alts := [], laidByText := true, laidKinds := [.data, .pinned], laidTests := true, laidLooks := .later }
def CoordIdsUptoCardSaid : Prop := Claim7.holds Tryd.pinned (.plain (OpenSpec.upto coordIdsSpec)) coordIdsUptoCard

/-- THE SECOND FORM's CARD OF 'newellaw05.WordsTell'. -/
def wordsTellUptoCard : Claim7 := { stood := { row := wordsTellUptoRow, standIns := [], harness := (true, "d271ae6d4a30b11d370ccb0fbe88b8c8abd982cad6f78105f02f0ee1a63e7592"), looks := false }, kinds := [], alts := [], laidByText := true, laidKinds := [.data, .pinned], laidTests := true, laidLooks := .later }
def WordsTellUptoCardSaid : Prop := Claim7.holds Tryd.pinned (.plain (OpenSpec.upto wordsTellSpec)) wordsTellUptoCard

/-- THE SECOND FORM's CARD OF 'newellaw05.WordsForm'. -/
def wordsFormUptoCard : Claim7 := { stood := { row := wordsFormUptoRow, standIns := [], harness := (true, "d271ae6d4a30b11d370ccb0fbe88b8c8abd982cad6f78105f02f0ee1a63e7592"), looks := false }, kinds := [], alts := [], laidByText := true, laidKinds := [.data, .pinned], laidTests := true, laidLooks := .later }
def WordsFormUptoCardSaid : Prop := Claim7.holds Tryd.pinned (.plain (OpenSpec.upto wordsFormSpec)) wordsFormUptoCard

/-- THE SECOND FORM's CARD OF 'newellaw05.WordsZeros'. -/
def wordsZerosUptoCard : Claim7 := { stood := { row := wordsZerosUptoRow, standIns := [], harness := (true, "d271ae6d4a30b11d370ccb0fbe88b8c8abd982cad6f78105f02f0ee1a63e7592"), looks := false }, kinds := [], alts := [], laidByText := true, laidKinds := [.data, .pinned], laidTests := true, laidLooks := .later }
def WordsZerosUptoCardSaid : Prop := Claim7.holds Tryd.pinned (.plain (OpenSpec.upto wordsZerosSpec)) wordsZerosUptoCard

/-- THE SECOND FORM's CARD OF 'newellaw05.WordsShort'. -/
def wordsShortUptoCard : Claim7 := { stood := { row := wordsShortUptoRow, standIns := [], harness := (true, "d271ae6d4a30b11d370ccb0fbe88b8c8abd982cad6f78105f02f0ee1a63e7592"), looks := false }, kinds := [], alts := [], laidByText := true, laidKinds := [.data, .pinned], laidTests := true, laidLooks := .later }
def WordsShortUptoCardSaid : Prop := Claim7.holds Tryd.pinned (.plain (OpenSpec.upto wordsShortSpec)) wordsShortUptoCard

/-- THE SECOND FORM's CARD OF 'newellaw05.WordsParts'. -/
def wordsPartsUptoCard : Claim7 := { stood := { row := wordsPartsUptoRow, standIns := [], harness := (true, "d271ae6d4a30b11d370ccb0fbe88b8c8abd982cad6f78105f02f0ee1a63e7592"), looks := false }, kinds := [], alts := [], laidByText := true, laidKinds := [.data, .pinned], laidTests := true, laidLooks := .later }
def WordsPartsUptoCardSaid : Prop := Claim7.holds Tryd.pinned (.plain (OpenSpec.upto wordsPartsSpec)) wordsPartsUptoCard

/-- THE SECOND FORM's CARD OF 'newellaw05.WordsRight'. -/
def wordsRightUptoCard : Claim7 := { stood := { row := wordsRightUptoRow, standIns := [], harness := (true, "d271ae6d4a30b11d370ccb0fbe88b8c8abd982cad6f78105f02f0ee1a63e7592"), looks := false }, kinds := [], alts := [], laidByText := true, laidKinds := [.data, .pinned], laidTests := true, laidLooks := .later }
def WordsRightUptoCardSaid : Prop := Claim7.holds Tryd.pinned (.plain (OpenSpec.upto wordsRightSpec)) wordsRightUptoCard

/-- THE SECOND FORM's CARD OF 'newellaw09.CoordTells'. -/
def coordTellsUptoCard : Claim7 := { stood := { row := coordTellsUptoRow, standIns := [], harness := (true, "d271ae6d4a30b11d370ccb0fbe88b8c8abd982cad6f78105f02f0ee1a63e7592"), looks := false }, kinds := [], alts := [], laidByText := true, laidKinds := [.data, .pinned], laidTests := true, laidLooks := .later }
def CoordTellsUptoCardSaid : Prop := Claim7.holds Tryd.pinned (.plain (OpenSpec.upto coordTellsSpec)) coordTellsUptoCard

/-- THE SECOND FORM's CARD OF 'newellaw09.CoordBack'. -/
def coordBackUptoCard : Claim7 := { stood := { row := coordBackUptoRow, standIns := [], harness := (true, "d271ae6d4a30b11d370ccb0fbe88b8c8abd982cad6f78105f02f0ee1a63e7592"), looks := false }, kinds := [], alts := [], laidByText := true, laidKinds := [.data, .pinned], laidTests := true, laidLooks := .later }
def CoordBackUptoCardSaid : Prop := Claim7.holds Tryd.pinned (.plain (OpenSpec.upto coordBackSpec)) coordBackUptoCard

/-- THE SECOND FORM's CARD OF 'newellaw09.CoordOrder'. -/
def coordOrderUptoCard : Claim7 := { stood := { row := coordOrderUptoRow, standIns := [], harness := (true, "d271ae6d4a30b11d370ccb0fbe88b8c8abd982cad6f78105f02f0ee1a63e7592"), looks := false }, kinds := [], alts := [], laidByText := true, laidKinds := [.data, .pinned], laidTests := true, laidLooks := .later }
def CoordOrderUptoCardSaid : Prop := Claim7.holds Tryd.pinned (.plain (OpenSpec.upto coordOrderSpec)) coordOrderUptoCard

/-- THE SECOND FORM's CARD OF 'newellaw08.ChooseTells'. -/
def chooseTellsUptoCard : Claim7 := { stood := { row := chooseTellsUptoRow, standIns := [], harness := (true, "d271ae6d4a30b11d370ccb0fbe88b8c8abd982cad6f78105f02f0ee1a63e7592"), looks := false }, kinds := [], alts := [], laidByText := true, laidKinds := [.data, .pinned], laidTests := true, laidLooks := .later }
def ChooseTellsUptoCardSaid : Prop := Claim7.holds Tryd.pinned (.plain (OpenSpec.upto chooseTellsSpec)) chooseTellsUptoCard

/-- THE SECOND FORM's CARD OF 'newellaw08.ChooseHolds'. -/
def chooseHoldsUptoCard : Claim7 := { stood := { row := chooseHoldsUptoRow, standIns := [], harness := (true, "d271ae6d4a30b11d370ccb0fbe88b8c8abd982cad6f78105f02f0ee1a63e7592"), looks := false }, kinds := [], alts := [], laidByText := true, laidKinds := [.data, .pinned], laidTests := true, laidLooks := .later }
def ChooseHoldsUptoCardSaid : Prop := Claim7.holds Tryd.pinned (.plain (OpenSpec.upto chooseHoldsSpec)) chooseHoldsUptoCard

/-- THE SECOND FORM's CARD OF 'newellaw08.ChooseMore'. -/
def chooseMoreUptoCard : Claim7 := { stood := { row := chooseMoreUptoRow, standIns := [], harness := (true, "d271ae6d4a30b11d370ccb0fbe88b8c8abd982cad6f78105f02f0ee1a63e7592"), looks := false }, kinds := [], alts := [], laidByText := true, laidKinds := [.data, .pinned], laidTests := true, laidLooks := .later }
def ChooseMoreUptoCardSaid : Prop := Claim7.holds Tryd.pinned (.plain (OpenSpec.upto chooseMoreSpec)) chooseMoreUptoCard

/-- THE SECOND FORM's CARD OF 'newellaw08.ChoosePlain'. -/
def choosePlainUptoCard : Claim7 := { stood := { row := choosePlainUptoRow, standIns := [], harness := (true, "d271ae6d4a30b11d370ccb0fbe88b8c8abd982cad6f78105f02f0ee1a63e7592"), looks := false }, kinds := [], alts := [], laidByText := true, laidKinds := [.data, .pinned], laidTests := true, laidLooks := .later }
def ChoosePlainUptoCardSaid : Prop := Claim7.holds Tryd.pinned (.plain (OpenSpec.upto choosePlainSpec)) choosePlainUptoCard

/-- THE SECOND FORM's CARD OF 'newellaw07.SpanEdges'. -/
def spanEdgesUptoCard : Claim7 := { stood := { row := spanEdgesUptoRow, standIns := [], harness := (true, "d271ae6d4a30b11d370ccb0fbe88b8c8abd982cad6f78105f02f0ee1a63e7592"), looks := false }, kinds := [], alts := [], laidByText := true, laidKinds := [.data, .pinned], laidTests := true, laidLooks := .later }
def SpanEdgesUptoCardSaid : Prop := Claim7.holds Tryd.pinned (.plain (OpenSpec.upto spanEdgesSpec)) spanEdgesUptoCard

/-- THE SECOND FORM's CARD OF 'newellaw07.SpanRefuses'. -/
def spanRefusesUptoCard : Claim7 := { stood := { row := spanRefusesUptoRow, standIns := [], harness := (true, "d271ae6d4a30b11d370ccb0fbe88b8c8abd982cad6f78105f02f0ee1a63e7592"), looks := false }, kinds := [], alts := [], laidByText := true, laidKinds := [.data, .pinned], laidTests := true, laidLooks := .later }
def SpanRefusesUptoCardSaid : Prop := Claim7.holds Tryd.pinned (.plain (OpenSpec.upto spanRefusesSpec)) spanRefusesUptoCard

/-- THE SECOND FORM's CARD OF 'newellaw07.SpanTexts'. -/
def spanTextsUptoCard : Claim7 := { stood := { row := spanTextsUptoRow, standIns := [], harness := (true, "d271ae6d4a30b11d370ccb0fbe88b8c8abd982cad6f78105f02f0ee1a63e7592"), looks := false }, kinds := [], alts := [], laidByText := true, laidKinds := [.data, .pinned], laidTests := true, laidLooks := .later }
def SpanTextsUptoCardSaid : Prop := Claim7.holds Tryd.pinned (.plain (OpenSpec.upto spanTextsSpec)) spanTextsUptoCard

/-- THE SECOND FORM's CARD OF 'newellaw07.SpanMany'. -/
def spanManyUptoCard : Claim7 := { stood := { row := spanManyUptoRow, standIns := [], harness := (true, "d271ae6d4a30b11d370ccb0fbe88b8c8abd982cad6f78105f02f0ee1a63e7592"), looks := false }, kinds := [], alts := [], laidByText := true, laidKinds := [.data, .pinned], laidTests := true, laidLooks := .later }
def SpanManyUptoCardSaid : Prop := Claim7.holds Tryd.pinned (.plain (OpenSpec.upto spanManySpec)) spanManyUptoCard
end Rows
end Go.Proofs.YtgdjfcmmpjcaaaaDoor
