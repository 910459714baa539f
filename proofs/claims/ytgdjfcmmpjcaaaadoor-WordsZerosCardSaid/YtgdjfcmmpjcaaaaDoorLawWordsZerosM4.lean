/- Texts put together: what functions of the program compute, and plain words about them. -/
import Derived.Test.YtgdjfcmmpjcaaaaDoorLawWordsZerosM1
import Derived.Test.YtgdjfcmmpjcaaaaDoorLawWordsZerosM3
import Derived.Test.YtgdjfcmmpjcaaaaDoorLawWordsZerosM2
import Derived.Test.YtgdjfcmmpjcaaaaDoorProg
import Derived.Test.YtgdjfcmmpjcaaaaDoorRows
import Derived.ChangeArms
import Derived.Deep.DeepHandedRow
import Derived.Shelf.Vars
import Derived.Below
import Derived.Deep.Draws
import Derived.Deep.AppendLies
import Derived.Maps.AppendAt
import Derived.OwnWalk
import Derived.Laws.BytesArg
import Derived.Laws.MakeOwn
import Derived.Laws.OwnMore
import Derived.Deep.OwnRows
import Derived.Tactics
import Derived.Lib.ConvBytes
import Derived.Laws.Slices
import Derived.WalkKit
import Derived.KernelRfl
import Derived.RowKit3
import Derived.Deep.LoopGhost
import Derived.Deep.QuietTactic
import Derived.BigQuiet
import Derived.WideLaws
import Derived.Deep.DeepCutAuto
import Derived.Deep.CutBlock
import Derived.Deep.RegionHeld3
import Derived.Laws.Rows
import Derived.Lib.AppendStr
import Derived.ArgAppend
import Derived.Laws.IdiomCopy
import Derived.OrdersHeld
import Derived.Laws.BitsLemmas
import Derived.RowKit
import Derived.Lib.IndexMore
import Derived.Lib.IndexAny

-- Printed by this session's wip/np.py over the kit's print program. Not trusted: Lean checks it.
namespace Go.Proofs.YtgdjfcmmpjcaaaaDoor.Q
open Go.RowKit Go.Proofs.YtgdjfcmmpjcaaaaDoorW.PrintWords Go.Proofs.YtgdjfcmmpjcaaaaDoorW.PrintLast Go.Proofs.YtgdjfcmmpjcaaaaDoorW.Own Go.Proofs.YtgdjfcmmpjcaaaaDoorW.PrintMore
attribute [local go_sem] max2_int min2_int max_two min_two max_three min_three max_four min_four
set_option linter.unusedVariables false
set_option linter.unusedSimpArgs false

/-! ### newellaw05_WordsZeros: function 7 -/
def newellaw05_WordsZeros.f (k : Nat) (a0 : Int) (a1 : Int) (a2 : Int) : Option (Bool) := (newelhelp_Digits.f k (wrap64 (Int.tmod (IntKind.u64.wrap (a0)) 1000))).bind fun t308 => (if t308.size + 1 ≤ 9223372036854775807 then ((newelhelp_Digits.f k (wrap64 (Int.tmod (IntKind.u64.wrap (a1)) 1000))).bind fun t309 => (if (t308 ++ (⟨#[46]⟩ : ByteArray)).size + t309.size ≤ 9223372036854775807 then ((some (([(⟨#[46, 48]⟩ : ByteArray), (⟨#[45, 48]⟩ : ByteArray), (⟨#[46, 48, 46, 48]⟩ : ByteArray), (⟨#[45, 103, 97]⟩ : ByteArray), (⟨#[46, 102, 105, 110, 97, 108]⟩ : ByteArray), (⟨#[45, 114, 101, 108, 101, 97, 115, 101]⟩ : ByteArray), (⟨#[45, 71, 65, 46, 48]⟩ : ByteArray), (⟨#[46, 48, 48]⟩ : ByteArray), (⟨#[45, 48, 45, 103, 97]⟩ : ByteArray)] : List ByteArray) : List ByteArray)).bind fun y310 => ((newellaw05_awake.f k).bind fun t313 => (if t313 = true then (if 0 ≤ (wrap64 (Int.tmod (IntKind.u64.wrap (a2)) 9)) then (if (wrap64 (Int.tmod (IntKind.u64.wrap (a2)) 9)) < (y310.length : Int) then (if ((t308 ++ (⟨#[46]⟩ : ByteArray)) ++ t309).size + (rdOf ByteArray.empty y310 (wrap64 (Int.tmod (IntKind.u64.wrap (a2)) 9))).size ≤ 9223372036854775807 then ((words_Split.f k (((t308 ++ (⟨#[46]⟩ : ByteArray)) ++ t309) ++ (rdOf ByteArray.empty y310 (wrap64 (Int.tmod (IntKind.u64.wrap (a2)) 9))))).bind fun t315 => ((words_Split.f k ((t308 ++ (⟨#[46]⟩ : ByteArray)) ++ t309)).bind fun t318 => ((api_Word_30.f k t315 t318).bind fun t321 => (if t321 = true then (if 1 + ((t308 ++ (⟨#[46]⟩ : ByteArray)) ++ t309).size ≤ 9223372036854775807 then ((words_Split.f k ((⟨#[48]⟩ : ByteArray) ++ ((t308 ++ (⟨#[46]⟩ : ByteArray)) ++ t309))).bind fun t322 => ((words_Split.f k ((t308 ++ (⟨#[46]⟩ : ByteArray)) ++ t309)).bind fun t325 => ((api_Word_30.f k t322 t325).bind fun t328 => (some t328)))) else (none)) else (some false))))) else (none)) else (none)) else (none)) else (some false)))) else (none))) else (none))
theorem newellaw05_WordsZeros.mono : ∀ a0 a1 a2 k, LeO (newellaw05_WordsZeros.f k a0 a1 a2) (newellaw05_WordsZeros.f (k + 1) a0 a1 a2) := by
  intro a0 a1 a2 k
  unfold newellaw05_WordsZeros.f
  repeat' first
      | (with_reducible exact api_Word_30.mono _ _ _)
      | (with_reducible exact newelhelp_Digits.mono _ _)
      | (with_reducible exact newellaw05_awake.mono _)
      | (with_reducible exact words_Split.mono _ _)
      | (with_reducible exact LeO.refl _)
      | (with_reducible exact LeO.none _)
      | (with_reducible refine LeO.ite ?_ ?_)
      | (with_reducible refine LeO.bind ?_ (fun _ => ?_))
      | exact api_Word_30.mono _ _ _
      | exact newelhelp_Digits.mono _ _
      | exact newellaw05_awake.mono _
      | exact words_Split.mono _ _
      | exact LeO.none _
      | refine LeO.ite ?_ ?_
      | refine LeO.bind ?_ (fun _ => ?_)
set_option maxHeartbeats 8000000 in
set_option maxRecDepth 100000 in
theorem newellaw05_WordsZeros.calls (k : Nat) (a0 : Int) (a1 : Int) (a2 : Int) (r : Bool) (w : World) (hG : Glob w) (h : newellaw05_WordsZeros.f k a0 a1 a2 = some r) (hr_ : r = true) :
    Calls Tryd.prog 7 #[.int .i64 a0, .int .i64 a1, .int .i64 a2] w fun e w' => e = .returned (.bool r) ∧ Below w.heap.size w w' := by
  have HG := Aside0.mk hG
  clear hG
  have HB := Aside0.mk (Below.refl w.heap.size w)
  have H : ((newelhelp_Digits.f k (wrap64 (Int.tmod (IntKind.u64.wrap (a0)) 1000))).bind fun t308 => (if t308.size + 1 ≤ 9223372036854775807 then ((newelhelp_Digits.f k (wrap64 (Int.tmod (IntKind.u64.wrap (a1)) 1000))).bind fun t309 => (if (t308 ++ (⟨#[46]⟩ : ByteArray)).size + t309.size ≤ 9223372036854775807 then ((some (([(⟨#[46, 48]⟩ : ByteArray), (⟨#[45, 48]⟩ : ByteArray), (⟨#[46, 48, 46, 48]⟩ : ByteArray), (⟨#[45, 103, 97]⟩ : ByteArray), (⟨#[46, 102, 105, 110, 97, 108]⟩ : ByteArray), (⟨#[45, 114, 101, 108, 101, 97, 115, 101]⟩ : ByteArray), (⟨#[45, 71, 65, 46, 48]⟩ : ByteArray), (⟨#[46, 48, 48]⟩ : ByteArray), (⟨#[45, 48, 45, 103, 97]⟩ : ByteArray)] : List ByteArray) : List ByteArray)).bind fun y310 => ((newellaw05_awake.f k).bind fun t313 => (if t313 = true then (if 0 ≤ (wrap64 (Int.tmod (IntKind.u64.wrap (a2)) 9)) then (if (wrap64 (Int.tmod (IntKind.u64.wrap (a2)) 9)) < (y310.length : Int) then (if ((t308 ++ (⟨#[46]⟩ : ByteArray)) ++ t309).size + (rdOf ByteArray.empty y310 (wrap64 (Int.tmod (IntKind.u64.wrap (a2)) 9))).size ≤ 9223372036854775807 then ((words_Split.f k (((t308 ++ (⟨#[46]⟩ : ByteArray)) ++ t309) ++ (rdOf ByteArray.empty y310 (wrap64 (Int.tmod (IntKind.u64.wrap (a2)) 9))))).bind fun t315 => ((words_Split.f k ((t308 ++ (⟨#[46]⟩ : ByteArray)) ++ t309)).bind fun t318 => ((api_Word_30.f k t315 t318).bind fun t321 => (if t321 = true then (if 1 + ((t308 ++ (⟨#[46]⟩ : ByteArray)) ++ t309).size ≤ 9223372036854775807 then ((words_Split.f k ((⟨#[48]⟩ : ByteArray) ++ ((t308 ++ (⟨#[46]⟩ : ByteArray)) ++ t309))).bind fun t322 => ((words_Split.f k ((t308 ++ (⟨#[46]⟩ : ByteArray)) ++ t309)).bind fun t325 => ((api_Word_30.f k t322 t325).bind fun t328 => (some t328)))) else (none)) else (some false))))) else (none)) else (none)) else (none)) else (some false)))) else (none))) else (none))) = some r := h
  clear h
  replace H := Option.bind_eq_some_iff.mp H
  obtain ⟨t308, A40, H⟩ := H
  replace H : (if t308.size + 1 ≤ 9223372036854775807 then ((newelhelp_Digits.f k (wrap64 (Int.tmod (IntKind.u64.wrap (a1)) 1000))).bind fun t309 => (if (t308 ++ (⟨#[46]⟩ : ByteArray)).size + t309.size ≤ 9223372036854775807 then ((some (([(⟨#[46, 48]⟩ : ByteArray), (⟨#[45, 48]⟩ : ByteArray), (⟨#[46, 48, 46, 48]⟩ : ByteArray), (⟨#[45, 103, 97]⟩ : ByteArray), (⟨#[46, 102, 105, 110, 97, 108]⟩ : ByteArray), (⟨#[45, 114, 101, 108, 101, 97, 115, 101]⟩ : ByteArray), (⟨#[45, 71, 65, 46, 48]⟩ : ByteArray), (⟨#[46, 48, 48]⟩ : ByteArray), (⟨#[45, 48, 45, 103, 97]⟩ : ByteArray)] : List ByteArray) : List ByteArray)).bind fun y310 => ((newellaw05_awake.f k).bind fun t313 => (if t313 = true then (if 0 ≤ (wrap64 (Int.tmod (IntKind.u64.wrap (a2)) 9)) then (if (wrap64 (Int.tmod (IntKind.u64.wrap (a2)) 9)) < (y310.length : Int) then (if ((t308 ++ (⟨#[46]⟩ : ByteArray)) ++ t309).size + (rdOf ByteArray.empty y310 (wrap64 (Int.tmod (IntKind.u64.wrap (a2)) 9))).size ≤ 9223372036854775807 then ((words_Split.f k (((t308 ++ (⟨#[46]⟩ : ByteArray)) ++ t309) ++ (rdOf ByteArray.empty y310 (wrap64 (Int.tmod (IntKind.u64.wrap (a2)) 9))))).bind fun t315 => ((words_Split.f k ((t308 ++ (⟨#[46]⟩ : ByteArray)) ++ t309)).bind fun t318 => ((api_Word_30.f k t315 t318).bind fun t321 => (if t321 = true then (if 1 + ((t308 ++ (⟨#[46]⟩ : ByteArray)) ++ t309).size ≤ 9223372036854775807 then ((words_Split.f k ((⟨#[48]⟩ : ByteArray) ++ ((t308 ++ (⟨#[46]⟩ : ByteArray)) ++ t309))).bind fun t322 => ((words_Split.f k ((t308 ++ (⟨#[46]⟩ : ByteArray)) ++ t309)).bind fun t325 => ((api_Word_30.f k t322 t325).bind fun t328 => (some t328)))) else (none)) else (some false))))) else (none)) else (none)) else (none)) else (some false)))) else (none))) else (none)) = some r := H
  have A4 := Aside0.mk A40
  clear A40
  by_cases c5 : t308.size + 1 ≤ 9223372036854775807
  · rw [if_pos c5] at H
    have c5b0 := eq_true c5
    have c5b1 : decide (t308.size + 1 ≤ 9223372036854775807) = true := decide_eq_true c5
    try have c5b2 : (9223372036854775807 < t308.size + 1) = False := eq_false (Nat.not_lt.2 c5)
    replace H := Option.bind_eq_some_iff.mp H
    obtain ⟨t309, A60, H⟩ := H
    replace H : (if (t308 ++ (⟨#[46]⟩ : ByteArray)).size + t309.size ≤ 9223372036854775807 then ((some (([(⟨#[46, 48]⟩ : ByteArray), (⟨#[45, 48]⟩ : ByteArray), (⟨#[46, 48, 46, 48]⟩ : ByteArray), (⟨#[45, 103, 97]⟩ : ByteArray), (⟨#[46, 102, 105, 110, 97, 108]⟩ : ByteArray), (⟨#[45, 114, 101, 108, 101, 97, 115, 101]⟩ : ByteArray), (⟨#[45, 71, 65, 46, 48]⟩ : ByteArray), (⟨#[46, 48, 48]⟩ : ByteArray), (⟨#[45, 48, 45, 103, 97]⟩ : ByteArray)] : List ByteArray) : List ByteArray)).bind fun y310 => ((newellaw05_awake.f k).bind fun t313 => (if t313 = true then (if 0 ≤ (wrap64 (Int.tmod (IntKind.u64.wrap (a2)) 9)) then (if (wrap64 (Int.tmod (IntKind.u64.wrap (a2)) 9)) < (y310.length : Int) then (if ((t308 ++ (⟨#[46]⟩ : ByteArray)) ++ t309).size + (rdOf ByteArray.empty y310 (wrap64 (Int.tmod (IntKind.u64.wrap (a2)) 9))).size ≤ 9223372036854775807 then ((words_Split.f k (((t308 ++ (⟨#[46]⟩ : ByteArray)) ++ t309) ++ (rdOf ByteArray.empty y310 (wrap64 (Int.tmod (IntKind.u64.wrap (a2)) 9))))).bind fun t315 => ((words_Split.f k ((t308 ++ (⟨#[46]⟩ : ByteArray)) ++ t309)).bind fun t318 => ((api_Word_30.f k t315 t318).bind fun t321 => (if t321 = true then (if 1 + ((t308 ++ (⟨#[46]⟩ : ByteArray)) ++ t309).size ≤ 9223372036854775807 then ((words_Split.f k ((⟨#[48]⟩ : ByteArray) ++ ((t308 ++ (⟨#[46]⟩ : ByteArray)) ++ t309))).bind fun t322 => ((words_Split.f k ((t308 ++ (⟨#[46]⟩ : ByteArray)) ++ t309)).bind fun t325 => ((api_Word_30.f k t322 t325).bind fun t328 => (some t328)))) else (none)) else (some false))))) else (none)) else (none)) else (none)) else (some false)))) else (none)) = some r := H
    have A6 := Aside0.mk A60
    clear A60
    by_cases c7 : (t308 ++ (⟨#[46]⟩ : ByteArray)).size + t309.size ≤ 9223372036854775807
    · rw [if_pos c7] at H
      have c7b0 := eq_true c7
      have c7b1 : decide ((t308 ++ (⟨#[46]⟩ : ByteArray)).size + t309.size ≤ 9223372036854775807) = true := decide_eq_true c7
      try have c7b2 : (9223372036854775807 < (t308 ++ (⟨#[46]⟩ : ByteArray)).size + t309.size) = False := eq_false (Nat.not_lt.2 c7)
      have c7n : (t308.size + 1) + t309.size ≤ 9223372036854775807 := by have z_ := c7; simp only [ByteArray.size_append] at z_; exact z_
      have c7m : (9223372036854775807 < (t308.size + 1) + t309.size) = False := eq_false (Nat.not_lt.2 c7n)
      clear c7 c7b0 c7b1
      try clear c7b2
      obtain ⟨y310, hy310⟩ : ∃ y_ : List ByteArray, y_ = (([(⟨#[46, 48]⟩ : ByteArray), (⟨#[45, 48]⟩ : ByteArray), (⟨#[46, 48, 46, 48]⟩ : ByteArray), (⟨#[45, 103, 97]⟩ : ByteArray), (⟨#[46, 102, 105, 110, 97, 108]⟩ : ByteArray), (⟨#[45, 114, 101, 108, 101, 97, 115, 101]⟩ : ByteArray), (⟨#[45, 71, 65, 46, 48]⟩ : ByteArray), (⟨#[46, 48, 48]⟩ : ByteArray), (⟨#[45, 48, 45, 103, 97]⟩ : ByteArray)] : List ByteArray)) := ⟨_, rfl⟩
      replace H : ((newellaw05_awake.f k).bind fun t313 => (if t313 = true then (if 0 ≤ (wrap64 (Int.tmod (IntKind.u64.wrap (a2)) 9)) then (if (wrap64 (Int.tmod (IntKind.u64.wrap (a2)) 9)) < (y310.length : Int) then (if ((t308 ++ (⟨#[46]⟩ : ByteArray)) ++ t309).size + (rdOf ByteArray.empty y310 (wrap64 (Int.tmod (IntKind.u64.wrap (a2)) 9))).size ≤ 9223372036854775807 then ((words_Split.f k (((t308 ++ (⟨#[46]⟩ : ByteArray)) ++ t309) ++ (rdOf ByteArray.empty y310 (wrap64 (Int.tmod (IntKind.u64.wrap (a2)) 9))))).bind fun t315 => ((words_Split.f k ((t308 ++ (⟨#[46]⟩ : ByteArray)) ++ t309)).bind fun t318 => ((api_Word_30.f k t315 t318).bind fun t321 => (if t321 = true then (if 1 + ((t308 ++ (⟨#[46]⟩ : ByteArray)) ++ t309).size ≤ 9223372036854775807 then ((words_Split.f k ((⟨#[48]⟩ : ByteArray) ++ ((t308 ++ (⟨#[46]⟩ : ByteArray)) ++ t309))).bind fun t322 => ((words_Split.f k ((t308 ++ (⟨#[46]⟩ : ByteArray)) ++ t309)).bind fun t325 => ((api_Word_30.f k t322 t325).bind fun t328 => (some t328)))) else (none)) else (some false))))) else (none)) else (none)) else (none)) else (some false))) = some r := by first | (rw [hy310]; with_reducible exact H) | (have H2_ := (Option.bind_some _ _).symm.trans H; rw [hy310]; with_reducible exact H2_) | (have H2_ := (Option.bind_some _ _).symm.trans H; with_reducible exact H2_) | with_reducible exact H | (rw [hy310]; exact H) | exact H
      have Ny310 := Aside0.mk hy310
      clear hy310
      replace H := Option.bind_eq_some_iff.mp H
      obtain ⟨t313, A80, H⟩ := H
      replace H : (if t313 = true then (if 0 ≤ (wrap64 (Int.tmod (IntKind.u64.wrap (a2)) 9)) then (if (wrap64 (Int.tmod (IntKind.u64.wrap (a2)) 9)) < (y310.length : Int) then (if ((t308 ++ (⟨#[46]⟩ : ByteArray)) ++ t309).size + (rdOf ByteArray.empty y310 (wrap64 (Int.tmod (IntKind.u64.wrap (a2)) 9))).size ≤ 9223372036854775807 then ((words_Split.f k (((t308 ++ (⟨#[46]⟩ : ByteArray)) ++ t309) ++ (rdOf ByteArray.empty y310 (wrap64 (Int.tmod (IntKind.u64.wrap (a2)) 9))))).bind fun t315 => ((words_Split.f k ((t308 ++ (⟨#[46]⟩ : ByteArray)) ++ t309)).bind fun t318 => ((api_Word_30.f k t315 t318).bind fun t321 => (if t321 = true then (if 1 + ((t308 ++ (⟨#[46]⟩ : ByteArray)) ++ t309).size ≤ 9223372036854775807 then ((words_Split.f k ((⟨#[48]⟩ : ByteArray) ++ ((t308 ++ (⟨#[46]⟩ : ByteArray)) ++ t309))).bind fun t322 => ((words_Split.f k ((t308 ++ (⟨#[46]⟩ : ByteArray)) ++ t309)).bind fun t325 => ((api_Word_30.f k t322 t325).bind fun t328 => (some t328)))) else (none)) else (some false))))) else (none)) else (none)) else (none)) else (some false)) = some r := H
      have A8 := Aside0.mk A80
      clear A80
      by_cases c9 : t313 = true
      · subst c9
        have H1 : (if 0 ≤ (wrap64 (Int.tmod (IntKind.u64.wrap (a2)) 9)) then (if (wrap64 (Int.tmod (IntKind.u64.wrap (a2)) 9)) < (y310.length : Int) then (if ((t308 ++ (⟨#[46]⟩ : ByteArray)) ++ t309).size + (rdOf ByteArray.empty y310 (wrap64 (Int.tmod (IntKind.u64.wrap (a2)) 9))).size ≤ 9223372036854775807 then ((words_Split.f k (((t308 ++ (⟨#[46]⟩ : ByteArray)) ++ t309) ++ (rdOf ByteArray.empty y310 (wrap64 (Int.tmod (IntKind.u64.wrap (a2)) 9))))).bind fun t315 => ((words_Split.f k ((t308 ++ (⟨#[46]⟩ : ByteArray)) ++ t309)).bind fun t318 => ((api_Word_30.f k t315 t318).bind fun t321 => (if t321 = true then (if 1 + ((t308 ++ (⟨#[46]⟩ : ByteArray)) ++ t309).size ≤ 9223372036854775807 then ((words_Split.f k ((⟨#[48]⟩ : ByteArray) ++ ((t308 ++ (⟨#[46]⟩ : ByteArray)) ++ t309))).bind fun t322 => ((words_Split.f k ((t308 ++ (⟨#[46]⟩ : ByteArray)) ++ t309)).bind fun t325 => ((api_Word_30.f k t322 t325).bind fun t328 => (some t328)))) else (none)) else (some false))))) else (none)) else (none)) else (none)) = some r := by rw [if_pos rfl] at H; exact H
        clear H
        have H := H1
        clear H1
        obtain ⟨ji10, hji10⟩ : ∃ j_ : Int, (wrap64 (Int.tmod (IntKind.u64.wrap (a2)) 9)) = j_ := ⟨_, rfl⟩
        replace H : (if 0 ≤ (ji10) then (if (ji10) < (y310.length : Int) then (if ((t308 ++ (⟨#[46]⟩ : ByteArray)) ++ t309).size + (rdOf ByteArray.empty y310 (ji10)).size ≤ 9223372036854775807 then ((words_Split.f k (((t308 ++ (⟨#[46]⟩ : ByteArray)) ++ t309) ++ (rdOf ByteArray.empty y310 (ji10)))).bind fun t315 => ((words_Split.f k ((t308 ++ (⟨#[46]⟩ : ByteArray)) ++ t309)).bind fun t318 => ((api_Word_30.f k t315 t318).bind fun t321 => (if t321 = true then (if 1 + ((t308 ++ (⟨#[46]⟩ : ByteArray)) ++ t309).size ≤ 9223372036854775807 then ((words_Split.f k ((⟨#[48]⟩ : ByteArray) ++ ((t308 ++ (⟨#[46]⟩ : ByteArray)) ++ t309))).bind fun t322 => ((words_Split.f k ((t308 ++ (⟨#[46]⟩ : ByteArray)) ++ t309)).bind fun t325 => ((api_Word_30.f k t322 t325).bind fun t328 => (some t328)))) else (none)) else (some false))))) else (none)) else (none)) else (none)) = some r := by first | (rw [hji10] at H; exact H) | (simp only [hji10] at H ⊢; exact H)
        (try rw [hji10] at A4)
        (try rw [hji10] at A6)
        (try rw [hji10] at A8)
        have hji10w : (IntKind.i64.wrap (Int.tmod (IntKind.u64.wrap (a2)) 9)) = ji10 := (i64_w _).trans hji10
        by_cases c11 : 0 ≤ (ji10)
        · rw [if_pos c11] at H
          have c11b0 : decide (0 ≤ (ji10)) = true := decide_eq_true c11
          clear c11
          by_cases c12 : (ji10) < (y310.length : Int)
          · rw [if_pos c12] at H
            have c12b0 : decide ((ji10) < (y310.length : Int)) = true := decide_eq_true c12
            clear c12
            by_cases c13 : ((t308 ++ (⟨#[46]⟩ : ByteArray)) ++ t309).size + (rdOf ByteArray.empty y310 (ji10)).size ≤ 9223372036854775807
            · rw [if_pos c13] at H
              have c13b0 := eq_true c13
              have c13b1 : decide (((t308 ++ (⟨#[46]⟩ : ByteArray)) ++ t309).size + (rdOf ByteArray.empty y310 (ji10)).size ≤ 9223372036854775807) = true := decide_eq_true c13
              try have c13b2 : (9223372036854775807 < ((t308 ++ (⟨#[46]⟩ : ByteArray)) ++ t309).size + (rdOf ByteArray.empty y310 (ji10)).size) = False := eq_false (Nat.not_lt.2 c13)
              have c13n : ((t308.size + 1) + t309.size) + (rdOf ByteArray.empty y310 (ji10)).size ≤ 9223372036854775807 := by have z_ := c13; simp only [ByteArray.size_append] at z_; exact z_
              have c13m : (9223372036854775807 < ((t308.size + 1) + t309.size) + (rdOf ByteArray.empty y310 (ji10)).size) = False := eq_false (Nat.not_lt.2 c13n)
              clear c13 c13b0 c13b1
              try clear c13b2
              replace H := Option.bind_eq_some_iff.mp H
              obtain ⟨t315, A140, H⟩ := H
              replace H : ((words_Split.f k ((t308 ++ (⟨#[46]⟩ : ByteArray)) ++ t309)).bind fun t318 => ((api_Word_30.f k t315 t318).bind fun t321 => (if t321 = true then (if 1 + ((t308 ++ (⟨#[46]⟩ : ByteArray)) ++ t309).size ≤ 9223372036854775807 then ((words_Split.f k ((⟨#[48]⟩ : ByteArray) ++ ((t308 ++ (⟨#[46]⟩ : ByteArray)) ++ t309))).bind fun t322 => ((words_Split.f k ((t308 ++ (⟨#[46]⟩ : ByteArray)) ++ t309)).bind fun t325 => ((api_Word_30.f k t322 t325).bind fun t328 => (some t328)))) else (none)) else (some false)))) = some r := H
              have A14 := Aside0.mk A140
              clear A140
              replace H := Option.bind_eq_some_iff.mp H
              obtain ⟨t318, A150, H⟩ := H
              replace H : ((api_Word_30.f k t315 t318).bind fun t321 => (if t321 = true then (if 1 + ((t308 ++ (⟨#[46]⟩ : ByteArray)) ++ t309).size ≤ 9223372036854775807 then ((words_Split.f k ((⟨#[48]⟩ : ByteArray) ++ ((t308 ++ (⟨#[46]⟩ : ByteArray)) ++ t309))).bind fun t322 => ((words_Split.f k ((t308 ++ (⟨#[46]⟩ : ByteArray)) ++ t309)).bind fun t325 => ((api_Word_30.f k t322 t325).bind fun t328 => (some t328)))) else (none)) else (some false))) = some r := H
              have A15 := Aside0.mk A150
              clear A150
              replace H := Option.bind_eq_some_iff.mp H
              obtain ⟨t321, A160, H⟩ := H
              replace H : (if t321 = true then (if 1 + ((t308 ++ (⟨#[46]⟩ : ByteArray)) ++ t309).size ≤ 9223372036854775807 then ((words_Split.f k ((⟨#[48]⟩ : ByteArray) ++ ((t308 ++ (⟨#[46]⟩ : ByteArray)) ++ t309))).bind fun t322 => ((words_Split.f k ((t308 ++ (⟨#[46]⟩ : ByteArray)) ++ t309)).bind fun t325 => ((api_Word_30.f k t322 t325).bind fun t328 => (some t328)))) else (none)) else (some false)) = some r := H
              have A16 := Aside0.mk A160
              clear A160
              by_cases c17 : t321 = true
              · subst c17
                have H1 : (if 1 + ((t308 ++ (⟨#[46]⟩ : ByteArray)) ++ t309).size ≤ 9223372036854775807 then ((words_Split.f k ((⟨#[48]⟩ : ByteArray) ++ ((t308 ++ (⟨#[46]⟩ : ByteArray)) ++ t309))).bind fun t322 => ((words_Split.f k ((t308 ++ (⟨#[46]⟩ : ByteArray)) ++ t309)).bind fun t325 => ((api_Word_30.f k t322 t325).bind fun t328 => (some t328)))) else (none)) = some r := by rw [if_pos rfl] at H; exact H
                clear H
                have H := H1
                clear H1
                by_cases c18 : 1 + ((t308 ++ (⟨#[46]⟩ : ByteArray)) ++ t309).size ≤ 9223372036854775807
                · rw [if_pos c18] at H
                  have c18b0 := eq_true c18
                  have c18b1 : decide (1 + ((t308 ++ (⟨#[46]⟩ : ByteArray)) ++ t309).size ≤ 9223372036854775807) = true := decide_eq_true c18
                  try have c18b2 : (9223372036854775807 < 1 + ((t308 ++ (⟨#[46]⟩ : ByteArray)) ++ t309).size) = False := eq_false (Nat.not_lt.2 c18)
                  have c18n : 1 + ((t308.size + 1) + t309.size) ≤ 9223372036854775807 := by have z_ := c18; simp only [ByteArray.size_append] at z_; exact z_
                  have c18m : (9223372036854775807 < 1 + ((t308.size + 1) + t309.size)) = False := eq_false (Nat.not_lt.2 c18n)
                  clear c18 c18b0 c18b1
                  try clear c18b2
                  replace H := Option.bind_eq_some_iff.mp H
                  obtain ⟨t322, A190, H⟩ := H
                  replace H : ((words_Split.f k ((t308 ++ (⟨#[46]⟩ : ByteArray)) ++ t309)).bind fun t325 => ((api_Word_30.f k t322 t325).bind fun t328 => (some t328))) = some r := H
                  have A19 := Aside0.mk A190
                  clear A190
                  replace H := Option.bind_eq_some_iff.mp H
                  obtain ⟨t325, A200, H⟩ := H
                  replace H : ((api_Word_30.f k t322 t325).bind fun t328 => (some t328)) = some r := H
                  have A20 := Aside0.mk A200
                  clear A200
                  replace H := Option.bind_eq_some_iff.mp H
                  obtain ⟨t328, A210, H⟩ := H
                  replace H : (some t328) = some r := H
                  have A21 := Aside0.mk A210
                  clear A210
                  obtain rfl := Option.some.inj H
                  go_enter Tryd.func7, Tryd.ntmps7
                  go_wp2_with (first | ((with_reducible refine gate_callee (f := 33) rfl ?_); refine goesL_ (some 18) rfl rfl Tryd.func33 (by kernel_rfl) rfl #[.int .i64 (wrap64 (Int.tmod (IntKind.u64.wrap (a0)) 1000))] rfl (by (try simp only [List.map_toArray, List.map_cons, List.map_nil]); first | done | rfl | (simp only [List.length_drop, List.length_take]; rfl)) ?_; (with_reducible refine (newelhelp_Digits.calls k (wrap64 (Int.tmod (IntKind.u64.wrap (a0)) 1000)) t308 _ ?side1 A4.out).mono ?_); (case side1 => exact Glob.step HG.out (by repeat (first | (with_reducible first | exact HB.out | apply below_alloc | apply pw_below_drewN | apply below_drew1) | exact HB.out))); rintro e w22 ⟨rfl, hb⟩; refine ⟨_, rfl, ?_⟩; have n0_ := Aside0.mk (below_step (by repeat (first | (with_reducible first | exact HB.out | apply below_alloc | apply pw_below_drewN | apply below_drew1) | exact HB.out)) hb); clear HB; have HB := n0_; clear n0_; (try clear hb); (try clear hb2); (try clear hk); (try clear hi)) | ((with_reducible refine gate_callee (f := 33) rfl ?_); refine goesL_ (some 21) rfl rfl Tryd.func33 (by kernel_rfl) rfl #[.int .i64 (wrap64 (Int.tmod (IntKind.u64.wrap (a1)) 1000))] rfl (by (try simp only [List.map_toArray, List.map_cons, List.map_nil]); first | done | rfl | (simp only [List.length_drop, List.length_take]; rfl)) ?_; (with_reducible refine (newelhelp_Digits.calls k (wrap64 (Int.tmod (IntKind.u64.wrap (a1)) 1000)) t309 _ ?side1 A6.out).mono ?_); (case side1 => exact Glob.step HG.out (by repeat (first | (with_reducible first | exact HB.out | apply below_alloc | apply pw_below_drewN | apply below_drew1) | exact HB.out))); rintro e w23 ⟨rfl, hb⟩; refine ⟨_, rfl, ?_⟩; have n0_ := Aside0.mk (below_step (by repeat (first | (with_reducible first | exact HB.out | apply below_alloc | apply pw_below_drewN | apply below_drew1) | exact HB.out)) hb); clear HB; have HB := n0_; clear n0_; (try clear hb); (try clear hb2); (try clear hk); (try clear hi)) | ((with_reducible refine gate_dst (N := 23) rfl ?_); refine Kd.R_lit Kd.string _ 9 ?hg (N := 23) ?hd (xs := ([(⟨#[46, 48]⟩ : ByteArray), (⟨#[45, 48]⟩ : ByteArray), (⟨#[46, 48, 46, 48]⟩ : ByteArray), (⟨#[45, 103, 97]⟩ : ByteArray), (⟨#[46, 102, 105, 110, 97, 108]⟩ : ByteArray), (⟨#[45, 114, 101, 108, 101, 97, 115, 101]⟩ : ByteArray), (⟨#[45, 71, 65, 46, 48]⟩ : ByteArray), (⟨#[46, 48, 48]⟩ : ByteArray), (⟨#[45, 48, 45, 103, 97]⟩ : ByteArray)] : List ByteArray)) (inner := [.string (⟨#[46, 48]⟩ : ByteArray), .string (⟨#[45, 48]⟩ : ByteArray), .string (⟨#[46, 48, 46, 48]⟩ : ByteArray), .string (⟨#[45, 103, 97]⟩ : ByteArray), .string (⟨#[46, 102, 105, 110, 97, 108]⟩ : ByteArray), .string (⟨#[45, 114, 101, 108, 101, 97, 115, 101]⟩ : ByteArray), .string (⟨#[45, 71, 65, 46, 48]⟩ : ByteArray), .string (⟨#[46, 48, 48]⟩ : ByteArray), .string (⟨#[45, 48, 45, 103, 97]⟩ : ByteArray)]) (ok := fun _ => True) (okp := fun _ => True) ?hr ?hp (fun _ hk => hk) trivial (Below.refl _ _) (Nat.le_refl _) (by simp) ?_; (case hd => rfl); (case hg => rfl); (case hr => first | (go_simp; done) | (go_simp; rfl)); (case hp => exact (Reps.one (show Kd.M Kd.string _ _ _ (⟨#[46, 48]⟩ : ByteArray) [.string (⟨#[46, 48]⟩ : ByteArray)] from rfl) (Reps.one (show Kd.M Kd.string _ _ _ (⟨#[45, 48]⟩ : ByteArray) [.string (⟨#[45, 48]⟩ : ByteArray)] from rfl) (Reps.one (show Kd.M Kd.string _ _ _ (⟨#[46, 48, 46, 48]⟩ : ByteArray) [.string (⟨#[46, 48, 46, 48]⟩ : ByteArray)] from rfl) (Reps.one (show Kd.M Kd.string _ _ _ (⟨#[45, 103, 97]⟩ : ByteArray) [.string (⟨#[45, 103, 97]⟩ : ByteArray)] from rfl) (Reps.one (show Kd.M Kd.string _ _ _ (⟨#[46, 102, 105, 110, 97, 108]⟩ : ByteArray) [.string (⟨#[46, 102, 105, 110, 97, 108]⟩ : ByteArray)] from rfl) (Reps.one (show Kd.M Kd.string _ _ _ (⟨#[45, 114, 101, 108, 101, 97, 115, 101]⟩ : ByteArray) [.string (⟨#[45, 114, 101, 108, 101, 97, 115, 101]⟩ : ByteArray)] from rfl) (Reps.one (show Kd.M Kd.string _ _ _ (⟨#[45, 71, 65, 46, 48]⟩ : ByteArray) [.string (⟨#[45, 71, 65, 46, 48]⟩ : ByteArray)] from rfl) (Reps.one (show Kd.M Kd.string _ _ _ (⟨#[46, 48, 48]⟩ : ByteArray) [.string (⟨#[46, 48, 48]⟩ : ByteArray)] from rfl) (Reps.one (show Kd.M Kd.string _ _ _ (⟨#[45, 48, 45, 103, 97]⟩ : ByteArray) [.string (⟨#[45, 48, 45, 103, 97]⟩ : ByteArray)] from rfl) (Reps.none _ _))))))))))); intro v311 w24 ho25 hb hg_ hnew_; clear hg_ hnew_; (first | rw [← Ny310.out] at ho25 | (simp only [Int.reduceToNat] at ho25; rw [← Ny310.out] at ho25)); have n0_ := Aside0.mk (Kd.R_lower ho25 (below_size (by repeat (first | (with_reducible first | exact HB.out | apply below_alloc | apply pw_below_drewN | apply below_drew1) | exact HB.out)))); have n1_ := Aside0.mk (below_step (by repeat (first | (with_reducible first | exact HB.out | apply below_alloc | apply pw_below_drewN | apply below_drew1) | exact HB.out)) hb); clear HB; have HO312 := n0_; have HB := n1_; clear n0_ n1_; clear hb ho25) | ((with_reducible refine gate_callee (f := 27) rfl ?_); refine goesL_ (some 24) rfl rfl Tryd.func27 (by kernel_rfl) rfl #[] rfl (by (try simp only [List.map_toArray, List.map_cons, List.map_nil]); first | done | rfl | (simp only [List.length_drop, List.length_take]; rfl)) ?_; (with_reducible refine (newellaw05_awake.calls k  true _ ?side1 A8.out).mono ?_); (case side1 => exact Glob.step HG.out (by repeat (first | (with_reducible first | exact HB.out | apply below_alloc | apply pw_below_drewN | apply below_drew1) | exact HB.out))); rintro e w26 ⟨rfl, hb⟩; refine ⟨_, rfl, ?_⟩; have n0_ := Aside0.mk (Kd.R_below (by (with_reducible repeat (first | apply Kd.R_alloc | apply Kd.R_drewN | apply Kd.R_drew)); exact HO312.out) hb); have n1_ := Aside0.mk (below_step (by repeat (first | (with_reducible first | exact HB.out | apply below_alloc | apply pw_below_drewN | apply below_drew1) | exact HB.out)) hb); clear HO312; clear HB; have HO312 := n0_; have HB := n1_; clear n0_ n1_; (try clear hb); (try clear hb2); (try clear hk); (try clear hi); obtain ⟨Ao27, co27, eo27⟩ := Kd.R_slice HO312.out; subst eo27; have p314 : 0 ≤ ((ji10) : Int) := of_decide_eq_true (by first | (with_reducible assumption) | assumption); have q314 : (ji10) < (y310.length : Int) := of_decide_eq_true (by first | (with_reducible assumption) | assumption); obtain ⟨ad314, e314, hx314_0⟩ := Kd.at_string (Kd.R_reads' HO312.out).2.2 (ji10) p314 q314; cases e314; replace p314 := eq_true p314; replace q314 := eq_true q314) | (go_at_call 31; (with_reducible refine (words_Split.calls k (((t308 ++ (⟨#[46]⟩ : ByteArray)) ++ t309) ++ (rdOf ByteArray.empty y310 (ji10))) t315 _ ?side1 A14.out).mono ?_); (case side1 => exact Glob.step HG.out (by repeat (first | (with_reducible first | exact HB.out | apply below_alloc | apply pw_below_drewN | apply below_drew1) | exact HB.out))); rintro e w28 ⟨v316, rfl, ho0, hb⟩; have n0_ := Aside0.mk (Kd.R_below (by (with_reducible repeat (first | apply Kd.R_alloc | apply Kd.R_drewN | apply Kd.R_drew)); exact HO312.out) hb); have n1_ := Aside0.mk (Kd.R_lower ho0 (below_size (by repeat (first | (with_reducible first | exact HB.out | apply below_alloc | apply pw_below_drewN | apply below_drew1) | exact HB.out)))); have n2_ := Aside0.mk (below_step (by repeat (first | (with_reducible first | exact HB.out | apply below_alloc | apply pw_below_drewN | apply below_drew1) | exact HB.out)) hb); clear HO312; clear HB; have HO312 := n0_; have HO317 := n1_; have HB := n2_; clear n0_ n1_ n2_; (try clear hb); (try clear hb2); (try clear hk); (try clear hi); (try clear ho0)) | (go_at_call 31; (with_reducible refine (words_Split.calls k ((t308 ++ (⟨#[46]⟩ : ByteArray)) ++ t309) t318 _ ?side1 A15.out).mono ?_); (case side1 => exact Glob.step HG.out (by repeat (first | (with_reducible first | exact HB.out | apply below_alloc | apply pw_below_drewN | apply below_drew1) | exact HB.out))); rintro e w29 ⟨v319, rfl, ho0, hb⟩; have n0_ := Aside0.mk (Kd.R_below (by (with_reducible repeat (first | apply Kd.R_alloc | apply Kd.R_drewN | apply Kd.R_drew)); exact HO312.out) hb); have n1_ := Aside0.mk (Kd.R_elder' (by (with_reducible repeat (first | apply Kd.R_alloc | apply Kd.R_drewN | apply Kd.R_drew)); exact HO317.out) (Kd.R_base ho0) hb); have n2_ := Aside0.mk (Kd.R_lower (Kd.R_new' ho0 (Kd.R_lt (by (with_reducible repeat (first | apply Kd.R_alloc | apply Kd.R_drewN | apply Kd.R_drew)); exact HO317.out))) (below_size (by repeat (first | (with_reducible first | exact HB.out | apply below_alloc | apply pw_below_drewN | apply below_drew1) | exact HB.out)))); have n3_ := Aside0.mk (below_step (by repeat (first | (with_reducible first | exact HB.out | apply below_alloc | apply pw_below_drewN | apply below_drew1) | exact HB.out)) hb); clear HO312; clear HO317; clear HB; have HO312 := n0_; have HO317 := n1_; have HO320 := n2_; have HB := n3_; clear n0_ n1_ n2_ n3_; (try clear hb); (try clear hb2); (try clear hk); (try clear hi); (try clear ho0); obtain ⟨Ao30, co30, eo30⟩ := Kd.R_slice HO317.out; subst eo30; obtain ⟨Ao31, co31, eo31⟩ := Kd.R_slice HO320.out; subst eo31; clear A15) | (go_at_call 30; (with_reducible refine (api_Word_30.calls k _ _ t315 _ _ t318 true _ ?side1 ?side2 ?side3 ?side4 ?side5 A16.out).mono ?_); (case side1 => repeat (first | exact (Kd.R_reads' HO317.out).2.2 | (with_reducible refine Kd.C_alloc ?_ _) | (with_reducible refine Kd.C_drewN ?_ _) | (with_reducible refine Kd.C_drew ?_))); (case side2 => exact (Kd.R_reads' HO317.out).2.1); (case side3 => repeat (first | exact (Kd.R_reads' HO320.out).2.2 | (with_reducible refine Kd.C_alloc ?_ _) | (with_reducible refine Kd.C_drewN ?_ _) | (with_reducible refine Kd.C_drew ?_))); (case side4 => exact (Kd.R_reads' HO320.out).2.1); (case side5 => exact Glob.step HG.out (by repeat (first | (with_reducible first | exact HB.out | apply below_alloc | apply pw_below_drewN | apply below_drew1) | exact HB.out))); rintro e w32 ⟨rfl, hb⟩; have n0_ := Aside0.mk (Kd.R_below (by (with_reducible repeat (first | apply Kd.R_alloc | apply Kd.R_drewN | apply Kd.R_drew)); exact HO312.out) hb); have n1_ := Aside0.mk (Kd.R_below (by (with_reducible repeat (first | apply Kd.R_alloc | apply Kd.R_drewN | apply Kd.R_drew)); exact HO317.out) hb); have n2_ := Aside0.mk (Kd.R_below (by (with_reducible repeat (first | apply Kd.R_alloc | apply Kd.R_drewN | apply Kd.R_drew)); exact HO320.out) hb); have n3_ := Aside0.mk (below_step (by repeat (first | (with_reducible first | exact HB.out | apply below_alloc | apply pw_below_drewN | apply below_drew1) | exact HB.out)) hb); clear HO312; clear HO317; clear HO320; clear HB; have HO312 := n0_; have HO317 := n1_; have HO320 := n2_; have HB := n3_; clear n0_ n1_ n2_ n3_; (try clear hb); (try clear hb2); (try clear hk); (try clear hi)) | (go_at_call 31; (with_reducible refine (words_Split.calls k ((⟨#[48]⟩ : ByteArray) ++ ((t308 ++ (⟨#[46]⟩ : ByteArray)) ++ t309)) t322 _ ?side1 A19.out).mono ?_); (case side1 => exact Glob.step HG.out (by repeat (first | (with_reducible first | exact HB.out | apply below_alloc | apply pw_below_drewN | apply below_drew1) | exact HB.out))); rintro e w33 ⟨v323, rfl, ho0, hb⟩; have n0_ := Aside0.mk (Kd.R_below (by (with_reducible repeat (first | apply Kd.R_alloc | apply Kd.R_drewN | apply Kd.R_drew)); exact HO312.out) hb); have n1_ := Aside0.mk (Kd.R_elder' (by (with_reducible repeat (first | apply Kd.R_alloc | apply Kd.R_drewN | apply Kd.R_drew)); exact HO317.out) (Kd.R_base ho0) hb); have n2_ := Aside0.mk (Kd.R_elder' (by (with_reducible repeat (first | apply Kd.R_alloc | apply Kd.R_drewN | apply Kd.R_drew)); exact HO320.out) (Kd.R_base ho0) hb); have n3_ := Aside0.mk (Kd.R_lower (Kd.R_new' (Kd.R_new' ho0 (Kd.R_lt (by (with_reducible repeat (first | apply Kd.R_alloc | apply Kd.R_drewN | apply Kd.R_drew)); exact HO317.out))) (Kd.R_lt (by (with_reducible repeat (first | apply Kd.R_alloc | apply Kd.R_drewN | apply Kd.R_drew)); exact HO320.out))) (below_size (by repeat (first | (with_reducible first | exact HB.out | apply below_alloc | apply pw_below_drewN | apply below_drew1) | exact HB.out)))); have n4_ := Aside0.mk (below_step (by repeat (first | (with_reducible first | exact HB.out | apply below_alloc | apply pw_below_drewN | apply below_drew1) | exact HB.out)) hb); clear HO312; clear HO317; clear HO320; clear HB; have HO312 := n0_; have HO317 := n1_; have HO320 := n2_; have HO324 := n3_; have HB := n4_; clear n0_ n1_ n2_ n3_ n4_; (try clear hb); (try clear hb2); (try clear hk); (try clear hi); (try clear ho0)) | (go_at_call 31; (with_reducible refine (words_Split.calls k ((t308 ++ (⟨#[46]⟩ : ByteArray)) ++ t309) t325 _ ?side1 A20.out).mono ?_); (case side1 => exact Glob.step HG.out (by repeat (first | (with_reducible first | exact HB.out | apply below_alloc | apply pw_below_drewN | apply below_drew1) | exact HB.out))); rintro e w34 ⟨v326, rfl, ho0, hb⟩; have n0_ := Aside0.mk (Kd.R_below (by (with_reducible repeat (first | apply Kd.R_alloc | apply Kd.R_drewN | apply Kd.R_drew)); exact HO312.out) hb); have n1_ := Aside0.mk (Kd.R_elder' (by (with_reducible repeat (first | apply Kd.R_alloc | apply Kd.R_drewN | apply Kd.R_drew)); exact HO317.out) (Kd.R_base ho0) hb); have n2_ := Aside0.mk (Kd.R_elder' (by (with_reducible repeat (first | apply Kd.R_alloc | apply Kd.R_drewN | apply Kd.R_drew)); exact HO320.out) (Kd.R_base ho0) hb); have n3_ := Aside0.mk (Kd.R_elder' (by (with_reducible repeat (first | apply Kd.R_alloc | apply Kd.R_drewN | apply Kd.R_drew)); exact HO324.out) (Kd.R_base ho0) hb); have n4_ := Aside0.mk (Kd.R_lower (Kd.R_new' (Kd.R_new' (Kd.R_new' ho0 (Kd.R_lt (by (with_reducible repeat (first | apply Kd.R_alloc | apply Kd.R_drewN | apply Kd.R_drew)); exact HO317.out))) (Kd.R_lt (by (with_reducible repeat (first | apply Kd.R_alloc | apply Kd.R_drewN | apply Kd.R_drew)); exact HO320.out))) (Kd.R_lt (by (with_reducible repeat (first | apply Kd.R_alloc | apply Kd.R_drewN | apply Kd.R_drew)); exact HO324.out))) (below_size (by repeat (first | (with_reducible first | exact HB.out | apply below_alloc | apply pw_below_drewN | apply below_drew1) | exact HB.out)))); have n5_ := Aside0.mk (below_step (by repeat (first | (with_reducible first | exact HB.out | apply below_alloc | apply pw_below_drewN | apply below_drew1) | exact HB.out)) hb); clear HO312; clear HO317; clear HO320; clear HO324; clear HB; have HO312 := n0_; have HO317 := n1_; have HO320 := n2_; have HO324 := n3_; have HO327 := n4_; have HB := n5_; clear n0_ n1_ n2_ n3_ n4_ n5_; (try clear hb); (try clear hb2); (try clear hk); (try clear hi); (try clear ho0); obtain ⟨Ao35, co35, eo35⟩ := Kd.R_slice HO324.out; subst eo35; obtain ⟨Ao36, co36, eo36⟩ := Kd.R_slice HO327.out; subst eo36) | (go_at_call 30; (with_reducible refine (api_Word_30.calls k _ _ t322 _ _ t325 t328 _ ?side1 ?side2 ?side3 ?side4 ?side5 A21.out).mono ?_); (case side1 => repeat (first | exact (Kd.R_reads' HO324.out).2.2 | (with_reducible refine Kd.C_alloc ?_ _) | (with_reducible refine Kd.C_drewN ?_ _) | (with_reducible refine Kd.C_drew ?_))); (case side2 => exact (Kd.R_reads' HO324.out).2.1); (case side3 => repeat (first | exact (Kd.R_reads' HO327.out).2.2 | (with_reducible refine Kd.C_alloc ?_ _) | (with_reducible refine Kd.C_drewN ?_ _) | (with_reducible refine Kd.C_drew ?_))); (case side4 => exact (Kd.R_reads' HO327.out).2.1); (case side5 => exact Glob.step HG.out (by repeat (first | (with_reducible first | exact HB.out | apply below_alloc | apply pw_below_drewN | apply below_drew1) | exact HB.out))); rintro e w37 ⟨rfl, hb⟩; have n0_ := Aside0.mk (Kd.R_below (by (with_reducible repeat (first | apply Kd.R_alloc | apply Kd.R_drewN | apply Kd.R_drew)); exact HO312.out) hb); have n1_ := Aside0.mk (Kd.R_below (by (with_reducible repeat (first | apply Kd.R_alloc | apply Kd.R_drewN | apply Kd.R_drew)); exact HO317.out) hb); have n2_ := Aside0.mk (Kd.R_below (by (with_reducible repeat (first | apply Kd.R_alloc | apply Kd.R_drewN | apply Kd.R_drew)); exact HO320.out) hb); have n3_ := Aside0.mk (Kd.R_below (by (with_reducible repeat (first | apply Kd.R_alloc | apply Kd.R_drewN | apply Kd.R_drew)); exact HO324.out) hb); have n4_ := Aside0.mk (Kd.R_below (by (with_reducible repeat (first | apply Kd.R_alloc | apply Kd.R_drewN | apply Kd.R_drew)); exact HO327.out) hb); have n5_ := Aside0.mk (below_step (by repeat (first | (with_reducible first | exact HB.out | apply below_alloc | apply pw_below_drewN | apply below_drew1) | exact HB.out)) hb); clear HO312; clear HO317; clear HO320; clear HO324; clear HO327; clear HB; have HO312 := n0_; have HO317 := n1_; have HO320 := n2_; have HO324 := n3_; have HO327 := n4_; have HB := n5_; clear n0_ n1_ n2_ n3_ n4_ n5_; (try clear hb); (try clear hb2); (try clear hk); (try clear hi)))
                  go_ret
                  exact ⟨by first | rfl | (simp [errW_none, errW_some] <;> rfl) | (simp only [← hji10]; first | rfl | (simp [errW_none, errW_some] <;> rfl)) | (simp [*, errW_none, errW_some] <;> rfl), by repeat (first | (with_reducible first | exact HB.out | apply below_alloc | apply pw_below_drewN | apply below_drew1) | exact HB.out)⟩
                · rw [if_neg c18] at H
                  exact absurd H (by simp)
              · replace c17 := Bool.eq_false_iff.mpr c17
                subst c17
                have H1 : (some false) = some r := by rw [if_neg (show ¬ (false = true) by decide)] at H; exact H
                clear H
                have H := H1
                clear H1
                exfalso
                obtain rfl := Option.some.inj H
                exact absurd hr_ (by decide)
            · rw [if_neg c13] at H
              exact absurd H (by simp)
          · rw [if_neg c12] at H
            exact absurd H (by simp)
        · rw [if_neg c11] at H
          exact absurd H (by simp)
      · replace c9 := Bool.eq_false_iff.mpr c9
        subst c9
        have H1 : (some false) = some r := by rw [if_neg (show ¬ (false = true) by decide)] at H; exact H
        clear H
        have H := H1
        clear H1
        exfalso
        obtain rfl := Option.some.inj H
        exact absurd hr_ (by decide)
    · rw [if_neg c7] at H
      exact absurd H (by simp)
  · rw [if_neg c5] at H
    exact absurd H (by simp)

end Go.Proofs.YtgdjfcmmpjcaaaaDoor.Q

namespace Go.Proofs.YtgdjfcmmpjcaaaaDoor.Q
open Go.RowKit Go.Proofs.YtgdjfcmmpjcaaaaDoorW.PrintWords Go.Proofs.YtgdjfcmmpjcaaaaDoorW.PrintLast Go.Proofs.YtgdjfcmmpjcaaaaDoorW.Own Go.Proofs.YtgdjfcmmpjcaaaaDoorW.PrintMore
set_option linter.unusedVariables false
set_option linter.unusedSimpArgs false
namespace Rd
open Go Go.RowKit
def Opens {α : Type} (t : TypeId) (d : Kd α) (wf : α → Prop) (bulk : α → Nat) : Prop :=
  Tryd.prog.cellsOf t = d.sz ∧ ∀ (H : Type) (enc : TypeId × Value → H) (W : World) (fuel : Nat) (cs : List Value) (dd : DataW H) (ps : List MemPlace),
    DataW.trod enc Tryd.prog W 0 (fun _ => true) true fuel t cs = some (dd, ps) → ∃ x, d.K W x cs ∧ wf x ∧ bulk x ≤ Rows.uptoBulk dd
def OpensF {β : Type} (fs : List Field) (off : Nat) (d : Kd β) (wf : β → Prop) (bulk : β → Nat) : Prop :=
  ∀ (H : Type) (enc : TypeId × Value → H) (W : World) (n : Nat) (cs : List Value) (xs : List (DataW H × List MemPlace)), xs.length = fs.length →
    (∀ (i : Nat) (f : Field), fs[i]? = some f → DataW.trod enc Tryd.prog W 0 (fun _ => true) true n f.type ((cs.drop f.offset).take (Tryd.prog.cellsOf f.type)) = xs[i]?) → cs.length = off + d.sz →
    ∃ x, d.K W x (cs.drop off) ∧ wf x ∧ bulk x ≤ Rows.uptoBulkAll (xs.map (·.1))
theorem OpensF.cons {α β : Type} {f : Field} {fs : List Field} {off off' : Nat} {a : Kd α} {b : Kd β} {wf : α → Prop} {bulk : α → Nat} {wf' : β → Prop} {bulk' : β → Nat} (ho : f.offset = off) (ho' : off' = off + a.sz) (h : Opens f.type a wf bulk) (hr : OpensF fs off' b wf' bulk') :
    OpensF (f :: fs) off (Kd.pair a b) (fun x => wf x.1 ∧ wf' x.2) (fun x => bulk x.1 + bulk' x.2) := by
  intro H enc W n cs xs hl ht hc
  subst ho'
  obtain ⟨hsz, hop⟩ := h
  obtain ⟨x0, xs', rfl⟩ : ∃ x0 xs', xs = x0 :: xs' := by
    match xs, hl with
    | x0 :: xs', _ => exact ⟨x0, xs', rfl⟩
  have h0 := ht 0 f rfl
  rw [ho, hsz] at h0
  obtain ⟨x, hk, hw, hb⟩ := hop H enc W n _ _ _ h0
  have hc' : cs.length = off + a.sz + b.sz := by
    have e : (Kd.pair a b).sz = a.sz + b.sz := rfl
    rw [e] at hc
    omega
  obtain ⟨y, hk', hw', hb'⟩ := hr H enc W n cs xs' (by simpa using hl) (fun i g hg => by have := ht (i + 1) g (by simpa using hg); simpa using this) hc'
  refine ⟨(x, y), ⟨(cs.drop off).take a.sz, cs.drop (off + a.sz), ?_, hk, hk'⟩, ⟨hw, hw'⟩, ?_⟩
  · rw [← List.drop_drop, List.take_append_drop]
  · simp only [List.map_cons, Rows.uptoBulkAll]
    omega
theorem glob {W : World} (h : W.ShapedOpen Tryd.prog) : Glob W :=
  cell_of_shapedOpen_int (g := 0) (t := 3) (zero := #[.int .i64 0]) (k := .i64) h (of_decide_eq_true (by kernel_rfl)) (by kernel_rfl) rfl (by kernel_rfl) (by kernel_rfl) Tryd.underlying3
end Rd
end Go.Proofs.YtgdjfcmmpjcaaaaDoor.Q

-- Printed by this session's wip/np.py over the kit's print program. Not trusted: Lean checks it.
namespace Go.Proofs.YtgdjfcmmpjcaaaaDoor.Q
open Go.RowKit Go.Proofs.YtgdjfcmmpjcaaaaDoorW.PrintWords Go.Proofs.YtgdjfcmmpjcaaaaDoorW.PrintLast Go.Proofs.YtgdjfcmmpjcaaaaDoorW.Own Go.Proofs.YtgdjfcmmpjcaaaaDoorW.PrintMore
set_option linter.unusedVariables false
set_option linter.unusedSimpArgs false

/-- The pure statement of newellaw05_WordsZeros. -/
def newellaw05_WordsZeros.Pure : Prop := ∀ (a0 : Int) (a1 : Int) (a2 : Int), ((Lit.int .i64 a0).wf = true) → ((Lit.int .i64 a1).wf = true) → ((Lit.int .i64 a2).wf = true) → ∃ k, newellaw05_WordsZeros.f k a0 a1 a2 = some true
end Go.Proofs.YtgdjfcmmpjcaaaaDoor.Q

namespace Go.Proofs.YtgdjfcmmpjcaaaaDoorW.Px
open Go
theorem ba_ext {a b : ByteArray} (h : a.data.toList = b.data.toList) : a = b := by
  cases a; cases b; simp at h; subst h; rfl
theorem ba_size (a : ByteArray) : a.size = a.data.toList.length := Array.length_toList.symm
theorem ba_append (a b : ByteArray) : (a ++ b).data.toList = a.data.toList ++ b.data.toList := by simp [ByteArray.data_append]
theorem ba_toList (a : ByteArray) : a.toList = a.data.toList := Lib.toList_data a
end Go.Proofs.YtgdjfcmmpjcaaaaDoorW.Px

namespace Go.Proofs.YtgdjfcmmpjcaaaaDoor.Pure
open Go Go.RowKit Go.Proofs.YtgdjfcmmpjcaaaaDoor.Q Go.Proofs.YtgdjfcmmpjcaaaaDoorW.PrintWords
theorem awake5_40 : newellaw05_awake.f 40 = some true := by kernel_rfl
theorem awake5_ge (k : Nat) (h : 40 ≤ k) : newellaw05_awake.f k = some true := by
  obtain ⟨j, rfl⟩ := Nat.exists_eq_add_of_le h
  clear h
  induction j with
  | zero => exact awake5_40
  | succ j ih => exact newellaw05_awake.mono _ _ ih
end Go.Proofs.YtgdjfcmmpjcaaaaDoor.Pure

-- Printed by this session's wip/np.py over the kit's print program. Not trusted: Lean checks it.
namespace Go.Proofs.YtgdjfcmmpjcaaaaDoor.Q
open Go.RowKit Go.Proofs.YtgdjfcmmpjcaaaaDoorW.PrintWords Go.Proofs.YtgdjfcmmpjcaaaaDoorW.PrintLast Go.Proofs.YtgdjfcmmpjcaaaaDoorW.Own Go.Proofs.YtgdjfcmmpjcaaaaDoorW.PrintMore
attribute [local go_sem] max2_int min2_int max_two min_two max_three min_three max_four min_four
set_option linter.unusedVariables false
set_option linter.unusedSimpArgs false

/-! ### newelref01_Digit: function 78 -/
def newelref01_Digit.f (a0 : Int) : Option (Bool) := if a0 ≥ 48 then (some (decide (a0 ≤ 57))) else (some false)
set_option maxHeartbeats 8000000 in
set_option maxRecDepth 100000 in
theorem newelref01_Digit.calls (a0 : Int) (r : Bool) (w : World) (hG : Glob w) (h : newelref01_Digit.f a0 = some r) :
    Calls Tryd.prog 78 #[.int .u8 a0] w fun e w' => e = .returned (.bool r) ∧ Drawn0 w w' := by
  have HG := Aside0.mk hG
  clear hG
  have H : (if a0 ≥ 48 then (some (decide (a0 ≤ 57))) else (some false)) = some r := h
  clear h
  by_cases c2 : a0 ≥ 48
  · rw [if_pos c2] at H
    have c2b0 : decide (48 ≤ a0) = true := decide_eq_true c2
    clear c2
    obtain rfl := Option.some.inj H
    go_enter Tryd.func78, Tryd.ntmps78
    go_wp2
    go_ret
    exact ⟨by first | rfl | (simp; done) | (simp [*]; done), by repeat (first | exact Drawn0.refl _ | apply Drawn0.step)⟩
  · rw [if_neg c2] at H
    have c2b0 : decide (48 ≤ a0) = false := decide_eq_false c2
    clear c2
    obtain rfl := Option.some.inj H
    go_enter Tryd.func78, Tryd.ntmps78
    go_wp2
    go_ret
    exact ⟨by first | rfl | (simp; done) | (simp [*]; done), by repeat (first | exact Drawn0.refl _ | apply Drawn0.step)⟩

end Go.Proofs.YtgdjfcmmpjcaaaaDoor.Q

-- Printed by this session's wip/np.py over the kit's print program. Not trusted: Lean checks it.
namespace Go.Proofs.YtgdjfcmmpjcaaaaDoor.Q
open Go.RowKit Go.Proofs.YtgdjfcmmpjcaaaaDoorW.PrintWords Go.Proofs.YtgdjfcmmpjcaaaaDoorW.PrintLast Go.Proofs.YtgdjfcmmpjcaaaaDoorW.Own Go.Proofs.YtgdjfcmmpjcaaaaDoorW.PrintMore
attribute [local go_sem] max2_int min2_int max_two min_two max_three min_three max_four min_four
set_option linter.unusedVariables false
set_option linter.unusedSimpArgs false

/-! ### newelref05_parts: function 75 -/
def newelref05_parts.l0 : Nat → ByteArray → List (S98) → Int → Option ((List (S98)))
  | 0, _, _, _ => none
  | k + 1, x0, x3, x4 => if x4 < (x0.size : Int) then (if 0 ≤ (wrap64 ((x3.length : Int) - 1)) then (if (wrap64 ((x3.length : Int) - 1)) < (x3.length : Int) then (if 0 ≤ x4 then (if (bt x0 x4) = 46 then (if x3.length < 5864062014805 then (newelref05_parts.l0 k x0 (x3 ++ [(⟨(⟨#[]⟩ : ByteArray), ((bt x0 x4) == 45), false⟩ : S98)]) (wrap64 (x4 + 1))) else (none)) else (if (bt x0 x4) = 45 then (if x3.length < 5864062014805 then (newelref05_parts.l0 k x0 (x3 ++ [(⟨(⟨#[]⟩ : ByteArray), true, false⟩ : S98)]) (wrap64 (x4 + 1))) else (none)) else (if ((rd_T98 x3 (wrap64 ((x3.length : Int) - 1))).f0).toList = ([] : List UInt8) then (if x4 ≤ (wrap64 (x4 + 1)) then (if (wrap64 (x4 + 1)) ≤ (x0.size : Int) then (if ((rd_T98 x3 (wrap64 ((x3.length : Int) - 1))).f0).size + (x0.extract (x4 : Int).toNat ((wrap64 (x4 + 1)) : Int).toNat).size ≤ 9223372036854775807 then (newelref05_parts.l0 k x0 (x3.set ((wrap64 ((x3.length : Int) - 1)) : Int).toNat (⟨((rd_T98 x3 (wrap64 ((x3.length : Int) - 1))).f0) ++ (x0.extract (x4 : Int).toNat ((wrap64 (x4 + 1)) : Int).toNat), (rd_T98 x3 (wrap64 ((x3.length : Int) - 1))).f1, (rd_T98 x3 (wrap64 ((x3.length : Int) - 1))).f2⟩ : S98)) (wrap64 (x4 + 1))) else (none)) else (none)) else (none)) else (if 0 ≤ (wrap64 ((((rd_T98 x3 (wrap64 ((x3.length : Int) - 1))).f0).size : Int) - 1)) then (if (wrap64 ((((rd_T98 x3 (wrap64 ((x3.length : Int) - 1))).f0).size : Int) - 1)) < (((rd_T98 x3 (wrap64 ((x3.length : Int) - 1))).f0).size : Int) then ((newelref01_Digit.f (bt ((rd_T98 x3 (wrap64 ((x3.length : Int) - 1))).f0) (wrap64 ((((rd_T98 x3 (wrap64 ((x3.length : Int) - 1))).f0).size : Int) - 1)))).bind fun t210 => ((newelref01_Digit.f (bt x0 x4)).bind fun t211 => (if (t210 != t211) = true then ((newelref01_Digit.f (bt x0 x4)).bind fun t212 => ((some (x3.set ((wrap64 ((x3.length : Int) - 1)) : Int).toNat (⟨(rd_T98 x3 (wrap64 ((x3.length : Int) - 1))).f0, (rd_T98 x3 (wrap64 ((x3.length : Int) - 1))).f1, t212⟩ : S98) : List (S98))).bind fun y213 => (if y213.length < 5864062014805 then ((some (y213 ++ [(⟨(⟨#[]⟩ : ByteArray), true, false⟩ : S98)] : List (S98))).bind fun y214 => (if 0 ≤ (wrap64 ((y214.length : Int) - 1)) then (if (wrap64 ((y214.length : Int) - 1)) < (y214.length : Int) then (if x4 ≤ (wrap64 (x4 + 1)) then (if (wrap64 (x4 + 1)) ≤ (x0.size : Int) then (if ((rd_T98 y214 (wrap64 ((y214.length : Int) - 1))).f0).size + (x0.extract (x4 : Int).toNat ((wrap64 (x4 + 1)) : Int).toNat).size ≤ 9223372036854775807 then (newelref05_parts.l0 k x0 (y214.set ((wrap64 ((y214.length : Int) - 1)) : Int).toNat (⟨((rd_T98 y214 (wrap64 ((y214.length : Int) - 1))).f0) ++ (x0.extract (x4 : Int).toNat ((wrap64 (x4 + 1)) : Int).toNat), (rd_T98 y214 (wrap64 ((y214.length : Int) - 1))).f1, (rd_T98 y214 (wrap64 ((y214.length : Int) - 1))).f2⟩ : S98)) (wrap64 (x4 + 1))) else (none)) else (none)) else (none)) else (none)) else (none))) else (none)))) else (if x4 ≤ (wrap64 (x4 + 1)) then (if (wrap64 (x4 + 1)) ≤ (x0.size : Int) then (if ((rd_T98 x3 (wrap64 ((x3.length : Int) - 1))).f0).size + (x0.extract (x4 : Int).toNat ((wrap64 (x4 + 1)) : Int).toNat).size ≤ 9223372036854775807 then (newelref05_parts.l0 k x0 (x3.set ((wrap64 ((x3.length : Int) - 1)) : Int).toNat (⟨((rd_T98 x3 (wrap64 ((x3.length : Int) - 1))).f0) ++ (x0.extract (x4 : Int).toNat ((wrap64 (x4 + 1)) : Int).toNat), (rd_T98 x3 (wrap64 ((x3.length : Int) - 1))).f1, (rd_T98 x3 (wrap64 ((x3.length : Int) - 1))).f2⟩ : S98)) (wrap64 (x4 + 1))) else (none)) else (none)) else (none))))) else (none)) else (none))))) else (none)) else (none)) else (none)) else (some x3)
def newelref05_parts.f (k : Nat) (a0 : ByteArray) : Option ((List (S98))) := newelref05_parts.l0 k a0 (([(⟨(⟨#[]⟩ : ByteArray), false, false⟩ : S98)] : List (S98))) 0
theorem newelref05_parts.mono_l : ∀ k, (∀ y0 y1 y2, LeO (newelref05_parts.l0 k y0 y1 y2) (newelref05_parts.l0 (k + 1) y0 y1 y2))
  | 0 => fun _ _ _ r h => by simp [newelref05_parts.l0] at h
  | k + 1 => by
    have ih0 := newelref05_parts.mono_l k
    · intro y0 y1 y2
      unfold newelref05_parts.l0
      repeat' first
      | (with_reducible exact ih0 _ _ _)
      | (with_reducible exact LeO.refl _)
      | (with_reducible exact LeO.none _)
      | (with_reducible refine LeO.ite ?_ ?_)
      | (with_reducible refine LeO.bind ?_ (fun _ => ?_))
      | exact ih0 _ _ _
      | exact LeO.none _
      | refine LeO.ite ?_ ?_
      | refine LeO.bind ?_ (fun _ => ?_)
theorem newelref05_parts.mono : ∀ a0 k, LeO (newelref05_parts.f k a0) (newelref05_parts.f (k + 1) a0) := by
  intro a0 k
  have ih0 := newelref05_parts.mono_l k
  unfold newelref05_parts.f
  repeat' first
      | (with_reducible exact ih0 _ _ _)
      | (with_reducible exact LeO.refl _)
      | (with_reducible exact LeO.none _)
      | (with_reducible refine LeO.ite ?_ ?_)
      | (with_reducible refine LeO.bind ?_ (fun _ => ?_))
      | exact ih0 _ _ _
      | exact LeO.none _
      | refine LeO.ite ?_ ?_
      | refine LeO.bind ?_ (fun _ => ?_)
def newelref05_parts.T8 : Bool × List (List Nat × List Nat) := (true, [([], []), ([0], [0]), ([1], [1]), ([2], [2]), ([3], [3]), ([4], [4]), ([5], [5]), ([6, 5], [5, 6]), ([7, 5], [5, 7]), ([8, 5], [5, 8]), ([5], [5]), ([10, 5], [5, 10]), ([11, 5], [5, 11]), ([12, 5], [5, 12]), ([13, 5], [5, 13]), ([14, 5], [5, 14]), ([9, 15, 5], [5, 9, 15]), ([16, 5, 5], [5, 16]), ([5], [5]), ([5], [5]), ([18, 19, 5], [5, 18, 19]), ([20, 17, 5], [5, 20]), ([17, 21, 5], [5, 17, 21]), ([5, 22], [5, 22])])
def newelref05_parts.B8 : List Nat := [0, 1, 3, 7, 15, 31, 63, 127, 255, 511, 63, 1087, 3135, 7231, 15423, 31807, 65535, 131071, 63, 63, 786495, 2097151, 4194303, 8388607]
theorem newelref05_parts.tab8 : rtab .any (opsOf Tryd.f75 8) = newelref05_parts.T8 := by kernel_rfl
theorem newelref05_parts.bits8 : waitsOk newelref05_parts.T8.2 newelref05_parts.B8 = true := by kernel_rfl
def newelref05_parts.T12 : Bool × List (List Nat × List Nat) := (true, [([], []), ([], []), ([1], [1]), ([2], [2]), ([3], [3]), ([], []), ([], []), ([], []), ([7], [7]), ([5, 6, 8], [5, 6, 8]), ([4, 9], [4, 9]), ([0, 0, 1, 2, 3, 4, 5, 6, 7, 8, 9, 10], [0]), ([11, 0, 1, 2, 3, 4, 5, 6, 7, 8, 9, 10], [11]), ([12, 10, 0, 1, 2, 3, 4, 5, 6, 7, 8, 9, 10], [10, 12])])
def newelref05_parts.B12 : List Nat := [0, 0, 2, 6, 14, 0, 0, 0, 128, 480, 1022, 2047, 4095, 8191]
theorem newelref05_parts.tab12 : rtab .any (opsOf Tryd.f75 12) = newelref05_parts.T12 := by kernel_rfl
theorem newelref05_parts.bits12 : waitsOk newelref05_parts.T12.2 newelref05_parts.B12 = true := by kernel_rfl
set_option maxHeartbeats 8000000 in
set_option maxRecDepth 100000 in
theorem newelref05_parts.calls (k : Nat) (a0 : ByteArray) (r : List (S98)) (w : World) (hG : Glob w) (h : newelref05_parts.f k a0 = some r) :
    Calls Tryd.prog 75 #[.string a0] w fun e w' => ∃ v0_ : Value, e = .returned (v0_) ∧ Kd.R k98 98 w' w.heap.size (fun _ => True) v0_ r ∧ Below w.heap.size w w' := by
  have hu98 := Tryd.underlying98
  have HG := Aside0.mk hG
  clear hG
  have HB := Aside0.mk (Below.refl w.heap.size w)
  have H : (newelref05_parts.l0 k a0 (([(⟨(⟨#[]⟩ : ByteArray), false, false⟩ : S98)] : List (S98))) 0) = some r := h
  clear h
  obtain ⟨y196, hy196⟩ : ∃ y_ : List (S98), y_ = (([(⟨(⟨#[]⟩ : ByteArray), false, false⟩ : S98)] : List (S98))) := ⟨_, rfl⟩
  replace H : (newelref05_parts.l0 k a0 y196 0) = some r := by first | (rw [hy196]; with_reducible exact H) | (have H2_ := (Option.bind_some _ _).symm.trans H; rw [hy196]; with_reducible exact H2_) | (have H2_ := (Option.bind_some _ _).symm.trans H; with_reducible exact H2_) | with_reducible exact H | (rw [hy196]; exact H) | exact H
  have Ny196 := Aside0.mk hy196
  clear hy196
  have H' := Aside0.mk H
  clear H
  go_enter Tryd.func75, Tryd.ntmps75
  go_wp2_with (first | ((with_reducible refine gate_dst (N := 7) rfl ?_); (try (refine gate_guard (by rfl) ?_; dsimp only)); refine Kd.R_lit k98 _ 98 ?hg (N := 7) ?hd (xs := ([(⟨(⟨#[]⟩ : ByteArray), false, false⟩ : S98)] : List (S98))) (inner := [.string (⟨#[]⟩ : ByteArray), .bool false, .bool false]) (ok := fun _ => True) (okp := fun _ => True) ?hr ?hp (fun _ hk => hk) trivial (Below.refl _ _) (Nat.le_refl _) (by simp) ?_; (case hd => rfl); (case hg => rfl); (case hr => first | (go_simp; done) | (go_simp; rfl)); (case hp => exact (Reps.c3 (show Kd.M k98 _ _ _ (⟨(⟨#[]⟩ : ByteArray), false, false⟩ : S98) [.string (⟨#[]⟩ : ByteArray), .bool false, .bool false] from (k98_mkM _ _ _ (⟨(⟨#[]⟩ : ByteArray), false, false⟩ : S98) )) (Reps.none _ _))); intro v197 w2 ho3 hb hg_ hnew_; clear hg_ hnew_; (first | rw [← Ny196.out] at ho3 | (simp only [Int.reduceToNat] at ho3; rw [← Ny196.out] at ho3)); have n0_ := Aside0.mk (Kd.R_lower ho3 (below_size (by repeat (first | (with_reducible first | exact HB.out | apply below_alloc | apply pw_below_drewN | apply below_drew1) | exact HB.out)))); have n1_ := Aside0.mk (below_step (by repeat (first | (with_reducible first | exact HB.out | apply below_alloc | apply pw_below_drewN | apply below_drew1) | exact HB.out)) hb); clear HB; have HO198 := n0_; have HB := n1_; clear n0_ n1_; clear hb ho3))
  (try simp only [Act.put, List.setIfInBounds_toArray, List.set_cons_zero, List.set_cons_succ])
  go_loopg [3, 4] k (fun kq v3 v4 w' => ∃ (x3_1 : List (S98)) (x4_1 : Int), v4 = .int .i64 x4_1 ∧ Aside0 (newelref05_parts.l0 kq a0 x3_1 x4_1 = some r) ∧ Aside0 (kq ≤ k) ∧ Aside0 (Kd.R k98 98 w' w.heap.size (fun _ => True) v3 x3_1) ∧ Aside0 (Below w.heap.size w w'))
  case atStart => exact ⟨(y196), (0), (by first | rfl | (simp; done) | (simp [*]; done) | (simp; exact isEmpty_bne _)), H', ⟨Nat.le_refl _⟩, ⟨by (with_reducible repeat (first | apply Kd.R_alloc | apply Kd.R_drewN | apply Kd.R_drew)); exact HO198.out⟩, ⟨by repeat (first | (with_reducible first | exact HB.out | apply below_alloc | apply pw_below_drewN | apply below_drew1) | exact HB.out)⟩⟩
  case round =>
    clear H'
    try clear p2
    try clear c3
    obtain ⟨x3_1, x4_1, rfl, HA, HK1, HO_3, HB⟩ := hrel
    cases gk with
    | zero => exact absurd HA.out (by simp [newelref05_parts.l0])
    | succ k1 =>
      have H := HA.out
      clear HA
      simp only [newelref05_parts.l0] at H
      by_cases c4 : x4_1 < (a0.size : Int)
      · rw [if_pos c4] at H
        have c4b0 : decide (x4_1 < (a0.size : Int)) = true := decide_eq_true c4
        clear c4
        obtain ⟨ji5, hji5⟩ : ∃ j_ : Int, (wrap64 ((x3_1.length : Int) - 1)) = j_ := ⟨_, rfl⟩
        replace H : (if 0 ≤ (ji5) then (if (ji5) < (x3_1.length : Int) then (if 0 ≤ x4_1 then (if (bt a0 x4_1) = 46 then (if x3_1.length < 5864062014805 then (newelref05_parts.l0 k1 a0 (x3_1 ++ [(⟨(⟨#[]⟩ : ByteArray), ((bt a0 x4_1) == 45), false⟩ : S98)]) (wrap64 (x4_1 + 1))) else (none)) else (if (bt a0 x4_1) = 45 then (if x3_1.length < 5864062014805 then (newelref05_parts.l0 k1 a0 (x3_1 ++ [(⟨(⟨#[]⟩ : ByteArray), true, false⟩ : S98)]) (wrap64 (x4_1 + 1))) else (none)) else (if ((rd_T98 x3_1 (ji5)).f0).toList = ([] : List UInt8) then (if x4_1 ≤ (wrap64 (x4_1 + 1)) then (if (wrap64 (x4_1 + 1)) ≤ (a0.size : Int) then (if ((rd_T98 x3_1 (ji5)).f0).size + (a0.extract (x4_1 : Int).toNat ((wrap64 (x4_1 + 1)) : Int).toNat).size ≤ 9223372036854775807 then (newelref05_parts.l0 k1 a0 (x3_1.set ((ji5) : Int).toNat (⟨((rd_T98 x3_1 (ji5)).f0) ++ (a0.extract (x4_1 : Int).toNat ((wrap64 (x4_1 + 1)) : Int).toNat), (rd_T98 x3_1 (ji5)).f1, (rd_T98 x3_1 (ji5)).f2⟩ : S98)) (wrap64 (x4_1 + 1))) else (none)) else (none)) else (none)) else (if 0 ≤ (wrap64 ((((rd_T98 x3_1 (ji5)).f0).size : Int) - 1)) then (if (wrap64 ((((rd_T98 x3_1 (ji5)).f0).size : Int) - 1)) < (((rd_T98 x3_1 (ji5)).f0).size : Int) then ((newelref01_Digit.f (bt ((rd_T98 x3_1 (ji5)).f0) (wrap64 ((((rd_T98 x3_1 (ji5)).f0).size : Int) - 1)))).bind fun t210 => ((newelref01_Digit.f (bt a0 x4_1)).bind fun t211 => (if (t210 != t211) = true then ((newelref01_Digit.f (bt a0 x4_1)).bind fun t212 => ((some (x3_1.set ((ji5) : Int).toNat (⟨(rd_T98 x3_1 (ji5)).f0, (rd_T98 x3_1 (ji5)).f1, t212⟩ : S98) : List (S98))).bind fun y213 => (if y213.length < 5864062014805 then ((some (y213 ++ [(⟨(⟨#[]⟩ : ByteArray), true, false⟩ : S98)] : List (S98))).bind fun y214 => (if 0 ≤ (wrap64 ((y214.length : Int) - 1)) then (if (wrap64 ((y214.length : Int) - 1)) < (y214.length : Int) then (if x4_1 ≤ (wrap64 (x4_1 + 1)) then (if (wrap64 (x4_1 + 1)) ≤ (a0.size : Int) then (if ((rd_T98 y214 (wrap64 ((y214.length : Int) - 1))).f0).size + (a0.extract (x4_1 : Int).toNat ((wrap64 (x4_1 + 1)) : Int).toNat).size ≤ 9223372036854775807 then (newelref05_parts.l0 k1 a0 (y214.set ((wrap64 ((y214.length : Int) - 1)) : Int).toNat (⟨((rd_T98 y214 (wrap64 ((y214.length : Int) - 1))).f0) ++ (a0.extract (x4_1 : Int).toNat ((wrap64 (x4_1 + 1)) : Int).toNat), (rd_T98 y214 (wrap64 ((y214.length : Int) - 1))).f1, (rd_T98 y214 (wrap64 ((y214.length : Int) - 1))).f2⟩ : S98)) (wrap64 (x4_1 + 1))) else (none)) else (none)) else (none)) else (none)) else (none))) else (none)))) else (if x4_1 ≤ (wrap64 (x4_1 + 1)) then (if (wrap64 (x4_1 + 1)) ≤ (a0.size : Int) then (if ((rd_T98 x3_1 (ji5)).f0).size + (a0.extract (x4_1 : Int).toNat ((wrap64 (x4_1 + 1)) : Int).toNat).size ≤ 9223372036854775807 then (newelref05_parts.l0 k1 a0 (x3_1.set ((ji5) : Int).toNat (⟨((rd_T98 x3_1 (ji5)).f0) ++ (a0.extract (x4_1 : Int).toNat ((wrap64 (x4_1 + 1)) : Int).toNat), (rd_T98 x3_1 (ji5)).f1, (rd_T98 x3_1 (ji5)).f2⟩ : S98)) (wrap64 (x4_1 + 1))) else (none)) else (none)) else (none))))) else (none)) else (none))))) else (none)) else (none)) else (none)) = some r := by first | (rw [hji5] at H; exact H) | (simp only [hji5] at H ⊢; exact H)
        have hji5w : (IntKind.i64.wrap ((x3_1.length : Int) - 1)) = ji5 := (i64_w _).trans hji5
        by_cases c6 : 0 ≤ (ji5)
        · rw [if_pos c6] at H
          have c6b0 : decide (0 ≤ (ji5)) = true := decide_eq_true c6
          clear c6
          by_cases c7 : (ji5) < (x3_1.length : Int)
          · rw [if_pos c7] at H
            have c7b0 : decide ((ji5) < (x3_1.length : Int)) = true := decide_eq_true c7
            clear c7
            by_cases c9 : 0 ≤ x4_1
            · rw [if_pos c9] at H
              have c9b0 : decide (0 ≤ x4_1) = true := decide_eq_true c9
              clear c9
              by_cases c11 : (bt a0 x4_1) = 46
              · rw [if_pos c11] at H
                have c11b0 : ((bt a0 x4_1) == 46) = true := beq_iff_eq.mpr c11
                have c11b1 : ((bt a0 x4_1) != 46) = false := bne_eq_false_iff_eq.mpr c11
                clear c11
                by_cases c13 : x3_1.length < 5864062014805
                · rw [if_pos c13] at H
                  have LMc13 := Aside0.mk c13
                  clear c13
                  obtain ⟨y199, hy199⟩ : ∃ y_ : List (S98), y_ = (x3_1 ++ [(⟨(⟨#[]⟩ : ByteArray), ((bt a0 x4_1) == 45), false⟩ : S98)]) := ⟨_, rfl⟩
                  replace H : (newelref05_parts.l0 k1 a0 y199 (wrap64 (x4_1 + 1))) = some r := by first | (rw [hy199]; with_reducible exact H) | (have H2_ := (Option.bind_some _ _).symm.trans H; rw [hy199]; with_reducible exact H2_) | (have H2_ := (Option.bind_some _ _).symm.trans H; with_reducible exact H2_) | with_reducible exact H | (rw [hy199]; exact H) | exact H
                  have Ny199 := Aside0.mk hy199
                  clear hy199
                  have H' := Aside0.mk H
                  clear H
                  obtain ⟨Ao14, co14, eo14⟩ := Kd.R_slice HO_3.out
                  subst eo14
                  have p8 : 0 ≤ ((ji5) : Int) := of_decide_eq_true (by first | (with_reducible assumption) | assumption)
                  have q8 : ((ji5) : Int) < ((x3_1.length : Int) : Int) := of_decide_eq_true (by first | (with_reducible assumption) | assumption)
                  obtain ⟨go8, co8, eo8, gb8, gl8, cl8, HG8⟩ := Kd.R_form HO_3.out (by omega)
                  (first | cases eo8 | (injection eo8 with ea_ en_ ec_; (first | subst ea_ | (injection ea_ with ea_; subst ea_)); subst ec_; clear en_))
                  have GB8 := Aside0.mk gb8
                  have GG8 := Aside0.mk HG8
                  clear gb8 gl8 HG8
                  obtain ⟨ce8, hcl8, hM8, hcc8, hfr8⟩ := Kd.R_elem HO_3.out z98 ((ji5) : Int) p8 q8
                  obtain rfl := k98_openM hM8
                  have hx8_0 : wr.cell? ⟨go8, ((ji5) : Int).toNat * 3, none⟩ = some (.string ((rd_T98 x3_1 (ji5)).f0)) := hcc8 0 _ rfl
                  have hx8_1 : wr.cell? ⟨go8, ((ji5) : Int).toNat * 3 + 1, none⟩ = some (.bool ((rd_T98 x3_1 (ji5)).f1)) := hcc8 1 _ rfl
                  have hx8_2 : wr.cell? ⟨go8, ((ji5) : Int).toNat * 3 + 2, none⟩ = some (.bool ((rd_T98 x3_1 (ji5)).f2)) := hcc8 2 _ rfl
                  have hf8_0 : wr.frozen? ⟨go8, ((ji5) : Int).toNat * 3, none⟩ = false := hfr8 0
                  have hf8_1 : wr.frozen? ⟨go8, ((ji5) : Int).toNat * 3 + 1, none⟩ = false := hfr8 1
                  have hf8_2 : wr.frozen? ⟨go8, ((ji5) : Int).toNat * 3 + 2, none⟩ = false := hfr8 2
                  clear hcl8 hcc8 hfr8 hM8
                  replace p8 := eq_true p8
                  replace q8 := eq_true q8
                  have p10 : 0 ≤ (x4_1 : Int) := of_decide_eq_true (by first | (with_reducible assumption) | assumption)
                  have q10 : x4_1 < (a0.size : Int) := of_decide_eq_true (by first | (with_reducible assumption) | assumption)
                  have hx10 := bt_at a0 x4_1
                  replace p10 := eq_true p10
                  replace q10 := eq_true q10
                  have p12 : 0 ≤ (x4_1 : Int) := of_decide_eq_true (by first | (with_reducible assumption) | assumption)
                  have q12 : x4_1 < (a0.size : Int) := of_decide_eq_true (by first | (with_reducible assumption) | assumption)
                  have hx12 := bt_at a0 x4_1
                  replace p12 := eq_true p12
                  replace q12 := eq_true q12
                  go_wp2_with (first | ((with_reducible refine gate_builtin (b := .append) (xs := #[.tmp 29, .tmp 35]) rfl ?_); (try (refine gate_guard (by rfl) ?_; dsimp only)); at_builtin; refine Kd.R_append k98 (w0 := w) w.heap.size rfl (.tmp 29) (.tmp 35) 94 98 (.agg #[(.string ⟨#[]⟩), (.bool false), (.bool false)]) 24 rfl Tryd.underlying94 info98 rfl (by decide) (by omega) (.slice (some ⟨go8, 0, none⟩) x3_1.length co14) x3_1 (⟨(⟨#[]⟩ : ByteArray), ((bt a0 x4_1) == 45), false⟩ : S98) [.string (⟨#[]⟩ : ByteArray), .bool ((bt a0 x4_1) == 45), .bool false] (fun _ => True) (fun _ => False) rfl rfl ?aP (fun _ hk => hk.elim) ?aF ?aO ?aB ?aS ?aL ?_; (case aP => exact k98_mkM _ _ _ (⟨(⟨#[]⟩ : ByteArray), ((bt a0 x4_1) == 45), false⟩ : S98)); (case aB => exact (by repeat (first | (with_reducible first | exact HB.out | apply below_alloc | apply pw_below_drewN | apply below_drew1) | exact HB.out))); (case aF => exact (fun _ _ => trivial)); (case aO => exact (by (with_reducible repeat (first | apply Kd.R_alloc | apply Kd.R_drewN | apply Kd.R_drew)); exact HO_3.out)); (case aS => exact (below_size (by repeat (first | (with_reducible first | exact HB.out | apply below_alloc | apply pw_below_drewN | apply below_drew1) | exact HB.out)))); (case aL => have := LMc13.out; omega); intro v200 w15 ho hb hg hat; rw [← Ny199.out] at ho; have n0_ := Aside0.mk (hb); have n1_ := Aside0.mk (ho); clear HB; clear HO_3; have HB := n0_; have HO201 := n1_; clear n0_ n1_; clear ho hb hg hat))
                  go_roundg k1
                  case measure => have := HK1.out; omega
                  case rel => exact ⟨(y199), (wrap64 (x4_1 + 1)), (by first | rfl | (simp; done) | (simp [*]; done) | (simp; exact isEmpty_bne _)), H', ⟨by have := HK1.out; omega⟩, ⟨by (with_reducible repeat (first | apply Kd.R_alloc | apply Kd.R_drewN | apply Kd.R_drew)); exact HO201.out⟩, ⟨by repeat (first | (with_reducible first | exact HB.out | apply below_alloc | apply pw_below_drewN | apply below_drew1) | exact HB.out)⟩⟩
                · rw [if_neg c13] at H
                  exact absurd H (by simp)
              · rw [if_neg c11] at H
                have c11b0 : ((bt a0 x4_1) == 46) = false := beq_eq_false_iff_ne.mpr c11
                have c11b1 : ((bt a0 x4_1) != 46) = true := bne_iff_ne.mpr c11
                by_cases c17 : (bt a0 x4_1) = 45
                · rw [if_pos c17] at H
                  have c17b0 : ((bt a0 x4_1) == 45) = true := beq_iff_eq.mpr c17
                  have c17b1 : ((bt a0 x4_1) != 45) = false := bne_eq_false_iff_eq.mpr c17
                  clear c17
                  by_cases c19 : x3_1.length < 5864062014805
                  · rw [if_pos c19] at H
                    have LMc19 := Aside0.mk c19
                    clear c19
                    obtain ⟨y202, hy202⟩ : ∃ y_ : List (S98), y_ = (x3_1 ++ [(⟨(⟨#[]⟩ : ByteArray), true, false⟩ : S98)]) := ⟨_, rfl⟩
                    replace H : (newelref05_parts.l0 k1 a0 y202 (wrap64 (x4_1 + 1))) = some r := by first | (rw [hy202]; with_reducible exact H) | (have H2_ := (Option.bind_some _ _).symm.trans H; rw [hy202]; with_reducible exact H2_) | (have H2_ := (Option.bind_some _ _).symm.trans H; with_reducible exact H2_) | with_reducible exact H | (rw [hy202]; exact H) | exact H
                    have Ny202 := Aside0.mk hy202
                    clear hy202
                    have H' := Aside0.mk H
                    clear H
                    obtain ⟨Ao20, co20, eo20⟩ := Kd.R_slice HO_3.out
                    subst eo20
                    have p8 : 0 ≤ ((ji5) : Int) := of_decide_eq_true (by first | (with_reducible assumption) | assumption)
                    have q8 : ((ji5) : Int) < ((x3_1.length : Int) : Int) := of_decide_eq_true (by first | (with_reducible assumption) | assumption)
                    obtain ⟨go8, co8, eo8, gb8, gl8, cl8, HG8⟩ := Kd.R_form HO_3.out (by omega)
                    (first | cases eo8 | (injection eo8 with ea_ en_ ec_; (first | subst ea_ | (injection ea_ with ea_; subst ea_)); subst ec_; clear en_))
                    have GB8 := Aside0.mk gb8
                    have GG8 := Aside0.mk HG8
                    clear gb8 gl8 HG8
                    obtain ⟨ce8, hcl8, hM8, hcc8, hfr8⟩ := Kd.R_elem HO_3.out z98 ((ji5) : Int) p8 q8
                    obtain rfl := k98_openM hM8
                    have hx8_0 : wr.cell? ⟨go8, ((ji5) : Int).toNat * 3, none⟩ = some (.string ((rd_T98 x3_1 (ji5)).f0)) := hcc8 0 _ rfl
                    have hx8_1 : wr.cell? ⟨go8, ((ji5) : Int).toNat * 3 + 1, none⟩ = some (.bool ((rd_T98 x3_1 (ji5)).f1)) := hcc8 1 _ rfl
                    have hx8_2 : wr.cell? ⟨go8, ((ji5) : Int).toNat * 3 + 2, none⟩ = some (.bool ((rd_T98 x3_1 (ji5)).f2)) := hcc8 2 _ rfl
                    have hf8_0 : wr.frozen? ⟨go8, ((ji5) : Int).toNat * 3, none⟩ = false := hfr8 0
                    have hf8_1 : wr.frozen? ⟨go8, ((ji5) : Int).toNat * 3 + 1, none⟩ = false := hfr8 1
                    have hf8_2 : wr.frozen? ⟨go8, ((ji5) : Int).toNat * 3 + 2, none⟩ = false := hfr8 2
                    clear hcl8 hcc8 hfr8 hM8
                    replace p8 := eq_true p8
                    replace q8 := eq_true q8
                    have p10 : 0 ≤ (x4_1 : Int) := of_decide_eq_true (by first | (with_reducible assumption) | assumption)
                    have q10 : x4_1 < (a0.size : Int) := of_decide_eq_true (by first | (with_reducible assumption) | assumption)
                    have hx10 := bt_at a0 x4_1
                    replace p10 := eq_true p10
                    replace q10 := eq_true q10
                    have p16 : 0 ≤ (x4_1 : Int) := of_decide_eq_true (by first | (with_reducible assumption) | assumption)
                    have q16 : x4_1 < (a0.size : Int) := of_decide_eq_true (by first | (with_reducible assumption) | assumption)
                    have hx16 := bt_at a0 x4_1
                    replace p16 := eq_true p16
                    replace q16 := eq_true q16
                    have p18 : 0 ≤ (x4_1 : Int) := of_decide_eq_true (by first | (with_reducible assumption) | assumption)
                    have q18 : x4_1 < (a0.size : Int) := of_decide_eq_true (by first | (with_reducible assumption) | assumption)
                    have hx18 := bt_at a0 x4_1
                    replace p18 := eq_true p18
                    replace q18 := eq_true q18
                    go_wp2_with (first | ((with_reducible refine gate_builtin (b := .append) (xs := #[.tmp 29, .tmp 35]) rfl ?_); (try (refine gate_guard (by rfl) ?_; dsimp only)); at_builtin; refine Kd.R_append k98 (w0 := w) w.heap.size rfl (.tmp 29) (.tmp 35) 94 98 (.agg #[(.string ⟨#[]⟩), (.bool false), (.bool false)]) 24 rfl Tryd.underlying94 info98 rfl (by decide) (by omega) (.slice (some ⟨go8, 0, none⟩) x3_1.length co20) x3_1 (⟨(⟨#[]⟩ : ByteArray), true, false⟩ : S98) [.string (⟨#[]⟩ : ByteArray), .bool true, .bool false] (fun _ => True) (fun _ => False) rfl rfl ?aP (fun _ hk => hk.elim) ?aF ?aO ?aB ?aS ?aL ?_; (case aP => exact k98_mkM _ _ _ (⟨(⟨#[]⟩ : ByteArray), true, false⟩ : S98)); (case aB => exact (by repeat (first | (with_reducible first | exact HB.out | apply below_alloc | apply pw_below_drewN | apply below_drew1) | exact HB.out))); (case aF => exact (fun _ _ => trivial)); (case aO => exact (by (with_reducible repeat (first | apply Kd.R_alloc | apply Kd.R_drewN | apply Kd.R_drew)); exact HO_3.out)); (case aS => exact (below_size (by repeat (first | (with_reducible first | exact HB.out | apply below_alloc | apply pw_below_drewN | apply below_drew1) | exact HB.out)))); (case aL => have := LMc19.out; omega); intro v203 w21 ho hb hg hat; rw [← Ny202.out] at ho; have n0_ := Aside0.mk (hb); have n1_ := Aside0.mk (ho); clear HB; clear HO_3; have HB := n0_; have HO204 := n1_; clear n0_ n1_; clear ho hb hg hat))
                    go_roundg k1
                    case measure => have := HK1.out; omega
                    case rel => exact ⟨(y202), (wrap64 (x4_1 + 1)), (by first | rfl | (simp; done) | (simp [*]; done) | (simp; exact isEmpty_bne _)), H', ⟨by have := HK1.out; omega⟩, ⟨by (with_reducible repeat (first | apply Kd.R_alloc | apply Kd.R_drewN | apply Kd.R_drew)); exact HO204.out⟩, ⟨by repeat (first | (with_reducible first | exact HB.out | apply below_alloc | apply pw_below_drewN | apply below_drew1) | exact HB.out)⟩⟩
                  · rw [if_neg c19] at H
                    exact absurd H (by simp)
                · rw [if_neg c17] at H
                  have c17b0 : ((bt a0 x4_1) == 45) = false := beq_eq_false_iff_ne.mpr c17
                  have c17b1 : ((bt a0 x4_1) != 45) = true := bne_iff_ne.mpr c17
                  by_cases c22 : ((rd_T98 x3_1 (ji5)).f0).toList = ([] : List UInt8)
                  · rw [if_pos c22] at H
                    have c22b0 : (((rd_T98 x3_1 (ji5)).f0).toList == ([] : List UInt8)) = true := beq_iff_eq.mpr c22
                    have c22b1 : (((rd_T98 x3_1 (ji5)).f0).toList != ([] : List UInt8)) = false := bne_eq_false_iff_eq.mpr c22
                    (try (have c22b2 : (((rd_T98 x3_1 (ji5)).f0).toList).isEmpty = true := by simpa using c22))
                    clear c22
                    have c24b0 := eq_true (of_decide_eq_true (by first | (with_reducible assumption) | assumption) : 0 ≤ x4_1)
                    by_cases c25 : x4_1 ≤ (wrap64 (x4_1 + 1))
                    · rw [if_pos c25] at H
                      have c25b0 := eq_true c25
                      have c25b1 : decide (x4_1 ≤ (wrap64 (x4_1 + 1))) = true := decide_eq_true c25
                      by_cases c26 : (wrap64 (x4_1 + 1)) ≤ (a0.size : Int)
                      · rw [if_pos c26] at H
                        have c26b0 := eq_true c26
                        have c26b1 : decide ((wrap64 (x4_1 + 1)) ≤ (a0.size : Int)) = true := decide_eq_true c26
                        by_cases c27 : ((rd_T98 x3_1 (ji5)).f0).size + (a0.extract (x4_1 : Int).toNat ((wrap64 (x4_1 + 1)) : Int).toNat).size ≤ 9223372036854775807
                        · rw [if_pos c27] at H
                          have c27b0 := eq_true c27
                          have c27b1 : decide (((rd_T98 x3_1 (ji5)).f0).size + (a0.extract (x4_1 : Int).toNat ((wrap64 (x4_1 + 1)) : Int).toNat).size ≤ 9223372036854775807) = true := decide_eq_true c27
                          try have c27b2 : (9223372036854775807 < ((rd_T98 x3_1 (ji5)).f0).size + (a0.extract (x4_1 : Int).toNat ((wrap64 (x4_1 + 1)) : Int).toNat).size) = False := eq_false (Nat.not_lt.2 c27)
                          try have c27q : (9223372036854775807 < ((rd_T98 x3_1 (ji5)).f0).size + (((wrap64 (x4_1 + 1)) : Int).toNat - (x4_1 : Int).toNat)) = False := eq_false (by have z_ := c27; have y_ : ((wrap64 (x4_1 + 1)) : Int) ≤ ((a0).size : Int) := of_decide_eq_true (by assumption); simp only [ByteArray.size_extract] at z_; omega)
                          obtain ⟨y207, hy207⟩ : ∃ y_ : List (S98), y_ = (x3_1.set ((ji5) : Int).toNat (⟨((rd_T98 x3_1 (ji5)).f0) ++ (a0.extract (x4_1 : Int).toNat ((wrap64 (x4_1 + 1)) : Int).toNat), (rd_T98 x3_1 (ji5)).f1, (rd_T98 x3_1 (ji5)).f2⟩ : S98)) := ⟨_, rfl⟩
                          replace H : (newelref05_parts.l0 k1 a0 y207 (wrap64 (x4_1 + 1))) = some r := by first | (rw [hy207]; with_reducible exact H) | (have H2_ := (Option.bind_some _ _).symm.trans H; rw [hy207]; with_reducible exact H2_) | (have H2_ := (Option.bind_some _ _).symm.trans H; with_reducible exact H2_) | with_reducible exact H | (rw [hy207]; exact H) | exact H
                          have Ny207 := Aside0.mk hy207
                          clear hy207
                          have H' := Aside0.mk H
                          clear H
                          obtain ⟨Ao29, co29, eo29⟩ := Kd.R_slice HO_3.out
                          subst eo29
                          have p8 : 0 ≤ ((ji5) : Int) := of_decide_eq_true (by first | (with_reducible assumption) | assumption)
                          have q8 : ((ji5) : Int) < ((x3_1.length : Int) : Int) := of_decide_eq_true (by first | (with_reducible assumption) | assumption)
                          obtain ⟨go8, co8, eo8, gb8, gl8, cl8, HG8⟩ := Kd.R_form HO_3.out (by omega)
                          (first | cases eo8 | (injection eo8 with ea_ en_ ec_; (first | subst ea_ | (injection ea_ with ea_; subst ea_)); subst ec_; clear en_))
                          have GB8 := Aside0.mk gb8
                          have GG8 := Aside0.mk HG8
                          clear gb8 gl8 HG8
                          obtain ⟨ce8, hcl8, hM8, hcc8, hfr8⟩ := Kd.R_elem HO_3.out z98 ((ji5) : Int) p8 q8
                          obtain rfl := k98_openM hM8
                          have hx8_0 : wr.cell? ⟨go8, ((ji5) : Int).toNat * 3, none⟩ = some (.string ((rd_T98 x3_1 (ji5)).f0)) := hcc8 0 _ rfl
                          have hx8_1 : wr.cell? ⟨go8, ((ji5) : Int).toNat * 3 + 1, none⟩ = some (.bool ((rd_T98 x3_1 (ji5)).f1)) := hcc8 1 _ rfl
                          have hx8_2 : wr.cell? ⟨go8, ((ji5) : Int).toNat * 3 + 2, none⟩ = some (.bool ((rd_T98 x3_1 (ji5)).f2)) := hcc8 2 _ rfl
                          have hf8_0 : wr.frozen? ⟨go8, ((ji5) : Int).toNat * 3, none⟩ = false := hfr8 0
                          have hf8_1 : wr.frozen? ⟨go8, ((ji5) : Int).toNat * 3 + 1, none⟩ = false := hfr8 1
                          have hf8_2 : wr.frozen? ⟨go8, ((ji5) : Int).toNat * 3 + 2, none⟩ = false := hfr8 2
                          clear hcl8 hcc8 hfr8 hM8
                          replace p8 := eq_true p8
                          replace q8 := eq_true q8
                          have p10 : 0 ≤ (x4_1 : Int) := of_decide_eq_true (by first | (with_reducible assumption) | assumption)
                          have q10 : x4_1 < (a0.size : Int) := of_decide_eq_true (by first | (with_reducible assumption) | assumption)
                          have hx10 := bt_at a0 x4_1
                          replace p10 := eq_true p10
                          replace q10 := eq_true q10
                          have p16 : 0 ≤ (x4_1 : Int) := of_decide_eq_true (by first | (with_reducible assumption) | assumption)
                          have q16 : x4_1 < (a0.size : Int) := of_decide_eq_true (by first | (with_reducible assumption) | assumption)
                          have hx16 := bt_at a0 x4_1
                          replace p16 := eq_true p16
                          replace q16 := eq_true q16
                          try go_wp2
                          have n0_ := Aside0.mk (Kd.R_drew HO_3.out)
                          have n1_ := Aside0.mk (below_drew1 HB.out)
                          clear HO_3
                          clear HB
                          have HO_3 := n0_
                          have HB := n1_
                          clear n0_ n1_
                          have p205 : 0 ≤ ((ji5) : Int) := of_decide_eq_true (by first | (with_reducible assumption) | assumption)
                          have q205 : (ji5) < (x3_1.length : Int) := of_decide_eq_true (by first | (with_reducible assumption) | assumption)
                          obtain ⟨ad205, e205, hx205_0, hx205_1, hx205_2⟩ := at_T98 (Kd.R_reads' HO_3.out).2.2 (ji5) p205 q205
                          obtain rfl : (⟨go8, 0, none⟩ : Addr) = ad205 := (by injection e205)
                          (first | simp only [add_plain] at hx205_0 | simp only [add_at] at hx205_0 | simp only [Addr.add, Nat.zero_add] at hx205_0 | skip)
                          (first | simp only [add_plain] at hx205_1 | simp only [add_at] at hx205_1 | simp only [Addr.add, Nat.zero_add] at hx205_1 | skip)
                          (first | simp only [add_plain] at hx205_2 | simp only [add_at] at hx205_2 | simp only [Addr.add, Nat.zero_add] at hx205_2 | skip)
                          replace p205 := eq_true p205
                          replace q205 := eq_true q205
                          refine start_ (n := 24) (S := fun w' => w'.cell? ⟨go8, ((ji5)).toNat * 3, none⟩ = some (.string ((rd_T98 x3_1 (ji5)).f0)) ∧ w'.cell? ⟨go8, ((ji5)).toNat * 3 + 1, none⟩ = some (.bool ((rd_T98 x3_1 (ji5)).f1)) ∧ w'.cell? ⟨go8, ((ji5)).toNat * 3 + 2, none⟩ = some (.bool ((rd_T98 x3_1 (ji5)).f2))) (ds := []) #[false, false, false, false, false, false, false, false, false, false, false, false, false, false, false, false, false, false, false, false, false, false, false, false] (by kernel_rfl) rfl rfl ⟨hx205_0, hx205_1, hx205_2⟩ (fun hHeld => ?_); refine with_tabW newelref05_parts.tab8 newelref05_parts.bits8 (fun HT_ HW_ => ?_)
                          generalize wr.drew = w30 at HO_3 HB hx205_0 hx205_1 hx205_2 hHeld ⊢
                          refine pure_ (i := 0) (N := some 37) (v := ?_) (a' := ?_) #[true, false, false, false, false, false, false, false, false, false, false, false, false, false, false, false, false, false, false, false, false, false, false, false] rfl rfl (any_of HT_.out (by kernel_rfl)) (fun _ _ _ h => h) (Or.inl ⟨by rfl, ?_⟩) ?_ ?_
                          rotate_left
                          · intro w'
                            go_simp
                            with_reducible rfl
                          rotate_left
                          · simp only [Act.put, List.setIfInBounds_toArray, List.set_cons_zero, List.set_cons_succ, i64_w, i32_w]
                            rfl
                          refine pure_ (i := 1) (N := some 38) (v := ?_) (a' := ?_) #[true, true, false, false, false, false, false, false, false, false, false, false, false, false, false, false, false, false, false, false, false, false, false, false] rfl rfl (any_of HT_.out (by kernel_rfl)) (fun _ _ _ h => h) (Or.inl ⟨by rfl, ?_⟩) ?_ ?_
                          rotate_left
                          · intro w'
                            go_simp
                            with_reducible rfl
                          rotate_left
                          · simp only [Act.put, List.setIfInBounds_toArray, List.set_cons_zero, List.set_cons_succ, i64_w, i32_w]
                            rfl
                          refine pure_ (i := 2) (N := some 39) (v := ?_) (a' := ?_) #[true, true, true, false, false, false, false, false, false, false, false, false, false, false, false, false, false, false, false, false, false, false, false, false] rfl rfl (any_of HT_.out (by kernel_rfl)) (fun _ _ _ h => h) (Or.inl ⟨by rfl, ?_⟩) ?_ ?_
                          rotate_left
                          · intro w'
                            go_simp
                            with_reducible rfl
                          rotate_left
                          · simp only [Act.put, List.setIfInBounds_toArray, List.set_cons_zero, List.set_cons_succ, i64_w, i32_w]
                            rfl
                          refine take_ (i := 3) (N := some 40) (v := ?_) (a' := ?_) #[true, true, true, true, false, false, false, false, false, false, false, false, false, false, false, false, false, false, false, false, false, false, false, false] rfl rfl (take_ofW HT_.out HW_.out (by kernel_rfl)) (fun _ _ _ h => h) (Or.inl ⟨by rfl, ?_⟩) hHeld ?_ ?_
                          rotate_left
                          · rintro w' ⟨s0, s1, s2⟩
                            go_simp
                            with_reducible rfl
                          rotate_left
                          · simp only [Act.put, List.setIfInBounds_toArray, List.set_cons_zero, List.set_cons_succ, i64_w, i32_w]
                            rfl
                          refine pure_ (i := 4) (N := some 41) (v := ?_) (a' := ?_) #[true, true, true, true, true, false, false, false, false, false, false, false, false, false, false, false, false, false, false, false, false, false, false, false] rfl rfl (any_of HT_.out (by kernel_rfl)) (fun _ _ _ h => h) (Or.inl ⟨by rfl, ?_⟩) ?_ ?_
                          rotate_left
                          · intro w'
                            go_simp
                            with_reducible rfl
                          rotate_left
                          · simp only [Act.put, List.setIfInBounds_toArray, List.set_cons_zero, List.set_cons_succ, i64_w, i32_w]
                            rfl
                          refine pure_ (i := 5) (N := some 42) (v := ?_) (a' := ?_) #[true, true, true, true, true, true, false, false, false, false, false, false, false, false, false, false, false, false, false, false, false, false, false, false] rfl rfl (any_of HT_.out (by kernel_rfl)) (fun _ _ _ h => h) (Or.inl ⟨by rfl, ?_⟩) ?_ ?_
                          rotate_left
                          · intro w'
                            go_simp
                            with_reducible rfl
                          rotate_left
                          · simp only [Act.put, List.setIfInBounds_toArray, List.set_cons_zero, List.set_cons_succ, i64_w, i32_w]
                            rfl
                          refine pure_ (i := 6) (N := some 43) (v := undef) (a' := ?_) #[true, true, true, true, true, true, true, false, false, false, false, false, false, false, false, false, false, false, false, false, false, false, false, false] rfl rfl (any_of HT_.out (by kernel_rfl)) (fun _ _ _ h => h) (Or.inr ⟨by rfl, rfl⟩) ?_ ?_
                          rotate_left
                          · simp only [Act.put, List.setIfInBounds_toArray, List.set_cons_zero, List.set_cons_succ, i64_w, i32_w]
                            rfl
                          refine pure_ (i := 7) (N := some 44) (v := undef) (a' := ?_) #[true, true, true, true, true, true, true, true, false, false, false, false, false, false, false, false, false, false, false, false, false, false, false, false] rfl rfl (any_of HT_.out (by kernel_rfl)) (fun _ _ _ h => h) (Or.inr ⟨by rfl, rfl⟩) ?_ ?_
                          rotate_left
                          · simp only [Act.put, List.setIfInBounds_toArray, List.set_cons_zero, List.set_cons_succ, i64_w, i32_w]
                            rfl
                          refine pure_ (i := 8) (N := some 45) (v := undef) (a' := ?_) #[true, true, true, true, true, true, true, true, true, false, false, false, false, false, false, false, false, false, false, false, false, false, false, false] rfl rfl (any_of HT_.out (by kernel_rfl)) (fun _ _ _ h => h) (Or.inr ⟨by rfl, rfl⟩) ?_ ?_
                          rotate_left
                          · simp only [Act.put, List.setIfInBounds_toArray, List.set_cons_zero, List.set_cons_succ, i64_w, i32_w]
                            rfl
                          refine pure_ (i := 9) (N := some 46) (v := undef) (a' := ?_) #[true, true, true, true, true, true, true, true, true, true, false, false, false, false, false, false, false, false, false, false, false, false, false, false] rfl rfl (any_of HT_.out (by kernel_rfl)) (fun _ _ _ h => h) (Or.inr ⟨by rfl, rfl⟩) ?_ ?_
                          rotate_left
                          · simp only [Act.put, List.setIfInBounds_toArray, List.set_cons_zero, List.set_cons_succ, i64_w, i32_w]
                            rfl
                          refine pure_ (i := 10) (N := some 47) (v := undef) (a' := ?_) #[true, true, true, true, true, true, true, true, true, true, true, false, false, false, false, false, false, false, false, false, false, false, false, false] rfl rfl (any_of HT_.out (by kernel_rfl)) (fun _ _ _ h => h) (Or.inr ⟨by rfl, rfl⟩) ?_ ?_
                          rotate_left
                          · simp only [Act.put, List.setIfInBounds_toArray, List.set_cons_zero, List.set_cons_succ, i64_w, i32_w]
                            rfl
                          refine pure_ (i := 11) (N := some 48) (v := undef) (a' := ?_) #[true, true, true, true, true, true, true, true, true, true, true, true, false, false, false, false, false, false, false, false, false, false, false, false] rfl rfl (any_of HT_.out (by kernel_rfl)) (fun _ _ _ h => h) (Or.inr ⟨by rfl, rfl⟩) ?_ ?_
                          rotate_left
                          · simp only [Act.put, List.setIfInBounds_toArray, List.set_cons_zero, List.set_cons_succ, i64_w, i32_w]
                            rfl
                          refine pure_ (i := 12) (N := some 49) (v := undef) (a' := ?_) #[true, true, true, true, true, true, true, true, true, true, true, true, true, false, false, false, false, false, false, false, false, false, false, false] rfl rfl (any_of HT_.out (by kernel_rfl)) (fun _ _ _ h => h) (Or.inr ⟨by rfl, rfl⟩) ?_ ?_
                          rotate_left
                          · simp only [Act.put, List.setIfInBounds_toArray, List.set_cons_zero, List.set_cons_succ, i64_w, i32_w]
                            rfl
                          refine pure_ (i := 13) (N := some 50) (v := undef) (a' := ?_) #[true, true, true, true, true, true, true, true, true, true, true, true, true, true, false, false, false, false, false, false, false, false, false, false] rfl rfl (any_of HT_.out (by kernel_rfl)) (fun _ _ _ h => h) (Or.inr ⟨by rfl, rfl⟩) ?_ ?_
                          rotate_left
                          · simp only [Act.put, List.setIfInBounds_toArray, List.set_cons_zero, List.set_cons_succ, i64_w, i32_w]
                            rfl
                          refine pure_ (i := 14) (N := some 51) (v := undef) (a' := ?_) #[true, true, true, true, true, true, true, true, true, true, true, true, true, true, true, false, false, false, false, false, false, false, false, false] rfl rfl (any_of HT_.out (by kernel_rfl)) (fun _ _ _ h => h) (Or.inr ⟨by rfl, rfl⟩) ?_ ?_
                          rotate_left
                          · simp only [Act.put, List.setIfInBounds_toArray, List.set_cons_zero, List.set_cons_succ, i64_w, i32_w]
                            rfl
                          refine pure_ (i := 15) (N := some 52) (v := undef) (a' := ?_) #[true, true, true, true, true, true, true, true, true, true, true, true, true, true, true, true, false, false, false, false, false, false, false, false] rfl rfl (any_of HT_.out (by kernel_rfl)) (fun _ _ _ h => h) (Or.inr ⟨by rfl, rfl⟩) ?_ ?_
                          rotate_left
                          · simp only [Act.put, List.setIfInBounds_toArray, List.set_cons_zero, List.set_cons_succ, i64_w, i32_w]
                            rfl
                          refine pure_ (i := 16) (N := some 53) (v := undef) (a' := ?_) #[true, true, true, true, true, true, true, true, true, true, true, true, true, true, true, true, true, false, false, false, false, false, false, false] rfl rfl (any_of HT_.out (by kernel_rfl)) (fun _ _ _ h => h) (Or.inr ⟨by rfl, rfl⟩) ?_ ?_
                          rotate_left
                          · simp only [Act.put, List.setIfInBounds_toArray, List.set_cons_zero, List.set_cons_succ, i64_w, i32_w]
                            rfl
                          refine pure_ (i := 17) (N := some 54) (v := undef) (a' := ?_) #[true, true, true, true, true, true, true, true, true, true, true, true, true, true, true, true, true, true, false, false, false, false, false, false] rfl rfl (any_of HT_.out (by kernel_rfl)) (fun _ _ _ h => h) (Or.inr ⟨by rfl, rfl⟩) ?_ ?_
                          rotate_left
                          · simp only [Act.put, List.setIfInBounds_toArray, List.set_cons_zero, List.set_cons_succ, i64_w, i32_w]
                            rfl
                          refine pure_ (i := 18) (N := some 55) (v := undef) (a' := ?_) #[true, true, true, true, true, true, true, true, true, true, true, true, true, true, true, true, true, true, true, false, false, false, false, false] rfl rfl (any_of HT_.out (by kernel_rfl)) (fun _ _ _ h => h) (Or.inr ⟨by rfl, rfl⟩) ?_ ?_
                          rotate_left
                          · simp only [Act.put, List.setIfInBounds_toArray, List.set_cons_zero, List.set_cons_succ, i64_w, i32_w]
                            rfl
                          refine pure_ (i := 19) (N := some 56) (v := undef) (a' := ?_) #[true, true, true, true, true, true, true, true, true, true, true, true, true, true, true, true, true, true, true, true, false, false, false, false] rfl rfl (any_of HT_.out (by kernel_rfl)) (fun _ _ _ h => h) (Or.inr ⟨by rfl, rfl⟩) ?_ ?_
                          rotate_left
                          · simp only [Act.put, List.setIfInBounds_toArray, List.set_cons_zero, List.set_cons_succ, i64_w, i32_w]
                            rfl
                          refine pure_ (i := 20) (N := some 57) (v := undef) (a' := ?_) #[true, true, true, true, true, true, true, true, true, true, true, true, true, true, true, true, true, true, true, true, true, false, false, false] rfl rfl (any_of HT_.out (by kernel_rfl)) (fun _ _ _ h => h) (Or.inr ⟨by rfl, rfl⟩) ?_ ?_
                          rotate_left
                          · simp only [Act.put, List.setIfInBounds_toArray, List.set_cons_zero, List.set_cons_succ, i64_w, i32_w]
                            rfl
                          refine pure_ (i := 21) (N := some 58) (v := undef) (a' := ?_) #[true, true, true, true, true, true, true, true, true, true, true, true, true, true, true, true, true, true, true, true, true, true, false, false] rfl rfl (any_of HT_.out (by kernel_rfl)) (fun _ _ _ h => h) (Or.inr ⟨by rfl, rfl⟩) ?_ ?_
                          rotate_left
                          · simp only [Act.put, List.setIfInBounds_toArray, List.set_cons_zero, List.set_cons_succ, i64_w, i32_w]
                            rfl
                          refine pure_ (i := 22) (N := some 59) (v := undef) (a' := ?_) #[true, true, true, true, true, true, true, true, true, true, true, true, true, true, true, true, true, true, true, true, true, true, true, false] rfl rfl (any_of HT_.out (by kernel_rfl)) (fun _ _ _ h => h) (Or.inr ⟨by rfl, rfl⟩) ?_ ?_
                          rotate_left
                          · simp only [Act.put, List.setIfInBounds_toArray, List.set_cons_zero, List.set_cons_succ, i64_w, i32_w]
                            rfl
                          refine pure_ (i := 23) (N := some 60) (v := ?_) (a' := ?_) #[true, true, true, true, true, true, true, true, true, true, true, true, true, true, true, true, true, true, true, true, true, true, true, true] rfl rfl (any_of HT_.out (by kernel_rfl)) (fun _ _ _ h => h) (Or.inl ⟨by rfl, ?_⟩) ?_ ?_
                          rotate_left
                          · intro w'
                            go_simp
                            with_reducible rfl
                          rotate_left
                          · simp only [Act.put, List.setIfInBounds_toArray, List.set_cons_zero, List.set_cons_succ, i64_w, i32_w]
                            rfl
                          refine done_ (done_of HT_.out (by kernel_rfl)) ?_
                          have p23 : 0 ≤ ((ji5) : Int) := of_decide_eq_true (by first | (with_reducible assumption) | assumption)
                          have q23 : ((ji5) : Int) < ((x3_1.length : Int) : Int) := of_decide_eq_true (by first | (with_reducible assumption) | assumption)
                          obtain ⟨ce23, hcl23, hM23, hcc23, hfr23⟩ := Kd.R_elem HO_3.out z98 ((ji5) : Int) p23 q23
                          obtain rfl := k98_openM hM23
                          have hx23_0 : w30.cell? ⟨go8, ((ji5) : Int).toNat * 3, none⟩ = some (.string ((rd_T98 x3_1 (ji5)).f0)) := hcc23 0 _ rfl
                          have hx23_1 : w30.cell? ⟨go8, ((ji5) : Int).toNat * 3 + 1, none⟩ = some (.bool ((rd_T98 x3_1 (ji5)).f1)) := hcc23 1 _ rfl
                          have hx23_2 : w30.cell? ⟨go8, ((ji5) : Int).toNat * 3 + 2, none⟩ = some (.bool ((rd_T98 x3_1 (ji5)).f2)) := hcc23 2 _ rfl
                          have hf23_0 : w30.frozen? ⟨go8, ((ji5) : Int).toNat * 3, none⟩ = false := hfr23 0
                          have hf23_1 : w30.frozen? ⟨go8, ((ji5) : Int).toNat * 3 + 1, none⟩ = false := hfr23 1
                          have hf23_2 : w30.frozen? ⟨go8, ((ji5) : Int).toNat * 3 + 2, none⟩ = false := hfr23 2
                          clear hcl23 hcc23 hfr23 hM23
                          replace p23 := eq_true p23
                          replace q23 := eq_true q23
                          try go_wp2
                          have n0_ := Aside0.mk (Kd.R_drew HO_3.out)
                          have n1_ := Aside0.mk (below_drew1 HB.out)
                          clear HO_3
                          clear HB
                          have HO_3 := n0_
                          have HB := n1_
                          clear n0_ n1_
                          have p206 : 0 ≤ ((ji5) : Int) := of_decide_eq_true (by first | (with_reducible assumption) | assumption)
                          have q206 : (ji5) < (x3_1.length : Int) := of_decide_eq_true (by first | (with_reducible assumption) | assumption)
                          obtain ⟨ad206, e206, hx206_0, hx206_1, hx206_2⟩ := at_T98 (Kd.R_reads' HO_3.out).2.2 (ji5) p206 q206
                          obtain rfl : (⟨go8, 0, none⟩ : Addr) = ad206 := (by injection e206)
                          (first | simp only [add_plain] at hx206_0 | simp only [add_at] at hx206_0 | simp only [Addr.add, Nat.zero_add] at hx206_0 | skip)
                          (first | simp only [add_plain] at hx206_1 | simp only [add_at] at hx206_1 | simp only [Addr.add, Nat.zero_add] at hx206_1 | skip)
                          (first | simp only [add_plain] at hx206_2 | simp only [add_at] at hx206_2 | simp only [Addr.add, Nat.zero_add] at hx206_2 | skip)
                          replace p206 := eq_true p206
                          replace q206 := eq_true q206
                          have p28 : 0 ≤ ((ji5) : Int) := of_decide_eq_true (by first | (with_reducible assumption) | assumption)
                          have q28 : ((ji5) : Int) < ((x3_1.length : Int) : Int) := of_decide_eq_true (by first | (with_reducible assumption) | assumption)
                          obtain ⟨ce28, hcl28, hM28, hcc28, hfr28⟩ := Kd.R_elem HO_3.out z98 ((ji5) : Int) p28 q28
                          obtain rfl := k98_openM hM28
                          have hx28_0 : World.cell? _ ⟨go8, ((ji5) : Int).toNat * 3, none⟩ = some (.string ((rd_T98 x3_1 (ji5)).f0)) := hcc28 0 _ rfl
                          have hx28_1 : World.cell? _ ⟨go8, ((ji5) : Int).toNat * 3 + 1, none⟩ = some (.bool ((rd_T98 x3_1 (ji5)).f1)) := hcc28 1 _ rfl
                          have hx28_2 : World.cell? _ ⟨go8, ((ji5) : Int).toNat * 3 + 2, none⟩ = some (.bool ((rd_T98 x3_1 (ji5)).f2)) := hcc28 2 _ rfl
                          have hf28_0 : World.frozen? _ ⟨go8, ((ji5) : Int).toNat * 3, none⟩ = false := hfr28 0
                          have hf28_1 : World.frozen? _ ⟨go8, ((ji5) : Int).toNat * 3 + 1, none⟩ = false := hfr28 1
                          have hf28_2 : World.frozen? _ ⟨go8, ((ji5) : Int).toNat * 3 + 2, none⟩ = false := hfr28 2
                          clear hcl28 hcc28 hfr28 hM28
                          replace p28 := eq_true p28
                          replace q28 := eq_true q28
                          obtain ⟨ce32, hcl32, hM32, hcc32, hfr32⟩ := Kd.R_elem HO_3.out z98 ((ji5) : Int) (of_decide_eq_true (by first | (with_reducible assumption) | assumption)) (by have h_ : ((ji5) : Int) < ((x3_1.length : Int) : Int) := of_decide_eq_true (by first | (with_reducible assumption) | assumption); first | exact h_ | (have e_ := (Kd.R_reads' HO_3.out).1; omega) | simpa using h_)
                          obtain rfl := k98_openM hM32
                          have HP32 := (Kd.R_seg HO_3.out ((ji5) : Int) (of_decide_eq_true (by first | (with_reducible assumption) | assumption)) (by have h_ : ((ji5) : Int) < ((x3_1.length : Int) : Int) := of_decide_eq_true (by first | (with_reducible assumption) | assumption); first | exact h_ | (have e_ := (Kd.R_reads' HO_3.out).1; omega) | simpa using h_) (seg := [.string (((rd_T98 x3_1 (ji5)).f0) ++ (a0.extract (x4_1 : Int).toNat ((wrap64 (x4_1 + 1)) : Int).toNat))]) (j := 0) hcl32 hcc32 (show 1 ≤ 3 from by decide) (x' := (⟨((rd_T98 x3_1 (ji5)).f0) ++ (a0.extract (x4_1 : Int).toNat ((wrap64 (x4_1 + 1)) : Int).toNat), (rd_T98 x3_1 (ji5)).f1, (rd_T98 x3_1 (ji5)).f2⟩ : S98)) (k98_mkM _ _ _ (⟨((rd_T98 x3_1 (ji5)).f0) ++ (a0.extract (x4_1 : Int).toNat ((wrap64 (x4_1 + 1)) : Int).toNat), (rd_T98 x3_1 (ji5)).f1, (rd_T98 x3_1 (ji5)).f2⟩ : S98) ) (fun _ hk => hk)).1
                          rw [← Ny207.out] at HP32
                          have HQ32 := Aside0.mk HP32
                          clear hcl32 hcc32 hfr32 hM32 HP32
                          refine start_ (n := 14) (S := fun w' => w'.cell? ⟨go8, ((ji5)).toNat * 3, none⟩ = some (.string ((rd_T98 x3_1 (ji5)).f0)) ∧ w'.cell? ⟨go8, ((ji5)).toNat * 3 + 1, none⟩ = some (.bool ((rd_T98 x3_1 (ji5)).f1)) ∧ w'.cell? ⟨go8, ((ji5)).toNat * 3 + 2, none⟩ = some (.bool ((rd_T98 x3_1 (ji5)).f2))) (ds := [13]) #[false, false, false, false, false, false, false, false, false, false, false, false, false, false] (by kernel_rfl) rfl rfl ⟨hx206_0, hx206_1, hx206_2⟩ (fun hHeld => ?_); refine with_tabW newelref05_parts.tab12 newelref05_parts.bits12 (fun HT_ HW_ => ?_)
                          generalize w30.drew = w31 at HO_3 HB HQ32 hf28_0 hf28_1 hf28_2 hx206_0 hx206_1 hx206_2 hx28_0 hx28_1 hx28_2 hHeld ⊢
                          refine pure_ (i := 0) (N := some 77) (v := ?_) (a' := ?_) #[true, false, false, false, false, false, false, false, false, false, false, false, false, false] rfl rfl (any_of HT_.out (by kernel_rfl)) (fun _ _ _ h => h) (Or.inl ⟨by rfl, ?_⟩) ?_ ?_
                          rotate_left
                          · intro w'
                            go_simp
                            with_reducible rfl
                          rotate_left
                          · simp only [Act.put, List.setIfInBounds_toArray, List.set_cons_zero, List.set_cons_succ, i64_w, i32_w]
                            rfl
                          refine pure_ (i := 1) (N := some 78) (v := ?_) (a' := ?_) #[true, true, false, false, false, false, false, false, false, false, false, false, false, false] rfl rfl (any_of HT_.out (by kernel_rfl)) (fun _ _ _ h => h) (Or.inl ⟨by rfl, ?_⟩) ?_ ?_
                          rotate_left
                          · intro w'
                            go_simp
                            with_reducible rfl
                          rotate_left
                          · simp only [Act.put, List.setIfInBounds_toArray, List.set_cons_zero, List.set_cons_succ, i64_w, i32_w]
                            rfl
                          refine pure_ (i := 2) (N := some 79) (v := ?_) (a' := ?_) #[true, true, true, false, false, false, false, false, false, false, false, false, false, false] rfl rfl (any_of HT_.out (by kernel_rfl)) (fun _ _ _ h => h) (Or.inl ⟨by rfl, ?_⟩) ?_ ?_
                          rotate_left
                          · intro w'
                            go_simp
                            with_reducible rfl
                          rotate_left
                          · simp only [Act.put, List.setIfInBounds_toArray, List.set_cons_zero, List.set_cons_succ, i64_w, i32_w]
                            rfl
                          refine pure_ (i := 3) (N := some 80) (v := ?_) (a' := ?_) #[true, true, true, true, false, false, false, false, false, false, false, false, false, false] rfl rfl (any_of HT_.out (by kernel_rfl)) (fun _ _ _ h => h) (Or.inl ⟨by rfl, ?_⟩) ?_ ?_
                          rotate_left
                          · intro w'
                            go_simp
                            with_reducible rfl
                          rotate_left
                          · simp only [Act.put, List.setIfInBounds_toArray, List.set_cons_zero, List.set_cons_succ, i64_w, i32_w]
                            rfl
                          refine pure_ (i := 5) (N := some 82) (v := ?_) (a' := ?_) #[true, true, true, true, false, true, false, false, false, false, false, false, false, false] rfl rfl (any_of HT_.out (by kernel_rfl)) (fun _ _ _ h => h) (Or.inl ⟨by rfl, ?_⟩) ?_ ?_
                          rotate_left
                          · intro w'
                            go_simp
                            with_reducible rfl
                          rotate_left
                          · simp only [Act.put, List.setIfInBounds_toArray, List.set_cons_zero, List.set_cons_succ, i64_w, i32_w]
                            rfl
                          refine pure_ (i := 6) (N := some 83) (v := ?_) (a' := ?_) #[true, true, true, true, false, true, true, false, false, false, false, false, false, false] rfl rfl (any_of HT_.out (by kernel_rfl)) (fun _ _ _ h => h) (Or.inl ⟨by rfl, ?_⟩) ?_ ?_
                          rotate_left
                          · intro w'
                            go_simp
                            with_reducible rfl
                          rotate_left
                          · simp only [Act.put, List.setIfInBounds_toArray, List.set_cons_zero, List.set_cons_succ, i64_w, i32_w]
                            rfl
                          refine pure_ (i := 7) (N := some 84) (v := ?_) (a' := ?_) #[true, true, true, true, false, true, true, true, false, false, false, false, false, false] rfl rfl (any_of HT_.out (by kernel_rfl)) (fun _ _ _ h => h) (Or.inl ⟨by rfl, ?_⟩) ?_ ?_
                          rotate_left
                          · intro w'
                            go_simp
                            with_reducible rfl
                          rotate_left
                          · simp only [Act.put, List.setIfInBounds_toArray, List.set_cons_zero, List.set_cons_succ, i64_w, i32_w]
                            rfl
                          refine pure_ (i := 8) (N := some 85) (v := ?_) (a' := ?_) #[true, true, true, true, false, true, true, true, true, false, false, false, false, false] rfl rfl (any_of HT_.out (by kernel_rfl)) (fun _ _ _ h => h) (Or.inl ⟨by rfl, ?_⟩) ?_ ?_
                          rotate_left
                          · intro w'
                            go_simp
                            with_reducible rfl
                          rotate_left
                          · simp only [Act.put, List.setIfInBounds_toArray, List.set_cons_zero, List.set_cons_succ, i64_w, i32_w]
                            rfl
                          refine pure_ (i := 9) (N := some 86) (v := ?_) (a' := ?_) #[true, true, true, true, false, true, true, true, true, true, false, false, false, false] rfl rfl (any_of HT_.out (by kernel_rfl)) (fun _ _ _ h => h) (Or.inl ⟨by rfl, ?_⟩) ?_ ?_
                          rotate_left
                          · intro w'
                            go_simp
                            with_reducible rfl
                          rotate_left
                          · simp only [Act.put, List.setIfInBounds_toArray, List.set_cons_zero, List.set_cons_succ, i64_w, i32_w]
                            rfl
                          refine take_ (i := 4) (N := some 81) (v := ?_) (a' := ?_) #[true, true, true, true, true, true, true, true, true, true, false, false, false, false] rfl rfl (take_ofW HT_.out HW_.out (by kernel_rfl)) (fun _ _ _ h => h) (Or.inl ⟨by rfl, ?_⟩) hHeld ?_ ?_
                          rotate_left
                          · rintro w' ⟨s0, s1, s2⟩
                            go_simp
                            with_reducible rfl
                          rotate_left
                          · simp only [Act.put, List.setIfInBounds_toArray, List.set_cons_zero, List.set_cons_succ, i64_w, i32_w]
                            rfl
                          refine pure_ (i := 10) (N := some 87) (v := ?_) (a' := ?_) #[true, true, true, true, true, true, true, true, true, true, true, false, false, false] rfl rfl (any_of HT_.out (by kernel_rfl)) (fun _ _ _ h => h) (Or.inl ⟨by rfl, ?_⟩) ?_ ?_
                          rotate_left
                          · intro w'
                            go_simp
                            with_reducible rfl
                          rotate_left
                          · simp only [Act.put, List.setIfInBounds_toArray, List.set_cons_zero, List.set_cons_succ, i64_w, i32_w]
                            rfl
                          refine pure_ (i := 11) (N := some 88) (v := ?_) (a' := ?_) #[true, true, true, true, true, true, true, true, true, true, true, true, false, false] rfl rfl (any_of HT_.out (by kernel_rfl)) (fun _ _ _ h => h) (Or.inl ⟨by rfl, ?_⟩) ?_ ?_
                          rotate_left
                          · intro w'
                            go_simp
                            with_reducible rfl
                          rotate_left
                          · simp only [Act.put, List.setIfInBounds_toArray, List.set_cons_zero, List.set_cons_succ, i64_w, i32_w]
                            rfl
                          refine pure_ (i := 12) (N := some 89) (v := ?_) (a' := ?_) #[true, true, true, true, true, true, true, true, true, true, true, true, true, false] rfl rfl (any_of HT_.out (by kernel_rfl)) (fun _ _ _ h => h) (Or.inl ⟨by rfl, ?_⟩) ?_ ?_
                          rotate_left
                          · intro w'
                            go_simp
                            with_reducible rfl
                          rotate_left
                          · simp only [Act.put, List.setIfInBounds_toArray, List.set_cons_zero, List.set_cons_succ, i64_w, i32_w]
                            rfl
                          refine last_ (i := 13) (N := none) #[true, true, true, true, true, true, true, true, true, true, true, true, true, true] rfl rfl (one_of HT_.out (by kernel_rfl)) (by decide) (fun K hK => ?_)
                          refine skip_ (w1 := ?_) (by rfl) rfl ?_ ?_
                          rotate_left
                          · go_simp
                            rfl
                          refine hK.out _ _ ?_
                          clear hK K
                          refine done_ (done_of HT_.out (by kernel_rfl)) ?_
                          try go_wp2
                          go_roundg k1
                          case measure => have := HK1.out; omega
                          case rel => exact ⟨(y207), (wrap64 (x4_1 + 1)), (by first | rfl | (simp; done) | (simp [*]; done) | (simp; exact isEmpty_bne _)), H', ⟨by have := HK1.out; omega⟩, ⟨by (with_reducible repeat (first | apply Kd.R_alloc | apply Kd.R_drewN | apply Kd.R_drew)); exact HQ32.out⟩, ⟨by repeat (first | (with_reducible first | exact HB.out | apply below_alloc | apply pw_below_drewN | apply below_drew1 | refine below_set ?_ GB8.out) | exact HB.out)⟩⟩
                        · rw [if_neg c27] at H
                          exact absurd H (by simp)
                      · rw [if_neg c26] at H
                        exact absurd H (by simp)
                    · rw [if_neg c25] at H
                      exact absurd H (by simp)
                  · rw [if_neg c22] at H
                    have c22b0 : (((rd_T98 x3_1 (ji5)).f0).toList == ([] : List UInt8)) = false := beq_eq_false_iff_ne.mpr c22
                    have c22b1 : (((rd_T98 x3_1 (ji5)).f0).toList != ([] : List UInt8)) = true := bne_iff_ne.mpr c22
                    (try (have c22b2 : (((rd_T98 x3_1 (ji5)).f0).toList).isEmpty = false := by simpa using c22))
                    obtain ⟨ji33, hji33⟩ : ∃ j_ : Int, (wrap64 ((((rd_T98 x3_1 (ji5)).f0).size : Int) - 1)) = j_ := ⟨_, rfl⟩
                    replace H : (if 0 ≤ (ji33) then (if (ji33) < (((rd_T98 x3_1 (ji5)).f0).size : Int) then ((newelref01_Digit.f (bt ((rd_T98 x3_1 (ji5)).f0) (ji33))).bind fun t210 => ((newelref01_Digit.f (bt a0 x4_1)).bind fun t211 => (if (t210 != t211) = true then ((newelref01_Digit.f (bt a0 x4_1)).bind fun t212 => ((some (x3_1.set ((ji5) : Int).toNat (⟨(rd_T98 x3_1 (ji5)).f0, (rd_T98 x3_1 (ji5)).f1, t212⟩ : S98) : List (S98))).bind fun y213 => (if y213.length < 5864062014805 then ((some (y213 ++ [(⟨(⟨#[]⟩ : ByteArray), true, false⟩ : S98)] : List (S98))).bind fun y214 => (if 0 ≤ (wrap64 ((y214.length : Int) - 1)) then (if (wrap64 ((y214.length : Int) - 1)) < (y214.length : Int) then (if x4_1 ≤ (wrap64 (x4_1 + 1)) then (if (wrap64 (x4_1 + 1)) ≤ (a0.size : Int) then (if ((rd_T98 y214 (wrap64 ((y214.length : Int) - 1))).f0).size + (a0.extract (x4_1 : Int).toNat ((wrap64 (x4_1 + 1)) : Int).toNat).size ≤ 9223372036854775807 then (newelref05_parts.l0 k1 a0 (y214.set ((wrap64 ((y214.length : Int) - 1)) : Int).toNat (⟨((rd_T98 y214 (wrap64 ((y214.length : Int) - 1))).f0) ++ (a0.extract (x4_1 : Int).toNat ((wrap64 (x4_1 + 1)) : Int).toNat), (rd_T98 y214 (wrap64 ((y214.length : Int) - 1))).f1, (rd_T98 y214 (wrap64 ((y214.length : Int) - 1))).f2⟩ : S98)) (wrap64 (x4_1 + 1))) else (none)) else (none)) else (none)) else (none)) else (none))) else (none)))) else (if x4_1 ≤ (wrap64 (x4_1 + 1)) then (if (wrap64 (x4_1 + 1)) ≤ (a0.size : Int) then (if ((rd_T98 x3_1 (ji5)).f0).size + (a0.extract (x4_1 : Int).toNat ((wrap64 (x4_1 + 1)) : Int).toNat).size ≤ 9223372036854775807 then (newelref05_parts.l0 k1 a0 (x3_1.set ((ji5) : Int).toNat (⟨((rd_T98 x3_1 (ji5)).f0) ++ (a0.extract (x4_1 : Int).toNat ((wrap64 (x4_1 + 1)) : Int).toNat), (rd_T98 x3_1 (ji5)).f1, (rd_T98 x3_1 (ji5)).f2⟩ : S98)) (wrap64 (x4_1 + 1))) else (none)) else (none)) else (none))))) else (none)) else (none)) = some r := by first | (rw [hji33] at H; exact H) | (simp only [hji33] at H ⊢; exact H)
                    have hji33w : (IntKind.i64.wrap ((((rd_T98 x3_1 (ji5)).f0).size : Int) - 1)) = ji33 := (i64_w _).trans hji33
                    by_cases c34 : 0 ≤ (ji33)
                    · rw [if_pos c34] at H
                      have c34b0 : decide (0 ≤ (ji33)) = true := decide_eq_true c34
                      clear c34
                      by_cases c35 : (ji33) < (((rd_T98 x3_1 (ji5)).f0).size : Int)
                      · rw [if_pos c35] at H
                        have c35b0 : decide ((ji33) < (((rd_T98 x3_1 (ji5)).f0).size : Int)) = true := decide_eq_true c35
                        clear c35
                        replace H := Option.bind_eq_some_iff.mp H
                        obtain ⟨t210, A370, H⟩ := H
                        replace H : ((newelref01_Digit.f (bt a0 x4_1)).bind fun t211 => (if (t210 != t211) = true then ((newelref01_Digit.f (bt a0 x4_1)).bind fun t212 => ((some (x3_1.set ((ji5) : Int).toNat (⟨(rd_T98 x3_1 (ji5)).f0, (rd_T98 x3_1 (ji5)).f1, t212⟩ : S98) : List (S98))).bind fun y213 => (if y213.length < 5864062014805 then ((some (y213 ++ [(⟨(⟨#[]⟩ : ByteArray), true, false⟩ : S98)] : List (S98))).bind fun y214 => (if 0 ≤ (wrap64 ((y214.length : Int) - 1)) then (if (wrap64 ((y214.length : Int) - 1)) < (y214.length : Int) then (if x4_1 ≤ (wrap64 (x4_1 + 1)) then (if (wrap64 (x4_1 + 1)) ≤ (a0.size : Int) then (if ((rd_T98 y214 (wrap64 ((y214.length : Int) - 1))).f0).size + (a0.extract (x4_1 : Int).toNat ((wrap64 (x4_1 + 1)) : Int).toNat).size ≤ 9223372036854775807 then (newelref05_parts.l0 k1 a0 (y214.set ((wrap64 ((y214.length : Int) - 1)) : Int).toNat (⟨((rd_T98 y214 (wrap64 ((y214.length : Int) - 1))).f0) ++ (a0.extract (x4_1 : Int).toNat ((wrap64 (x4_1 + 1)) : Int).toNat), (rd_T98 y214 (wrap64 ((y214.length : Int) - 1))).f1, (rd_T98 y214 (wrap64 ((y214.length : Int) - 1))).f2⟩ : S98)) (wrap64 (x4_1 + 1))) else (none)) else (none)) else (none)) else (none)) else (none))) else (none)))) else (if x4_1 ≤ (wrap64 (x4_1 + 1)) then (if (wrap64 (x4_1 + 1)) ≤ (a0.size : Int) then (if ((rd_T98 x3_1 (ji5)).f0).size + (a0.extract (x4_1 : Int).toNat ((wrap64 (x4_1 + 1)) : Int).toNat).size ≤ 9223372036854775807 then (newelref05_parts.l0 k1 a0 (x3_1.set ((ji5) : Int).toNat (⟨((rd_T98 x3_1 (ji5)).f0) ++ (a0.extract (x4_1 : Int).toNat ((wrap64 (x4_1 + 1)) : Int).toNat), (rd_T98 x3_1 (ji5)).f1, (rd_T98 x3_1 (ji5)).f2⟩ : S98)) (wrap64 (x4_1 + 1))) else (none)) else (none)) else (none)))) = some r := H
                        have A37 := Aside0.mk A370
                        clear A370
                        replace H := Option.bind_eq_some_iff.mp H
                        obtain ⟨t211, A390, H⟩ := H
                        replace H : (if (t210 != t211) = true then ((newelref01_Digit.f (bt a0 x4_1)).bind fun t212 => ((some (x3_1.set ((ji5) : Int).toNat (⟨(rd_T98 x3_1 (ji5)).f0, (rd_T98 x3_1 (ji5)).f1, t212⟩ : S98) : List (S98))).bind fun y213 => (if y213.length < 5864062014805 then ((some (y213 ++ [(⟨(⟨#[]⟩ : ByteArray), true, false⟩ : S98)] : List (S98))).bind fun y214 => (if 0 ≤ (wrap64 ((y214.length : Int) - 1)) then (if (wrap64 ((y214.length : Int) - 1)) < (y214.length : Int) then (if x4_1 ≤ (wrap64 (x4_1 + 1)) then (if (wrap64 (x4_1 + 1)) ≤ (a0.size : Int) then (if ((rd_T98 y214 (wrap64 ((y214.length : Int) - 1))).f0).size + (a0.extract (x4_1 : Int).toNat ((wrap64 (x4_1 + 1)) : Int).toNat).size ≤ 9223372036854775807 then (newelref05_parts.l0 k1 a0 (y214.set ((wrap64 ((y214.length : Int) - 1)) : Int).toNat (⟨((rd_T98 y214 (wrap64 ((y214.length : Int) - 1))).f0) ++ (a0.extract (x4_1 : Int).toNat ((wrap64 (x4_1 + 1)) : Int).toNat), (rd_T98 y214 (wrap64 ((y214.length : Int) - 1))).f1, (rd_T98 y214 (wrap64 ((y214.length : Int) - 1))).f2⟩ : S98)) (wrap64 (x4_1 + 1))) else (none)) else (none)) else (none)) else (none)) else (none))) else (none)))) else (if x4_1 ≤ (wrap64 (x4_1 + 1)) then (if (wrap64 (x4_1 + 1)) ≤ (a0.size : Int) then (if ((rd_T98 x3_1 (ji5)).f0).size + (a0.extract (x4_1 : Int).toNat ((wrap64 (x4_1 + 1)) : Int).toNat).size ≤ 9223372036854775807 then (newelref05_parts.l0 k1 a0 (x3_1.set ((ji5) : Int).toNat (⟨((rd_T98 x3_1 (ji5)).f0) ++ (a0.extract (x4_1 : Int).toNat ((wrap64 (x4_1 + 1)) : Int).toNat), (rd_T98 x3_1 (ji5)).f1, (rd_T98 x3_1 (ji5)).f2⟩ : S98)) (wrap64 (x4_1 + 1))) else (none)) else (none)) else (none))) = some r := H
                        have A39 := Aside0.mk A390
                        clear A390
                        by_cases c40 : (t210 != t211) = true
                        · rw [if_pos c40] at H
                          have c40b0 : (t210 != t211) = true := c40
                          (try (have c40b1 : decide (t210 = t211) = false := by simpa using c40))
                          (try (have c40b2 : (t210 == t211) = false := by simpa using c40))
                          (try (have c40b3 : ¬ (t210 = t211) := by simpa using c40))
                          clear c40
                          replace H := Option.bind_eq_some_iff.mp H
                          obtain ⟨t212, A420, H⟩ := H
                          replace H : ((some (x3_1.set ((ji5) : Int).toNat (⟨(rd_T98 x3_1 (ji5)).f0, (rd_T98 x3_1 (ji5)).f1, t212⟩ : S98) : List (S98))).bind fun y213 => (if y213.length < 5864062014805 then ((some (y213 ++ [(⟨(⟨#[]⟩ : ByteArray), true, false⟩ : S98)] : List (S98))).bind fun y214 => (if 0 ≤ (wrap64 ((y214.length : Int) - 1)) then (if (wrap64 ((y214.length : Int) - 1)) < (y214.length : Int) then (if x4_1 ≤ (wrap64 (x4_1 + 1)) then (if (wrap64 (x4_1 + 1)) ≤ (a0.size : Int) then (if ((rd_T98 y214 (wrap64 ((y214.length : Int) - 1))).f0).size + (a0.extract (x4_1 : Int).toNat ((wrap64 (x4_1 + 1)) : Int).toNat).size ≤ 9223372036854775807 then (newelref05_parts.l0 k1 a0 (y214.set ((wrap64 ((y214.length : Int) - 1)) : Int).toNat (⟨((rd_T98 y214 (wrap64 ((y214.length : Int) - 1))).f0) ++ (a0.extract (x4_1 : Int).toNat ((wrap64 (x4_1 + 1)) : Int).toNat), (rd_T98 y214 (wrap64 ((y214.length : Int) - 1))).f1, (rd_T98 y214 (wrap64 ((y214.length : Int) - 1))).f2⟩ : S98)) (wrap64 (x4_1 + 1))) else (none)) else (none)) else (none)) else (none)) else (none))) else (none))) = some r := H
                          have A42 := Aside0.mk A420
                          clear A420
                          obtain ⟨y213, hy213⟩ : ∃ y_ : List (S98), y_ = (x3_1.set ((ji5) : Int).toNat (⟨(rd_T98 x3_1 (ji5)).f0, (rd_T98 x3_1 (ji5)).f1, t212⟩ : S98)) := ⟨_, rfl⟩
                          replace H : (if y213.length < 5864062014805 then ((some (y213 ++ [(⟨(⟨#[]⟩ : ByteArray), true, false⟩ : S98)] : List (S98))).bind fun y214 => (if 0 ≤ (wrap64 ((y214.length : Int) - 1)) then (if (wrap64 ((y214.length : Int) - 1)) < (y214.length : Int) then (if x4_1 ≤ (wrap64 (x4_1 + 1)) then (if (wrap64 (x4_1 + 1)) ≤ (a0.size : Int) then (if ((rd_T98 y214 (wrap64 ((y214.length : Int) - 1))).f0).size + (a0.extract (x4_1 : Int).toNat ((wrap64 (x4_1 + 1)) : Int).toNat).size ≤ 9223372036854775807 then (newelref05_parts.l0 k1 a0 (y214.set ((wrap64 ((y214.length : Int) - 1)) : Int).toNat (⟨((rd_T98 y214 (wrap64 ((y214.length : Int) - 1))).f0) ++ (a0.extract (x4_1 : Int).toNat ((wrap64 (x4_1 + 1)) : Int).toNat), (rd_T98 y214 (wrap64 ((y214.length : Int) - 1))).f1, (rd_T98 y214 (wrap64 ((y214.length : Int) - 1))).f2⟩ : S98)) (wrap64 (x4_1 + 1))) else (none)) else (none)) else (none)) else (none)) else (none))) else (none)) = some r := by first | (rw [hy213]; with_reducible exact H) | (have H2_ := (Option.bind_some _ _).symm.trans H; rw [hy213]; with_reducible exact H2_) | (have H2_ := (Option.bind_some _ _).symm.trans H; with_reducible exact H2_) | with_reducible exact H | (rw [hy213]; exact H) | exact H
                          have Ny213 := Aside0.mk hy213
                          clear hy213
                          by_cases c44 : y213.length < 5864062014805
                          · rw [if_pos c44] at H
                            have LMc44 := Aside0.mk c44
                            clear c44
                            obtain ⟨y214, hy214⟩ : ∃ y_ : List (S98), y_ = (y213 ++ [(⟨(⟨#[]⟩ : ByteArray), true, false⟩ : S98)]) := ⟨_, rfl⟩
                            replace H : (if 0 ≤ (wrap64 ((y214.length : Int) - 1)) then (if (wrap64 ((y214.length : Int) - 1)) < (y214.length : Int) then (if x4_1 ≤ (wrap64 (x4_1 + 1)) then (if (wrap64 (x4_1 + 1)) ≤ (a0.size : Int) then (if ((rd_T98 y214 (wrap64 ((y214.length : Int) - 1))).f0).size + (a0.extract (x4_1 : Int).toNat ((wrap64 (x4_1 + 1)) : Int).toNat).size ≤ 9223372036854775807 then (newelref05_parts.l0 k1 a0 (y214.set ((wrap64 ((y214.length : Int) - 1)) : Int).toNat (⟨((rd_T98 y214 (wrap64 ((y214.length : Int) - 1))).f0) ++ (a0.extract (x4_1 : Int).toNat ((wrap64 (x4_1 + 1)) : Int).toNat), (rd_T98 y214 (wrap64 ((y214.length : Int) - 1))).f1, (rd_T98 y214 (wrap64 ((y214.length : Int) - 1))).f2⟩ : S98)) (wrap64 (x4_1 + 1))) else (none)) else (none)) else (none)) else (none)) else (none)) = some r := by first | (rw [hy214]; with_reducible exact H) | (have H2_ := (Option.bind_some _ _).symm.trans H; rw [hy214]; with_reducible exact H2_) | (have H2_ := (Option.bind_some _ _).symm.trans H; with_reducible exact H2_) | with_reducible exact H | (rw [hy214]; exact H) | exact H
                            have Ny214 := Aside0.mk hy214
                            clear hy214
                            obtain ⟨ji45, hji45⟩ : ∃ j_ : Int, (wrap64 ((y214.length : Int) - 1)) = j_ := ⟨_, rfl⟩
                            replace H : (if 0 ≤ (ji45) then (if (ji45) < (y214.length : Int) then (if x4_1 ≤ (wrap64 (x4_1 + 1)) then (if (wrap64 (x4_1 + 1)) ≤ (a0.size : Int) then (if ((rd_T98 y214 (ji45)).f0).size + (a0.extract (x4_1 : Int).toNat ((wrap64 (x4_1 + 1)) : Int).toNat).size ≤ 9223372036854775807 then (newelref05_parts.l0 k1 a0 (y214.set ((ji45) : Int).toNat (⟨((rd_T98 y214 (ji45)).f0) ++ (a0.extract (x4_1 : Int).toNat ((wrap64 (x4_1 + 1)) : Int).toNat), (rd_T98 y214 (ji45)).f1, (rd_T98 y214 (ji45)).f2⟩ : S98)) (wrap64 (x4_1 + 1))) else (none)) else (none)) else (none)) else (none)) else (none)) = some r := by first | (rw [hji45] at H; exact H) | (simp only [hji45] at H ⊢; exact H)
                            (try rw [hji45] at A37)
                            (try rw [hji45] at A39)
                            (try rw [hji45] at A42)
                            have hji45w : (IntKind.i64.wrap ((y214.length : Int) - 1)) = ji45 := (i64_w _).trans hji45
                            by_cases c46 : 0 ≤ (ji45)
                            · rw [if_pos c46] at H
                              have c46b0 : decide (0 ≤ (ji45)) = true := decide_eq_true c46
                              clear c46
                              by_cases c47 : (ji45) < (y214.length : Int)
                              · rw [if_pos c47] at H
                                have c47b0 : decide ((ji45) < (y214.length : Int)) = true := decide_eq_true c47
                                clear c47
                                have c49b0 := eq_true (of_decide_eq_true (by first | (with_reducible assumption) | assumption) : 0 ≤ x4_1)
                                by_cases c50 : x4_1 ≤ (wrap64 (x4_1 + 1))
                                · rw [if_pos c50] at H
                                  have c50b0 := eq_true c50
                                  have c50b1 : decide (x4_1 ≤ (wrap64 (x4_1 + 1))) = true := decide_eq_true c50
                                  by_cases c51 : (wrap64 (x4_1 + 1)) ≤ (a0.size : Int)
                                  · rw [if_pos c51] at H
                                    have c51b0 := eq_true c51
                                    have c51b1 : decide ((wrap64 (x4_1 + 1)) ≤ (a0.size : Int)) = true := decide_eq_true c51
                                    by_cases c52 : ((rd_T98 y214 (ji45)).f0).size + (a0.extract (x4_1 : Int).toNat ((wrap64 (x4_1 + 1)) : Int).toNat).size ≤ 9223372036854775807
                                    · rw [if_pos c52] at H
                                      have c52b0 := eq_true c52
                                      have c52b1 : decide (((rd_T98 y214 (ji45)).f0).size + (a0.extract (x4_1 : Int).toNat ((wrap64 (x4_1 + 1)) : Int).toNat).size ≤ 9223372036854775807) = true := decide_eq_true c52
                                      try have c52b2 : (9223372036854775807 < ((rd_T98 y214 (ji45)).f0).size + (a0.extract (x4_1 : Int).toNat ((wrap64 (x4_1 + 1)) : Int).toNat).size) = False := eq_false (Nat.not_lt.2 c52)
                                      try have c52q : (9223372036854775807 < ((rd_T98 y214 (ji45)).f0).size + (((wrap64 (x4_1 + 1)) : Int).toNat - (x4_1 : Int).toNat)) = False := eq_false (by have z_ := c52; have y_ : ((wrap64 (x4_1 + 1)) : Int) ≤ ((a0).size : Int) := of_decide_eq_true (by assumption); simp only [ByteArray.size_extract] at z_; omega)
                                      obtain ⟨y218, hy218⟩ : ∃ y_ : List (S98), y_ = (y214.set ((ji45) : Int).toNat (⟨((rd_T98 y214 (ji45)).f0) ++ (a0.extract (x4_1 : Int).toNat ((wrap64 (x4_1 + 1)) : Int).toNat), (rd_T98 y214 (ji45)).f1, (rd_T98 y214 (ji45)).f2⟩ : S98)) := ⟨_, rfl⟩
                                      replace H : (newelref05_parts.l0 k1 a0 y218 (wrap64 (x4_1 + 1))) = some r := by first | (rw [hy218]; with_reducible exact H) | (have H2_ := (Option.bind_some _ _).symm.trans H; rw [hy218]; with_reducible exact H2_) | (have H2_ := (Option.bind_some _ _).symm.trans H; with_reducible exact H2_) | with_reducible exact H | (rw [hy218]; exact H) | exact H
                                      have Ny218 := Aside0.mk hy218
                                      clear hy218
                                      have H' := Aside0.mk H
                                      clear H
                                      obtain ⟨Ao54, co54, eo54⟩ := Kd.R_slice HO_3.out
                                      subst eo54
                                      have p8 : 0 ≤ ((ji5) : Int) := of_decide_eq_true (by first | (with_reducible assumption) | assumption)
                                      have q8 : ((ji5) : Int) < ((x3_1.length : Int) : Int) := of_decide_eq_true (by first | (with_reducible assumption) | assumption)
                                      obtain ⟨go8, co8, eo8, gb8, gl8, cl8, HG8⟩ := Kd.R_form HO_3.out (by omega)
                                      (first | cases eo8 | (injection eo8 with ea_ en_ ec_; (first | subst ea_ | (injection ea_ with ea_; subst ea_)); subst ec_; clear en_))
                                      have GB8 := Aside0.mk gb8
                                      have GG8 := Aside0.mk HG8
                                      clear gb8 gl8 HG8
                                      obtain ⟨ce8, hcl8, hM8, hcc8, hfr8⟩ := Kd.R_elem HO_3.out z98 ((ji5) : Int) p8 q8
                                      obtain rfl := k98_openM hM8
                                      have hx8_0 : wr.cell? ⟨go8, ((ji5) : Int).toNat * 3, none⟩ = some (.string ((rd_T98 x3_1 (ji5)).f0)) := hcc8 0 _ rfl
                                      have hx8_1 : wr.cell? ⟨go8, ((ji5) : Int).toNat * 3 + 1, none⟩ = some (.bool ((rd_T98 x3_1 (ji5)).f1)) := hcc8 1 _ rfl
                                      have hx8_2 : wr.cell? ⟨go8, ((ji5) : Int).toNat * 3 + 2, none⟩ = some (.bool ((rd_T98 x3_1 (ji5)).f2)) := hcc8 2 _ rfl
                                      have hf8_0 : wr.frozen? ⟨go8, ((ji5) : Int).toNat * 3, none⟩ = false := hfr8 0
                                      have hf8_1 : wr.frozen? ⟨go8, ((ji5) : Int).toNat * 3 + 1, none⟩ = false := hfr8 1
                                      have hf8_2 : wr.frozen? ⟨go8, ((ji5) : Int).toNat * 3 + 2, none⟩ = false := hfr8 2
                                      clear hcl8 hcc8 hfr8 hM8
                                      replace p8 := eq_true p8
                                      replace q8 := eq_true q8
                                      have p10 : 0 ≤ (x4_1 : Int) := of_decide_eq_true (by first | (with_reducible assumption) | assumption)
                                      have q10 : x4_1 < (a0.size : Int) := of_decide_eq_true (by first | (with_reducible assumption) | assumption)
                                      have hx10 := bt_at a0 x4_1
                                      replace p10 := eq_true p10
                                      replace q10 := eq_true q10
                                      have p16 : 0 ≤ (x4_1 : Int) := of_decide_eq_true (by first | (with_reducible assumption) | assumption)
                                      have q16 : x4_1 < (a0.size : Int) := of_decide_eq_true (by first | (with_reducible assumption) | assumption)
                                      have hx16 := bt_at a0 x4_1
                                      replace p16 := eq_true p16
                                      replace q16 := eq_true q16
                                      try go_wp2
                                      have n0_ := Aside0.mk (Kd.R_drew HO_3.out)
                                      have n1_ := Aside0.mk (below_drew1 HB.out)
                                      clear HO_3
                                      clear HB
                                      have HO_3 := n0_
                                      have HB := n1_
                                      clear n0_ n1_
                                      have p205 : 0 ≤ ((ji5) : Int) := of_decide_eq_true (by first | (with_reducible assumption) | assumption)
                                      have q205 : (ji5) < (x3_1.length : Int) := of_decide_eq_true (by first | (with_reducible assumption) | assumption)
                                      obtain ⟨ad205, e205, hx205_0, hx205_1, hx205_2⟩ := at_T98 (Kd.R_reads' HO_3.out).2.2 (ji5) p205 q205
                                      obtain rfl : (⟨go8, 0, none⟩ : Addr) = ad205 := (by injection e205)
                                      (first | simp only [add_plain] at hx205_0 | simp only [add_at] at hx205_0 | simp only [Addr.add, Nat.zero_add] at hx205_0 | skip)
                                      (first | simp only [add_plain] at hx205_1 | simp only [add_at] at hx205_1 | simp only [Addr.add, Nat.zero_add] at hx205_1 | skip)
                                      (first | simp only [add_plain] at hx205_2 | simp only [add_at] at hx205_2 | simp only [Addr.add, Nat.zero_add] at hx205_2 | skip)
                                      replace p205 := eq_true p205
                                      replace q205 := eq_true q205
                                      have p208 : 0 ≤ ((ji5) : Int) := of_decide_eq_true (by first | (with_reducible assumption) | assumption)
                                      have q208 : (ji5) < (x3_1.length : Int) := of_decide_eq_true (by first | (with_reducible assumption) | assumption)
                                      obtain ⟨ad208, e208, hx208_0, hx208_1, hx208_2⟩ := at_T98 (Kd.R_reads' HO_3.out).2.2 (ji5) p208 q208
                                      obtain rfl : (⟨go8, 0, none⟩ : Addr) = ad208 := (by injection e208)
                                      (first | simp only [add_plain] at hx208_0 | simp only [add_at] at hx208_0 | simp only [Addr.add, Nat.zero_add] at hx208_0 | skip)
                                      (first | simp only [add_plain] at hx208_1 | simp only [add_at] at hx208_1 | simp only [Addr.add, Nat.zero_add] at hx208_1 | skip)
                                      (first | simp only [add_plain] at hx208_2 | simp only [add_at] at hx208_2 | simp only [Addr.add, Nat.zero_add] at hx208_2 | skip)
                                      replace p208 := eq_true p208
                                      replace q208 := eq_true q208
                                      have p209 : 0 ≤ ((ji5) : Int) := of_decide_eq_true (by first | (with_reducible assumption) | assumption)
                                      have q209 : (ji5) < (x3_1.length : Int) := of_decide_eq_true (by first | (with_reducible assumption) | assumption)
                                      obtain ⟨ad209, e209, hx209_0, hx209_1, hx209_2⟩ := at_T98 (Kd.R_reads' HO_3.out).2.2 (ji5) p209 q209
                                      obtain rfl : (⟨go8, 0, none⟩ : Addr) = ad209 := (by injection e209)
                                      (first | simp only [add_plain] at hx209_0 | simp only [add_at] at hx209_0 | simp only [Addr.add, Nat.zero_add] at hx209_0 | skip)
                                      (first | simp only [add_plain] at hx209_1 | simp only [add_at] at hx209_1 | simp only [Addr.add, Nat.zero_add] at hx209_1 | skip)
                                      (first | simp only [add_plain] at hx209_2 | simp only [add_at] at hx209_2 | simp only [Addr.add, Nat.zero_add] at hx209_2 | skip)
                                      replace p209 := eq_true p209
                                      replace q209 := eq_true q209
                                      have p36 : 0 ≤ ((ji33) : Int) := of_decide_eq_true (by first | (with_reducible assumption) | assumption)
                                      have q36 : (ji33) < (((rd_T98 x3_1 (ji5)).f0).size : Int) := of_decide_eq_true (by first | (with_reducible assumption) | assumption)
                                      have hx36 := bt_at ((rd_T98 x3_1 (ji5)).f0) (ji33)
                                      replace p36 := eq_true p36
                                      replace q36 := eq_true q36
                                      have p38 : 0 ≤ (x4_1 : Int) := of_decide_eq_true (by first | (with_reducible assumption) | assumption)
                                      have q38 : x4_1 < (a0.size : Int) := of_decide_eq_true (by first | (with_reducible assumption) | assumption)
                                      have hx38 := bt_at a0 x4_1
                                      replace p38 := eq_true p38
                                      replace q38 := eq_true q38
                                      refine start_ (n := 24) (S := fun w' => w'.cell? ⟨go8, ((ji5)).toNat * 3, none⟩ = some (.string ((rd_T98 x3_1 (ji5)).f0)) ∧ w'.cell? ⟨go8, ((ji5)).toNat * 3 + 1, none⟩ = some (.bool ((rd_T98 x3_1 (ji5)).f1)) ∧ w'.cell? ⟨go8, ((ji5)).toNat * 3 + 2, none⟩ = some (.bool ((rd_T98 x3_1 (ji5)).f2)) ∧ w'.cell? ⟨go8, ((ji5)).toNat * 3, none⟩ = some (.string ((rd_T98 x3_1 (ji5)).f0)) ∧ w'.cell? ⟨go8, ((ji5)).toNat * 3 + 1, none⟩ = some (.bool ((rd_T98 x3_1 (ji5)).f1)) ∧ w'.cell? ⟨go8, ((ji5)).toNat * 3 + 2, none⟩ = some (.bool ((rd_T98 x3_1 (ji5)).f2)) ∧ w'.cell? ⟨go8, ((ji5)).toNat * 3, none⟩ = some (.string ((rd_T98 x3_1 (ji5)).f0)) ∧ w'.cell? ⟨go8, ((ji5)).toNat * 3 + 1, none⟩ = some (.bool ((rd_T98 x3_1 (ji5)).f1)) ∧ w'.cell? ⟨go8, ((ji5)).toNat * 3 + 2, none⟩ = some (.bool ((rd_T98 x3_1 (ji5)).f2))) (ds := []) #[false, false, false, false, false, false, false, false, false, false, false, false, false, false, false, false, false, false, false, false, false, false, false, false] (by kernel_rfl) rfl rfl ⟨hx205_0, hx205_1, hx205_2, hx208_0, hx208_1, hx208_2, hx209_0, hx209_1, hx209_2⟩ (fun hHeld => ?_); refine with_tabW newelref05_parts.tab8 newelref05_parts.bits8 (fun HT_ HW_ => ?_)
                                      generalize wr.drew = w55 at HO_3 HB hx205_0 hx205_1 hx205_2 hx208_0 hx208_1 hx208_2 hx209_0 hx209_1 hx209_2 hHeld ⊢
                                      refine pure_ (i := 0) (N := some 37) (v := ?_) (a' := ?_) #[true, false, false, false, false, false, false, false, false, false, false, false, false, false, false, false, false, false, false, false, false, false, false, false] rfl rfl (any_of HT_.out (by kernel_rfl)) (fun _ _ _ h => h) (Or.inl ⟨by rfl, ?_⟩) ?_ ?_
                                      rotate_left
                                      · intro w'
                                        go_simp
                                        with_reducible rfl
                                      rotate_left
                                      · simp only [Act.put, List.setIfInBounds_toArray, List.set_cons_zero, List.set_cons_succ, i64_w, i32_w]
                                        rfl
                                      refine pure_ (i := 1) (N := some 38) (v := ?_) (a' := ?_) #[true, true, false, false, false, false, false, false, false, false, false, false, false, false, false, false, false, false, false, false, false, false, false, false] rfl rfl (any_of HT_.out (by kernel_rfl)) (fun _ _ _ h => h) (Or.inl ⟨by rfl, ?_⟩) ?_ ?_
                                      rotate_left
                                      · intro w'
                                        go_simp
                                        with_reducible rfl
                                      rotate_left
                                      · simp only [Act.put, List.setIfInBounds_toArray, List.set_cons_zero, List.set_cons_succ, i64_w, i32_w]
                                        rfl
                                      refine pure_ (i := 2) (N := some 39) (v := ?_) (a' := ?_) #[true, true, true, false, false, false, false, false, false, false, false, false, false, false, false, false, false, false, false, false, false, false, false, false] rfl rfl (any_of HT_.out (by kernel_rfl)) (fun _ _ _ h => h) (Or.inl ⟨by rfl, ?_⟩) ?_ ?_
                                      rotate_left
                                      · intro w'
                                        go_simp
                                        with_reducible rfl
                                      rotate_left
                                      · simp only [Act.put, List.setIfInBounds_toArray, List.set_cons_zero, List.set_cons_succ, i64_w, i32_w]
                                        rfl
                                      refine take_ (i := 3) (N := some 40) (v := ?_) (a' := ?_) #[true, true, true, true, false, false, false, false, false, false, false, false, false, false, false, false, false, false, false, false, false, false, false, false] rfl rfl (take_ofW HT_.out HW_.out (by kernel_rfl)) (fun _ _ _ h => h) (Or.inl ⟨by rfl, ?_⟩) hHeld ?_ ?_
                                      rotate_left
                                      · rintro w' ⟨s0, s1, s2, s3, s4, s5, s6, s7, s8⟩
                                        go_simp
                                        with_reducible rfl
                                      rotate_left
                                      · simp only [Act.put, List.setIfInBounds_toArray, List.set_cons_zero, List.set_cons_succ, i64_w, i32_w]
                                        rfl
                                      refine pure_ (i := 4) (N := some 41) (v := ?_) (a' := ?_) #[true, true, true, true, true, false, false, false, false, false, false, false, false, false, false, false, false, false, false, false, false, false, false, false] rfl rfl (any_of HT_.out (by kernel_rfl)) (fun _ _ _ h => h) (Or.inl ⟨by rfl, ?_⟩) ?_ ?_
                                      rotate_left
                                      · intro w'
                                        go_simp
                                        with_reducible rfl
                                      rotate_left
                                      · simp only [Act.put, List.setIfInBounds_toArray, List.set_cons_zero, List.set_cons_succ, i64_w, i32_w]
                                        rfl
                                      refine pure_ (i := 5) (N := some 42) (v := ?_) (a' := ?_) #[true, true, true, true, true, true, false, false, false, false, false, false, false, false, false, false, false, false, false, false, false, false, false, false] rfl rfl (any_of HT_.out (by kernel_rfl)) (fun _ _ _ h => h) (Or.inl ⟨by rfl, ?_⟩) ?_ ?_
                                      rotate_left
                                      · intro w'
                                        go_simp
                                        with_reducible rfl
                                      rotate_left
                                      · simp only [Act.put, List.setIfInBounds_toArray, List.set_cons_zero, List.set_cons_succ, i64_w, i32_w]
                                        rfl
                                      refine pure_ (i := 6) (N := some 43) (v := ?_) (a' := ?_) #[true, true, true, true, true, true, true, false, false, false, false, false, false, false, false, false, false, false, false, false, false, false, false, false] rfl rfl (any_of HT_.out (by kernel_rfl)) (fun _ _ _ h => h) (Or.inl ⟨by rfl, ?_⟩) ?_ ?_
                                      rotate_left
                                      · intro w'
                                        go_simp
                                        with_reducible rfl
                                      rotate_left
                                      · simp only [Act.put, List.setIfInBounds_toArray, List.set_cons_zero, List.set_cons_succ, i64_w, i32_w]
                                        rfl
                                      refine pure_ (i := 7) (N := some 44) (v := ?_) (a' := ?_) #[true, true, true, true, true, true, true, true, false, false, false, false, false, false, false, false, false, false, false, false, false, false, false, false] rfl rfl (any_of HT_.out (by kernel_rfl)) (fun _ _ _ h => h) (Or.inl ⟨by rfl, ?_⟩) ?_ ?_
                                      rotate_left
                                      · intro w'
                                        go_simp
                                        with_reducible rfl
                                      rotate_left
                                      · simp only [Act.put, List.setIfInBounds_toArray, List.set_cons_zero, List.set_cons_succ, i64_w, i32_w]
                                        rfl
                                      refine pure_ (i := 8) (N := some 45) (v := ?_) (a' := ?_) #[true, true, true, true, true, true, true, true, true, false, false, false, false, false, false, false, false, false, false, false, false, false, false, false] rfl rfl (any_of HT_.out (by kernel_rfl)) (fun _ _ _ h => h) (Or.inl ⟨by rfl, ?_⟩) ?_ ?_
                                      rotate_left
                                      · intro w'
                                        go_simp
                                        with_reducible rfl
                                      rotate_left
                                      · simp only [Act.put, List.setIfInBounds_toArray, List.set_cons_zero, List.set_cons_succ, i64_w, i32_w]
                                        rfl
                                      refine pure_ (i := 10) (N := some 47) (v := ?_) (a' := ?_) #[true, true, true, true, true, true, true, true, true, false, true, false, false, false, false, false, false, false, false, false, false, false, false, false] rfl rfl (any_of HT_.out (by kernel_rfl)) (fun _ _ _ h => h) (Or.inl ⟨by rfl, ?_⟩) ?_ ?_
                                      rotate_left
                                      · intro w'
                                        go_simp
                                        with_reducible rfl
                                      rotate_left
                                      · simp only [Act.put, List.setIfInBounds_toArray, List.set_cons_zero, List.set_cons_succ, i64_w, i32_w]
                                        rfl
                                      refine pure_ (i := 11) (N := some 48) (v := ?_) (a' := ?_) #[true, true, true, true, true, true, true, true, true, false, true, true, false, false, false, false, false, false, false, false, false, false, false, false] rfl rfl (any_of HT_.out (by kernel_rfl)) (fun _ _ _ h => h) (Or.inl ⟨by rfl, ?_⟩) ?_ ?_
                                      rotate_left
                                      · intro w'
                                        go_simp
                                        with_reducible rfl
                                      rotate_left
                                      · simp only [Act.put, List.setIfInBounds_toArray, List.set_cons_zero, List.set_cons_succ, i64_w, i32_w]
                                        rfl
                                      refine pure_ (i := 12) (N := some 49) (v := ?_) (a' := ?_) #[true, true, true, true, true, true, true, true, true, false, true, true, true, false, false, false, false, false, false, false, false, false, false, false] rfl rfl (any_of HT_.out (by kernel_rfl)) (fun _ _ _ h => h) (Or.inl ⟨by rfl, ?_⟩) ?_ ?_
                                      rotate_left
                                      · intro w'
                                        go_simp
                                        with_reducible rfl
                                      rotate_left
                                      · simp only [Act.put, List.setIfInBounds_toArray, List.set_cons_zero, List.set_cons_succ, i64_w, i32_w]
                                        rfl
                                      refine pure_ (i := 18) (N := some 55) (v := ?_) (a' := ?_) #[true, true, true, true, true, true, true, true, true, false, true, true, true, false, false, false, false, false, true, false, false, false, false, false] rfl rfl (any_of HT_.out (by kernel_rfl)) (fun _ _ _ h => h) (Or.inl ⟨by rfl, ?_⟩) ?_ ?_
                                      rotate_left
                                      · intro w'
                                        go_simp
                                        with_reducible rfl
                                      rotate_left
                                      · simp only [Act.put, List.setIfInBounds_toArray, List.set_cons_zero, List.set_cons_succ, i64_w, i32_w]
                                        rfl
                                      refine pure_ (i := 19) (N := some 56) (v := ?_) (a' := ?_) #[true, true, true, true, true, true, true, true, true, false, true, true, true, false, false, false, false, false, true, true, false, false, false, false] rfl rfl (any_of HT_.out (by kernel_rfl)) (fun _ _ _ h => h) (Or.inl ⟨by rfl, ?_⟩) ?_ ?_
                                      rotate_left
                                      · intro w'
                                        go_simp
                                        with_reducible rfl
                                      rotate_left
                                      · simp only [Act.put, List.setIfInBounds_toArray, List.set_cons_zero, List.set_cons_succ, i64_w, i32_w]
                                        rfl
                                      refine take_ (i := 9) (N := some 46) (v := ?_) (a' := ?_) #[true, true, true, true, true, true, true, true, true, true, true, true, true, false, false, false, false, false, true, true, false, false, false, false] rfl rfl (take_ofW HT_.out HW_.out (by kernel_rfl)) (fun _ _ _ h => h) (Or.inl ⟨by rfl, ?_⟩) hHeld ?_ ?_
                                      rotate_left
                                      · rintro w' ⟨s0, s1, s2, s3, s4, s5, s6, s7, s8⟩
                                        go_simp
                                        with_reducible rfl
                                      rotate_left
                                      · simp only [Act.put, List.setIfInBounds_toArray, List.set_cons_zero, List.set_cons_succ, i64_w, i32_w]
                                        rfl
                                      refine take_ (i := 13) (N := some 50) (v := ?_) (a' := ?_) #[true, true, true, true, true, true, true, true, true, true, true, true, true, true, false, false, false, false, true, true, false, false, false, false] rfl rfl (take_ofW HT_.out HW_.out (by kernel_rfl)) (fun _ _ _ h => h) (Or.inl ⟨by rfl, ?_⟩) hHeld ?_ ?_
                                      rotate_left
                                      · rintro w' ⟨s0, s1, s2, s3, s4, s5, s6, s7, s8⟩
                                        go_simp
                                        with_reducible rfl
                                      rotate_left
                                      · simp only [Act.put, List.setIfInBounds_toArray, List.set_cons_zero, List.set_cons_succ, i64_w, i32_w]
                                        rfl
                                      refine pure_ (i := 14) (N := some 51) (v := ?_) (a' := ?_) #[true, true, true, true, true, true, true, true, true, true, true, true, true, true, true, false, false, false, true, true, false, false, false, false] rfl rfl (any_of HT_.out (by kernel_rfl)) (fun _ _ _ h => h) (Or.inl ⟨by rfl, ?_⟩) ?_ ?_
                                      rotate_left
                                      · intro w'
                                        go_simp
                                        with_reducible rfl
                                      rotate_left
                                      · simp only [Act.put, List.setIfInBounds_toArray, List.set_cons_zero, List.set_cons_succ, i64_w, i32_w]
                                        rfl
                                      refine pure_ (i := 15) (N := some 52) (v := ?_) (a' := ?_) #[true, true, true, true, true, true, true, true, true, true, true, true, true, true, true, true, false, false, true, true, false, false, false, false] rfl rfl (any_of HT_.out (by kernel_rfl)) (fun _ _ _ h => h) (Or.inl ⟨by rfl, ?_⟩) ?_ ?_
                                      rotate_left
                                      · intro w'
                                        go_simp
                                        with_reducible rfl
                                      rotate_left
                                      · simp only [Act.put, List.setIfInBounds_toArray, List.set_cons_zero, List.set_cons_succ, i64_w, i32_w]
                                        rfl
                                      refine take_ (i := 16) (N := some 53) (v := ?_) (a' := ?_) #[true, true, true, true, true, true, true, true, true, true, true, true, true, true, true, true, true, false, true, true, false, false, false, false] rfl rfl (take_ofW HT_.out HW_.out (by kernel_rfl)) (fun _ _ _ h => h) (Or.inl ⟨by rfl, ?_⟩) hHeld ?_ ?_
                                      rotate_left
                                      · rintro w' ⟨s0, s1, s2, s3, s4, s5, s6, s7, s8⟩
                                        go_simp
                                        with_reducible rfl
                                      rotate_left
                                      · simp only [Act.put, List.setIfInBounds_toArray, List.set_cons_zero, List.set_cons_succ, i64_w, i32_w]
                                        rfl
                                      refine take_ (i := 20) (N := some 57) (v := ?_) (a' := ?_) #[true, true, true, true, true, true, true, true, true, true, true, true, true, true, true, true, true, false, true, true, true, false, false, false] rfl rfl (take_ofW HT_.out HW_.out (by kernel_rfl)) (fun _ _ _ h => h) (Or.inl ⟨by rfl, ?_⟩) hHeld ?_ ?_
                                      rotate_left
                                      · rintro w' ⟨s0, s1, s2, s3, s4, s5, s6, s7, s8⟩
                                        go_simp
                                        with_reducible rfl
                                      rotate_left
                                      · simp only [Act.put, List.setIfInBounds_toArray, List.set_cons_zero, List.set_cons_succ, i64_w, i32_w]
                                        rfl
                                      refine one_ (i := 17) (N := some 54) #[true, true, true, true, true, true, true, true, true, true, true, true, true, true, true, true, true, true, true, true, true, false, false, false] rfl rfl (one_of HT_.out (by kernel_rfl)) (by decide) (fun K hK => ?_)
                                      refine goes_ Tryd.func78 (by kernel_rfl) rfl #[.int .u8 (bt ((rd_T98 x3_1 (ji5)).f0) (ji33))] (by rfl) rfl rfl (by (try simp only [List.map_toArray, List.map_cons, List.map_nil]); first | done | (simp only [hji33, hji5]; rfl) | rfl | (simp only [List.length_drop, List.length_take]; rfl)) ?_
                                      with_reducible refine (newelref01_Digit.calls (bt ((rd_T98 x3_1 (ji5)).f0) (ji33)) t210 _ ?side1 A37.out).mono ?_
                                      (case side1 => exact Glob.step HG.out (by repeat (first | (with_reducible first | exact HB.out | apply below_alloc | apply pw_below_drewN | apply below_drew1) | exact HB.out)))
                                      rintro e w' ⟨rfl, ⟨nd, rfl⟩⟩
                                      refine ⟨_, rfl, ?_⟩
                                      refine hK.out _ _ ⟨hHeld.1, hHeld.2.1, hHeld.2.2.1, hHeld.2.2.2.1, hHeld.2.2.2.2.1, hHeld.2.2.2.2.2.1, hHeld.2.2.2.2.2.2.1, hHeld.2.2.2.2.2.2.2.1, hHeld.2.2.2.2.2.2.2.2⟩ (fun hHeld => ?_)
                                      clear hK K
                                      refine norm_ (a' := ?_) ?_ ?_
                                      rotate_left
                                      · show Act.put _ (some 54) _ = _
                                        simp only [Act.put, List.setIfInBounds_toArray, List.set_cons_zero, List.set_cons_succ, i64_w, i32_w]
                                        rfl
                                      refine one_ (i := 21) (N := some 58) #[true, true, true, true, true, true, true, true, true, true, true, true, true, true, true, true, true, true, true, true, true, true, false, false] rfl rfl (one_of HT_.out (by kernel_rfl)) (by decide) (fun K hK => ?_)
                                      refine goes_ Tryd.func78 (by kernel_rfl) rfl #[.int .u8 (bt a0 x4_1)] (by rfl) rfl rfl (by (try simp only [List.map_toArray, List.map_cons, List.map_nil]); first | done | rfl | (simp only [List.length_drop, List.length_take]; rfl)) ?_
                                      with_reducible refine (newelref01_Digit.calls (bt a0 x4_1) t211 _ ?side1 A39.out).mono ?_
                                      (case side1 => exact Glob.step HG.out (by repeat (first | (with_reducible first | exact HB.out | apply below_alloc | apply pw_below_drewN | apply below_drew1) | exact HB.out)))
                                      rintro e w' ⟨rfl, ⟨nd, rfl⟩⟩
                                      refine ⟨_, rfl, ?_⟩
                                      refine hK.out _ _ ⟨hHeld.1, hHeld.2.1, hHeld.2.2.1, hHeld.2.2.2.1, hHeld.2.2.2.2.1, hHeld.2.2.2.2.2.1, hHeld.2.2.2.2.2.2.1, hHeld.2.2.2.2.2.2.2.1, hHeld.2.2.2.2.2.2.2.2⟩ (fun hHeld => ?_)
                                      clear hK K
                                      refine norm_ (a' := ?_) ?_ ?_
                                      rotate_left
                                      · show Act.put _ (some 58) _ = _
                                        simp only [Act.put, List.setIfInBounds_toArray, List.set_cons_zero, List.set_cons_succ, i64_w, i32_w]
                                        rfl
                                      refine pure_ (i := 22) (N := some 59) (v := ?_) (a' := ?_) #[true, true, true, true, true, true, true, true, true, true, true, true, true, true, true, true, true, true, true, true, true, true, true, false] rfl rfl (any_of HT_.out (by kernel_rfl)) (fun _ _ _ h => h) (Or.inl ⟨by rfl, ?_⟩) ?_ ?_
                                      rotate_left
                                      · intro w'
                                        go_simp
                                        with_reducible rfl
                                      rotate_left
                                      · simp only [Act.put, List.setIfInBounds_toArray, List.set_cons_zero, List.set_cons_succ, i64_w, i32_w]
                                        rfl
                                      refine pure_ (i := 23) (N := some 60) (v := ?_) (a' := ?_) #[true, true, true, true, true, true, true, true, true, true, true, true, true, true, true, true, true, true, true, true, true, true, true, true] rfl rfl (any_of HT_.out (by kernel_rfl)) (fun _ _ _ h => h) (Or.inl ⟨by rfl, ?_⟩) ?_ ?_
                                      rotate_left
                                      · intro w'
                                        go_simp
                                        with_reducible rfl
                                      rotate_left
                                      · simp only [Act.put, List.setIfInBounds_toArray, List.set_cons_zero, List.set_cons_succ, i64_w, i32_w]
                                        rfl
                                      refine done_ (done_of HT_.out (by kernel_rfl)) ?_
                                      have p41 : 0 ≤ (x4_1 : Int) := of_decide_eq_true (by first | (with_reducible assumption) | assumption)
                                      have q41 : x4_1 < (a0.size : Int) := of_decide_eq_true (by first | (with_reducible assumption) | assumption)
                                      have hx41 := bt_at a0 x4_1
                                      replace p41 := eq_true p41
                                      replace q41 := eq_true q41
                                      try go_wp2_with (first | ((with_reducible refine gate_callee (f := 78) rfl ?_); refine goesL_ (some 65) rfl rfl Tryd.func78 (by kernel_rfl) rfl #[.int .u8 (bt a0 x4_1)] rfl (by (try simp only [List.map_toArray, List.map_cons, List.map_nil]); first | done | rfl | (simp only [List.length_drop, List.length_take]; rfl)) ?_; (with_reducible refine (newelref01_Digit.calls (bt a0 x4_1) t212 _ ?side1 A42.out).mono ?_); (case side1 => exact Glob.step HG.out (by repeat (first | (with_reducible first | exact HB.out | apply below_alloc | apply pw_below_drewN | apply below_drew1) | exact HB.out))); rintro e w' ⟨rfl, ⟨nd, rfl⟩⟩; refine ⟨_, rfl, ?_⟩; (try ((try simp only [World.drewN_drewN]); (first | generalize hq_ : World.drewN w55 _ = w55 | (rw [drewN_self w55]; generalize hq_ : World.drewN w55 _ = w55)); have n0_ : Aside0 (Kd.R k98 98 w55 w.heap.size (fun _ => True) (.slice (some ⟨go8, 0, none⟩) x3_1.length co54) x3_1) := ⟨by rw [← hq_]; exact (by (with_reducible repeat (first | apply Kd.R_alloc | apply Kd.R_drewN | apply Kd.R_drew)); exact HO_3.out)⟩; have n1_ : Aside0 (Below w.heap.size w w55) := ⟨by rw [← hq_]; exact (by repeat (first | (with_reducible first | exact HB.out | apply below_alloc | apply pw_below_drewN | apply below_drew1) | exact HB.out))⟩; clear HO_3 HB hq_; have HO_3 := n0_; have HB := n1_; clear n0_ n1_)); have p43 : 0 ≤ ((ji5) : Int) := of_decide_eq_true (by first | (with_reducible assumption) | assumption); have q43 : ((ji5) : Int) < ((x3_1.length : Int) : Int) := of_decide_eq_true (by first | (with_reducible assumption) | assumption); obtain ⟨ce43, hcl43, hM43, hcc43, hfr43⟩ := Kd.R_elem HO_3.out z98 ((ji5) : Int) p43 q43; obtain rfl := k98_openM hM43; have hx43_0 : w55.cell? ⟨go8, ((ji5) : Int).toNat * 3, none⟩ = some (.string ((rd_T98 x3_1 (ji5)).f0)) := hcc43 0 _ rfl; have hx43_1 : w55.cell? ⟨go8, ((ji5) : Int).toNat * 3 + 1, none⟩ = some (.bool ((rd_T98 x3_1 (ji5)).f1)) := hcc43 1 _ rfl; have hx43_2 : w55.cell? ⟨go8, ((ji5) : Int).toNat * 3 + 2, none⟩ = some (.bool ((rd_T98 x3_1 (ji5)).f2)) := hcc43 2 _ rfl; have hf43_0 : w55.frozen? ⟨go8, ((ji5) : Int).toNat * 3, none⟩ = false := hfr43 0; have hf43_1 : w55.frozen? ⟨go8, ((ji5) : Int).toNat * 3 + 1, none⟩ = false := hfr43 1; have hf43_2 : w55.frozen? ⟨go8, ((ji5) : Int).toNat * 3 + 2, none⟩ = false := hfr43 2; clear hcl43 hcc43 hfr43 hM43; replace p43 := eq_true p43; replace q43 := eq_true q43; have HX56 := Aside0.mk (show Kd.R k98 98 w55 w.heap.size (fun _ => True) (.slice (some ⟨go8, 0, none⟩) x3_1.length co54) x3_1 from (by (with_reducible repeat (first | apply Kd.R_alloc | apply Kd.R_drewN | apply Kd.R_drew)); exact HO_3.out)); obtain ⟨ce56, hcl56, hM56, hcc56, hfr56⟩ := Kd.R_elem HX56.out z98 ((ji5) : Int) (of_decide_eq_true (by first | (with_reducible assumption) | assumption)) (by have h_ : ((ji5) : Int) < ((x3_1.length : Int) : Int) := of_decide_eq_true (by first | (with_reducible assumption) | assumption); first | exact h_ | (have e_ := (Kd.R_reads' HO_3.out).1; omega) | simpa using h_); obtain rfl := k98_openM hM56; have HP56 := Kd.R_seg HX56.out ((ji5) : Int) (of_decide_eq_true (by first | (with_reducible assumption) | assumption)) (by have h_ : ((ji5) : Int) < ((x3_1.length : Int) : Int) := of_decide_eq_true (by first | (with_reducible assumption) | assumption); first | exact h_ | (have e_ := (Kd.R_reads' HO_3.out).1; omega) | simpa using h_) (seg := [.bool t212]) (j := 2) hcl56 hcc56 (show 3 ≤ 3 from by decide) (x' := (⟨(rd_T98 x3_1 (ji5)).f0, (rd_T98 x3_1 (ji5)).f1, t212⟩ : S98)) (k98_mkM _ _ _ (⟨(rd_T98 x3_1 (ji5)).f0, (rd_T98 x3_1 (ji5)).f1, t212⟩ : S98) ) (fun _ hk => hk); have hx56_2 := hcc56 2 _ rfl; (try simp only [show (k98).sz = 3 from rfl, Nat.mul_one, Nat.add_zero] at hx56_2); have hf56_2 := hfr56 2; (try simp only [show (k98).sz = 3 from rfl, Nat.mul_one, Nat.add_zero] at hf56_2); clear hcl56 hcc56 hfr56 hM56) | ((with_reducible refine gate_store (t := 4) (p := 67) rfl ?_); refine store_event (t := 4) (p := 67) (v := ?vo_w57) (w1 := (w55.setCell ⟨go8, ((ji5) : Int).toNat * 3 + 2, none⟩ (.bool t212))) ?hg ?ho ?hn ?hr ?_; (case ho => rfl); (case hg => rfl); (case hn => rfl); (case hr => first | (go_simp; done) | (go_simp; rfl)); intro w57 hw; have hg : w55.grownBy w57 (some go8) := (by rw [hw]; exact HP56.2); have hp_ : Kd.R k98 98 w57 w.heap.size (fun _ => True) (.slice (some ⟨go8, 0, none⟩) x3_1.length co54) y213 := (by rw [hw, Ny213.out]; exact HP56.1); clear HP56; have n0_ := Aside0.mk (hp_); have n1_ := Aside0.mk ((by rw [hw]; exact below_set (HB.out) GB8.out : Below w.heap.size w w57)); clear HO_3; clear HB; have HO_3 := n0_; have HB := n1_; clear n0_ n1_; clear hg hw hp_) | ((with_reducible refine gate_builtin (b := .append) (xs := #[.tmp 68, .tmp 70]) rfl ?_); (try (refine gate_guard (by rfl) ?_; dsimp only)); at_builtin; refine Kd.R_append k98 (w0 := w) w.heap.size rfl (.tmp 68) (.tmp 70) 94 98 (.agg #[(.string ⟨#[]⟩), (.bool false), (.bool false)]) 24 rfl Tryd.underlying94 info98 rfl (by decide) (by omega) (.slice (some ⟨go8, 0, none⟩) x3_1.length co54) y213 (⟨(⟨#[]⟩ : ByteArray), true, false⟩ : S98) [.string (⟨#[]⟩ : ByteArray), .bool true, .bool false] (fun _ => True) (fun _ => False) rfl rfl ?aP (fun _ hk => hk.elim) ?aF ?aO ?aB ?aS ?aL ?_; (case aP => exact k98_mkM _ _ _ (⟨(⟨#[]⟩ : ByteArray), true, false⟩ : S98)); (case aB => exact (by repeat (first | (with_reducible first | exact HB.out | apply below_alloc | apply pw_below_drewN | apply below_drew1) | exact HB.out))); (case aF => exact (fun _ _ => trivial)); (case aO => exact (by (with_reducible repeat (first | apply Kd.R_alloc | apply Kd.R_drewN | apply Kd.R_drew)); exact HO_3.out)); (case aS => exact (below_size (by repeat (first | (with_reducible first | exact HB.out | apply below_alloc | apply pw_below_drewN | apply below_drew1) | exact HB.out)))); (case aL => have := LMc44.out; omega); intro v215 w58 ho hb hg hat; rw [← Ny214.out] at ho; have n0_ := Aside0.mk (hb); have n1_ := Aside0.mk (ho); clear HB; clear HO_3; have HB := n0_; have HO216 := n1_; clear n0_ n1_; clear ho hb hg hat; obtain ⟨Ao59, co59, eo59⟩ := Kd.R_slice HO216.out; subst eo59; have p48 : 0 ≤ ((ji45) : Int) := of_decide_eq_true (by first | (with_reducible assumption) | assumption); have q48 : ((ji45) : Int) < ((y214.length : Int) : Int) := of_decide_eq_true (by first | (with_reducible assumption) | assumption); obtain ⟨go48, co48, eo48, gb48, gl48, cl48, HG48⟩ := Kd.R_form HO216.out (by omega); (first | cases eo48 | (injection eo48 with ea_ en_ ec_; (first | subst ea_ | (injection ea_ with ea_; subst ea_)); subst ec_; clear en_)); have GB48 := Aside0.mk gb48; have GG48 := Aside0.mk HG48; clear gb48 gl48 HG48; obtain ⟨ce48, hcl48, hM48, hcc48, hfr48⟩ := Kd.R_elem HO216.out z98 ((ji45) : Int) p48 q48; obtain rfl := k98_openM hM48; have hx48_0 : w58.cell? ⟨go48, ((ji45) : Int).toNat * 3, none⟩ = some (.string ((rd_T98 y214 (ji45)).f0)) := hcc48 0 _ rfl; have hx48_1 : w58.cell? ⟨go48, ((ji45) : Int).toNat * 3 + 1, none⟩ = some (.bool ((rd_T98 y214 (ji45)).f1)) := hcc48 1 _ rfl; have hx48_2 : w58.cell? ⟨go48, ((ji45) : Int).toNat * 3 + 2, none⟩ = some (.bool ((rd_T98 y214 (ji45)).f2)) := hcc48 2 _ rfl; have hf48_0 : w58.frozen? ⟨go48, ((ji45) : Int).toNat * 3, none⟩ = false := hfr48 0; have hf48_1 : w58.frozen? ⟨go48, ((ji45) : Int).toNat * 3 + 1, none⟩ = false := hfr48 1; have hf48_2 : w58.frozen? ⟨go48, ((ji45) : Int).toNat * 3 + 2, none⟩ = false := hfr48 2; clear hcl48 hcc48 hfr48 hM48; replace p48 := eq_true p48; replace q48 := eq_true q48))
                                      have n0_ := Aside0.mk (Kd.R_drew HO216.out)
                                      have n1_ := Aside0.mk (below_drew1 HB.out)
                                      clear HO216
                                      clear HB
                                      have HO216 := n0_
                                      have HB := n1_
                                      clear n0_ n1_
                                      have p217 : 0 ≤ ((ji45) : Int) := of_decide_eq_true (by first | (with_reducible assumption) | assumption)
                                      have q217 : (ji45) < (y214.length : Int) := of_decide_eq_true (by first | (with_reducible assumption) | assumption)
                                      obtain ⟨ad217, e217, hx217_0, hx217_1, hx217_2⟩ := at_T98 (Kd.R_reads' HO216.out).2.2 (ji45) p217 q217
                                      obtain rfl : (⟨go48, 0, none⟩ : Addr) = ad217 := (by injection e217)
                                      (first | simp only [add_plain] at hx217_0 | simp only [add_at] at hx217_0 | simp only [Addr.add, Nat.zero_add] at hx217_0 | skip)
                                      (first | simp only [add_plain] at hx217_1 | simp only [add_at] at hx217_1 | simp only [Addr.add, Nat.zero_add] at hx217_1 | skip)
                                      (first | simp only [add_plain] at hx217_2 | simp only [add_at] at hx217_2 | simp only [Addr.add, Nat.zero_add] at hx217_2 | skip)
                                      replace p217 := eq_true p217
                                      replace q217 := eq_true q217
                                      have p53 : 0 ≤ ((ji45) : Int) := of_decide_eq_true (by first | (with_reducible assumption) | assumption)
                                      have q53 : ((ji45) : Int) < ((y214.length : Int) : Int) := of_decide_eq_true (by first | (with_reducible assumption) | assumption)
                                      obtain ⟨ce53, hcl53, hM53, hcc53, hfr53⟩ := Kd.R_elem HO216.out z98 ((ji45) : Int) p53 q53
                                      obtain rfl := k98_openM hM53
                                      have hx53_0 : World.cell? _ ⟨go48, ((ji45) : Int).toNat * 3, none⟩ = some (.string ((rd_T98 y214 (ji45)).f0)) := hcc53 0 _ rfl
                                      have hx53_1 : World.cell? _ ⟨go48, ((ji45) : Int).toNat * 3 + 1, none⟩ = some (.bool ((rd_T98 y214 (ji45)).f1)) := hcc53 1 _ rfl
                                      have hx53_2 : World.cell? _ ⟨go48, ((ji45) : Int).toNat * 3 + 2, none⟩ = some (.bool ((rd_T98 y214 (ji45)).f2)) := hcc53 2 _ rfl
                                      have hf53_0 : World.frozen? _ ⟨go48, ((ji45) : Int).toNat * 3, none⟩ = false := hfr53 0
                                      have hf53_1 : World.frozen? _ ⟨go48, ((ji45) : Int).toNat * 3 + 1, none⟩ = false := hfr53 1
                                      have hf53_2 : World.frozen? _ ⟨go48, ((ji45) : Int).toNat * 3 + 2, none⟩ = false := hfr53 2
                                      clear hcl53 hcc53 hfr53 hM53
                                      replace p53 := eq_true p53
                                      replace q53 := eq_true q53
                                      obtain ⟨ce61, hcl61, hM61, hcc61, hfr61⟩ := Kd.R_elem HO216.out z98 ((ji45) : Int) (of_decide_eq_true (by first | (with_reducible assumption) | assumption)) (by have h_ : ((ji45) : Int) < ((y214.length : Int) : Int) := of_decide_eq_true (by first | (with_reducible assumption) | assumption); first | exact h_ | (have e_ := (Kd.R_reads' HO216.out).1; omega) | simpa using h_)
                                      obtain rfl := k98_openM hM61
                                      have HP61 := (Kd.R_seg HO216.out ((ji45) : Int) (of_decide_eq_true (by first | (with_reducible assumption) | assumption)) (by have h_ : ((ji45) : Int) < ((y214.length : Int) : Int) := of_decide_eq_true (by first | (with_reducible assumption) | assumption); first | exact h_ | (have e_ := (Kd.R_reads' HO216.out).1; omega) | simpa using h_) (seg := [.string (((rd_T98 y214 (ji45)).f0) ++ (a0.extract (x4_1 : Int).toNat ((wrap64 (x4_1 + 1)) : Int).toNat))]) (j := 0) hcl61 hcc61 (show 1 ≤ 3 from by decide) (x' := (⟨((rd_T98 y214 (ji45)).f0) ++ (a0.extract (x4_1 : Int).toNat ((wrap64 (x4_1 + 1)) : Int).toNat), (rd_T98 y214 (ji45)).f1, (rd_T98 y214 (ji45)).f2⟩ : S98)) (k98_mkM _ _ _ (⟨((rd_T98 y214 (ji45)).f0) ++ (a0.extract (x4_1 : Int).toNat ((wrap64 (x4_1 + 1)) : Int).toNat), (rd_T98 y214 (ji45)).f1, (rd_T98 y214 (ji45)).f2⟩ : S98) ) (fun _ hk => hk)).1
                                      rw [← Ny218.out] at HP61
                                      have HQ61 := Aside0.mk HP61
                                      clear hcl61 hcc61 hfr61 hM61 HP61
                                      refine start_ (n := 14) (S := fun w' => w'.cell? ⟨go48, ((ji45)).toNat * 3, none⟩ = some (.string ((rd_T98 y214 (ji45)).f0)) ∧ w'.cell? ⟨go48, ((ji45)).toNat * 3 + 1, none⟩ = some (.bool ((rd_T98 y214 (ji45)).f1)) ∧ w'.cell? ⟨go48, ((ji45)).toNat * 3 + 2, none⟩ = some (.bool ((rd_T98 y214 (ji45)).f2))) (ds := [13]) #[false, false, false, false, false, false, false, false, false, false, false, false, false, false] (by kernel_rfl) rfl rfl ⟨hx217_0, hx217_1, hx217_2⟩ (fun hHeld => ?_); refine with_tabW newelref05_parts.tab12 newelref05_parts.bits12 (fun HT_ HW_ => ?_)
                                      generalize w58.drew = w60 at HO216 HB HQ61 hf53_0 hf53_1 hf53_2 hx217_0 hx217_1 hx217_2 hx53_0 hx53_1 hx53_2 hHeld ⊢
                                      refine pure_ (i := 0) (N := some 77) (v := ?_) (a' := ?_) #[true, false, false, false, false, false, false, false, false, false, false, false, false, false] rfl rfl (any_of HT_.out (by kernel_rfl)) (fun _ _ _ h => h) (Or.inl ⟨by rfl, ?_⟩) ?_ ?_
                                      rotate_left
                                      · intro w'
                                        go_simp
                                        with_reducible rfl
                                      rotate_left
                                      · simp only [Act.put, List.setIfInBounds_toArray, List.set_cons_zero, List.set_cons_succ, i64_w, i32_w]
                                        rfl
                                      refine pure_ (i := 1) (N := some 78) (v := ?_) (a' := ?_) #[true, true, false, false, false, false, false, false, false, false, false, false, false, false] rfl rfl (any_of HT_.out (by kernel_rfl)) (fun _ _ _ h => h) (Or.inl ⟨by rfl, ?_⟩) ?_ ?_
                                      rotate_left
                                      · intro w'
                                        go_simp
                                        with_reducible rfl
                                      rotate_left
                                      · simp only [Act.put, List.setIfInBounds_toArray, List.set_cons_zero, List.set_cons_succ, i64_w, i32_w]
                                        rfl
                                      refine pure_ (i := 2) (N := some 79) (v := ?_) (a' := ?_) #[true, true, true, false, false, false, false, false, false, false, false, false, false, false] rfl rfl (any_of HT_.out (by kernel_rfl)) (fun _ _ _ h => h) (Or.inl ⟨by rfl, ?_⟩) ?_ ?_
                                      rotate_left
                                      · intro w'
                                        go_simp
                                        with_reducible rfl
                                      rotate_left
                                      · simp only [Act.put, List.setIfInBounds_toArray, List.set_cons_zero, List.set_cons_succ, i64_w, i32_w]
                                        rfl
                                      refine pure_ (i := 3) (N := some 80) (v := ?_) (a' := ?_) #[true, true, true, true, false, false, false, false, false, false, false, false, false, false] rfl rfl (any_of HT_.out (by kernel_rfl)) (fun _ _ _ h => h) (Or.inl ⟨by rfl, ?_⟩) ?_ ?_
                                      rotate_left
                                      · intro w'
                                        go_simp
                                        with_reducible rfl
                                      rotate_left
                                      · simp only [Act.put, List.setIfInBounds_toArray, List.set_cons_zero, List.set_cons_succ, i64_w, i32_w]
                                        rfl
                                      refine pure_ (i := 5) (N := some 82) (v := ?_) (a' := ?_) #[true, true, true, true, false, true, false, false, false, false, false, false, false, false] rfl rfl (any_of HT_.out (by kernel_rfl)) (fun _ _ _ h => h) (Or.inl ⟨by rfl, ?_⟩) ?_ ?_
                                      rotate_left
                                      · intro w'
                                        go_simp
                                        with_reducible rfl
                                      rotate_left
                                      · simp only [Act.put, List.setIfInBounds_toArray, List.set_cons_zero, List.set_cons_succ, i64_w, i32_w]
                                        rfl
                                      refine pure_ (i := 6) (N := some 83) (v := ?_) (a' := ?_) #[true, true, true, true, false, true, true, false, false, false, false, false, false, false] rfl rfl (any_of HT_.out (by kernel_rfl)) (fun _ _ _ h => h) (Or.inl ⟨by rfl, ?_⟩) ?_ ?_
                                      rotate_left
                                      · intro w'
                                        go_simp
                                        with_reducible rfl
                                      rotate_left
                                      · simp only [Act.put, List.setIfInBounds_toArray, List.set_cons_zero, List.set_cons_succ, i64_w, i32_w]
                                        rfl
                                      refine pure_ (i := 7) (N := some 84) (v := ?_) (a' := ?_) #[true, true, true, true, false, true, true, true, false, false, false, false, false, false] rfl rfl (any_of HT_.out (by kernel_rfl)) (fun _ _ _ h => h) (Or.inl ⟨by rfl, ?_⟩) ?_ ?_
                                      rotate_left
                                      · intro w'
                                        go_simp
                                        with_reducible rfl
                                      rotate_left
                                      · simp only [Act.put, List.setIfInBounds_toArray, List.set_cons_zero, List.set_cons_succ, i64_w, i32_w]
                                        rfl
                                      refine pure_ (i := 8) (N := some 85) (v := ?_) (a' := ?_) #[true, true, true, true, false, true, true, true, true, false, false, false, false, false] rfl rfl (any_of HT_.out (by kernel_rfl)) (fun _ _ _ h => h) (Or.inl ⟨by rfl, ?_⟩) ?_ ?_
                                      rotate_left
                                      · intro w'
                                        go_simp
                                        with_reducible rfl
                                      rotate_left
                                      · simp only [Act.put, List.setIfInBounds_toArray, List.set_cons_zero, List.set_cons_succ, i64_w, i32_w]
                                        rfl
                                      refine pure_ (i := 9) (N := some 86) (v := ?_) (a' := ?_) #[true, true, true, true, false, true, true, true, true, true, false, false, false, false] rfl rfl (any_of HT_.out (by kernel_rfl)) (fun _ _ _ h => h) (Or.inl ⟨by rfl, ?_⟩) ?_ ?_
                                      rotate_left
                                      · intro w'
                                        go_simp
                                        with_reducible rfl
                                      rotate_left
                                      · simp only [Act.put, List.setIfInBounds_toArray, List.set_cons_zero, List.set_cons_succ, i64_w, i32_w]
                                        rfl
                                      refine take_ (i := 4) (N := some 81) (v := ?_) (a' := ?_) #[true, true, true, true, true, true, true, true, true, true, false, false, false, false] rfl rfl (take_ofW HT_.out HW_.out (by kernel_rfl)) (fun _ _ _ h => h) (Or.inl ⟨by rfl, ?_⟩) hHeld ?_ ?_
                                      rotate_left
                                      · rintro w' ⟨s0, s1, s2⟩
                                        go_simp
                                        with_reducible rfl
                                      rotate_left
                                      · simp only [Act.put, List.setIfInBounds_toArray, List.set_cons_zero, List.set_cons_succ, i64_w, i32_w]
                                        rfl
                                      refine pure_ (i := 10) (N := some 87) (v := ?_) (a' := ?_) #[true, true, true, true, true, true, true, true, true, true, true, false, false, false] rfl rfl (any_of HT_.out (by kernel_rfl)) (fun _ _ _ h => h) (Or.inl ⟨by rfl, ?_⟩) ?_ ?_
                                      rotate_left
                                      · intro w'
                                        go_simp
                                        with_reducible rfl
                                      rotate_left
                                      · simp only [Act.put, List.setIfInBounds_toArray, List.set_cons_zero, List.set_cons_succ, i64_w, i32_w]
                                        rfl
                                      refine pure_ (i := 11) (N := some 88) (v := ?_) (a' := ?_) #[true, true, true, true, true, true, true, true, true, true, true, true, false, false] rfl rfl (any_of HT_.out (by kernel_rfl)) (fun _ _ _ h => h) (Or.inl ⟨by rfl, ?_⟩) ?_ ?_
                                      rotate_left
                                      · intro w'
                                        go_simp
                                        with_reducible rfl
                                      rotate_left
                                      · simp only [Act.put, List.setIfInBounds_toArray, List.set_cons_zero, List.set_cons_succ, i64_w, i32_w]
                                        rfl
                                      refine pure_ (i := 12) (N := some 89) (v := ?_) (a' := ?_) #[true, true, true, true, true, true, true, true, true, true, true, true, true, false] rfl rfl (any_of HT_.out (by kernel_rfl)) (fun _ _ _ h => h) (Or.inl ⟨by rfl, ?_⟩) ?_ ?_
                                      rotate_left
                                      · intro w'
                                        go_simp
                                        with_reducible rfl
                                      rotate_left
                                      · simp only [Act.put, List.setIfInBounds_toArray, List.set_cons_zero, List.set_cons_succ, i64_w, i32_w]
                                        rfl
                                      refine last_ (i := 13) (N := none) #[true, true, true, true, true, true, true, true, true, true, true, true, true, true] rfl rfl (one_of HT_.out (by kernel_rfl)) (by decide) (fun K hK => ?_)
                                      refine skip_ (w1 := ?_) (by rfl) rfl ?_ ?_
                                      rotate_left
                                      · go_simp
                                        rfl
                                      refine hK.out _ _ ?_
                                      clear hK K
                                      refine done_ (done_of HT_.out (by kernel_rfl)) ?_
                                      try go_wp2
                                      go_roundg k1
                                      case measure => have := HK1.out; omega
                                      case rel => exact ⟨(y218), (wrap64 (x4_1 + 1)), (by first | rfl | (simp; done) | (simp [*]; done) | (simp; exact isEmpty_bne _)), H', ⟨by have := HK1.out; omega⟩, ⟨by (with_reducible repeat (first | apply Kd.R_alloc | apply Kd.R_drewN | apply Kd.R_drew)); exact HQ61.out⟩, ⟨by repeat (first | (with_reducible first | exact HB.out | apply below_alloc | apply pw_below_drewN | apply below_drew1 | refine below_set ?_ GB48.out) | exact HB.out)⟩⟩
                                    · rw [if_neg c52] at H
                                      exact absurd H (by simp)
                                  · rw [if_neg c51] at H
                                    exact absurd H (by simp)
                                · rw [if_neg c50] at H
                                  exact absurd H (by simp)
                              · rw [if_neg c47] at H
                                exact absurd H (by simp)
                            · rw [if_neg c46] at H
                              exact absurd H (by simp)
                          · rw [if_neg c44] at H
                            exact absurd H (by simp)
                        · rw [if_neg c40] at H
                          have c40b0 : (t210 != t211) = false := by simpa using c40
                          (try (have c40b1 : decide (t210 = t211) = true := by simpa using c40))
                          (try (have c40b2 : (t210 == t211) = true := by simpa using c40))
                          clear c40
                          have c63b0 := eq_true (of_decide_eq_true (by first | (with_reducible assumption) | assumption) : 0 ≤ x4_1)
                          by_cases c64 : x4_1 ≤ (wrap64 (x4_1 + 1))
                          · rw [if_pos c64] at H
                            have c64b0 := eq_true c64
                            have c64b1 : decide (x4_1 ≤ (wrap64 (x4_1 + 1))) = true := decide_eq_true c64
                            by_cases c65 : (wrap64 (x4_1 + 1)) ≤ (a0.size : Int)
                            · rw [if_pos c65] at H
                              have c65b0 := eq_true c65
                              have c65b1 : decide ((wrap64 (x4_1 + 1)) ≤ (a0.size : Int)) = true := decide_eq_true c65
                              by_cases c66 : ((rd_T98 x3_1 (ji5)).f0).size + (a0.extract (x4_1 : Int).toNat ((wrap64 (x4_1 + 1)) : Int).toNat).size ≤ 9223372036854775807
                              · rw [if_pos c66] at H
                                have c66b0 := eq_true c66
                                have c66b1 : decide (((rd_T98 x3_1 (ji5)).f0).size + (a0.extract (x4_1 : Int).toNat ((wrap64 (x4_1 + 1)) : Int).toNat).size ≤ 9223372036854775807) = true := decide_eq_true c66
                                try have c66b2 : (9223372036854775807 < ((rd_T98 x3_1 (ji5)).f0).size + (a0.extract (x4_1 : Int).toNat ((wrap64 (x4_1 + 1)) : Int).toNat).size) = False := eq_false (Nat.not_lt.2 c66)
                                try have c66q : (9223372036854775807 < ((rd_T98 x3_1 (ji5)).f0).size + (((wrap64 (x4_1 + 1)) : Int).toNat - (x4_1 : Int).toNat)) = False := eq_false (by have z_ := c66; have y_ : ((wrap64 (x4_1 + 1)) : Int) ≤ ((a0).size : Int) := of_decide_eq_true (by assumption); simp only [ByteArray.size_extract] at z_; omega)
                                obtain ⟨y220, hy220⟩ : ∃ y_ : List (S98), y_ = (x3_1.set ((ji5) : Int).toNat (⟨((rd_T98 x3_1 (ji5)).f0) ++ (a0.extract (x4_1 : Int).toNat ((wrap64 (x4_1 + 1)) : Int).toNat), (rd_T98 x3_1 (ji5)).f1, (rd_T98 x3_1 (ji5)).f2⟩ : S98)) := ⟨_, rfl⟩
                                replace H : (newelref05_parts.l0 k1 a0 y220 (wrap64 (x4_1 + 1))) = some r := by first | (rw [hy220]; with_reducible exact H) | (have H2_ := (Option.bind_some _ _).symm.trans H; rw [hy220]; with_reducible exact H2_) | (have H2_ := (Option.bind_some _ _).symm.trans H; with_reducible exact H2_) | with_reducible exact H | (rw [hy220]; exact H) | exact H
                                have Ny220 := Aside0.mk hy220
                                clear hy220
                                have H' := Aside0.mk H
                                clear H
                                obtain ⟨Ao68, co68, eo68⟩ := Kd.R_slice HO_3.out
                                subst eo68
                                have p8 : 0 ≤ ((ji5) : Int) := of_decide_eq_true (by first | (with_reducible assumption) | assumption)
                                have q8 : ((ji5) : Int) < ((x3_1.length : Int) : Int) := of_decide_eq_true (by first | (with_reducible assumption) | assumption)
                                obtain ⟨go8, co8, eo8, gb8, gl8, cl8, HG8⟩ := Kd.R_form HO_3.out (by omega)
                                (first | cases eo8 | (injection eo8 with ea_ en_ ec_; (first | subst ea_ | (injection ea_ with ea_; subst ea_)); subst ec_; clear en_))
                                have GB8 := Aside0.mk gb8
                                have GG8 := Aside0.mk HG8
                                clear gb8 gl8 HG8
                                obtain ⟨ce8, hcl8, hM8, hcc8, hfr8⟩ := Kd.R_elem HO_3.out z98 ((ji5) : Int) p8 q8
                                obtain rfl := k98_openM hM8
                                have hx8_0 : wr.cell? ⟨go8, ((ji5) : Int).toNat * 3, none⟩ = some (.string ((rd_T98 x3_1 (ji5)).f0)) := hcc8 0 _ rfl
                                have hx8_1 : wr.cell? ⟨go8, ((ji5) : Int).toNat * 3 + 1, none⟩ = some (.bool ((rd_T98 x3_1 (ji5)).f1)) := hcc8 1 _ rfl
                                have hx8_2 : wr.cell? ⟨go8, ((ji5) : Int).toNat * 3 + 2, none⟩ = some (.bool ((rd_T98 x3_1 (ji5)).f2)) := hcc8 2 _ rfl
                                have hf8_0 : wr.frozen? ⟨go8, ((ji5) : Int).toNat * 3, none⟩ = false := hfr8 0
                                have hf8_1 : wr.frozen? ⟨go8, ((ji5) : Int).toNat * 3 + 1, none⟩ = false := hfr8 1
                                have hf8_2 : wr.frozen? ⟨go8, ((ji5) : Int).toNat * 3 + 2, none⟩ = false := hfr8 2
                                clear hcl8 hcc8 hfr8 hM8
                                replace p8 := eq_true p8
                                replace q8 := eq_true q8
                                have p10 : 0 ≤ (x4_1 : Int) := of_decide_eq_true (by first | (with_reducible assumption) | assumption)
                                have q10 : x4_1 < (a0.size : Int) := of_decide_eq_true (by first | (with_reducible assumption) | assumption)
                                have hx10 := bt_at a0 x4_1
                                replace p10 := eq_true p10
                                replace q10 := eq_true q10
                                have p16 : 0 ≤ (x4_1 : Int) := of_decide_eq_true (by first | (with_reducible assumption) | assumption)
                                have q16 : x4_1 < (a0.size : Int) := of_decide_eq_true (by first | (with_reducible assumption) | assumption)
                                have hx16 := bt_at a0 x4_1
                                replace p16 := eq_true p16
                                replace q16 := eq_true q16
                                try go_wp2
                                have n0_ := Aside0.mk (Kd.R_drew HO_3.out)
                                have n1_ := Aside0.mk (below_drew1 HB.out)
                                clear HO_3
                                clear HB
                                have HO_3 := n0_
                                have HB := n1_
                                clear n0_ n1_
                                have p205 : 0 ≤ ((ji5) : Int) := of_decide_eq_true (by first | (with_reducible assumption) | assumption)
                                have q205 : (ji5) < (x3_1.length : Int) := of_decide_eq_true (by first | (with_reducible assumption) | assumption)
                                obtain ⟨ad205, e205, hx205_0, hx205_1, hx205_2⟩ := at_T98 (Kd.R_reads' HO_3.out).2.2 (ji5) p205 q205
                                obtain rfl : (⟨go8, 0, none⟩ : Addr) = ad205 := (by injection e205)
                                (first | simp only [add_plain] at hx205_0 | simp only [add_at] at hx205_0 | simp only [Addr.add, Nat.zero_add] at hx205_0 | skip)
                                (first | simp only [add_plain] at hx205_1 | simp only [add_at] at hx205_1 | simp only [Addr.add, Nat.zero_add] at hx205_1 | skip)
                                (first | simp only [add_plain] at hx205_2 | simp only [add_at] at hx205_2 | simp only [Addr.add, Nat.zero_add] at hx205_2 | skip)
                                replace p205 := eq_true p205
                                replace q205 := eq_true q205
                                have p208 : 0 ≤ ((ji5) : Int) := of_decide_eq_true (by first | (with_reducible assumption) | assumption)
                                have q208 : (ji5) < (x3_1.length : Int) := of_decide_eq_true (by first | (with_reducible assumption) | assumption)
                                obtain ⟨ad208, e208, hx208_0, hx208_1, hx208_2⟩ := at_T98 (Kd.R_reads' HO_3.out).2.2 (ji5) p208 q208
                                obtain rfl : (⟨go8, 0, none⟩ : Addr) = ad208 := (by injection e208)
                                (first | simp only [add_plain] at hx208_0 | simp only [add_at] at hx208_0 | simp only [Addr.add, Nat.zero_add] at hx208_0 | skip)
                                (first | simp only [add_plain] at hx208_1 | simp only [add_at] at hx208_1 | simp only [Addr.add, Nat.zero_add] at hx208_1 | skip)
                                (first | simp only [add_plain] at hx208_2 | simp only [add_at] at hx208_2 | simp only [Addr.add, Nat.zero_add] at hx208_2 | skip)
                                replace p208 := eq_true p208
                                replace q208 := eq_true q208
                                have p209 : 0 ≤ ((ji5) : Int) := of_decide_eq_true (by first | (with_reducible assumption) | assumption)
                                have q209 : (ji5) < (x3_1.length : Int) := of_decide_eq_true (by first | (with_reducible assumption) | assumption)
                                obtain ⟨ad209, e209, hx209_0, hx209_1, hx209_2⟩ := at_T98 (Kd.R_reads' HO_3.out).2.2 (ji5) p209 q209
                                obtain rfl : (⟨go8, 0, none⟩ : Addr) = ad209 := (by injection e209)
                                (first | simp only [add_plain] at hx209_0 | simp only [add_at] at hx209_0 | simp only [Addr.add, Nat.zero_add] at hx209_0 | skip)
                                (first | simp only [add_plain] at hx209_1 | simp only [add_at] at hx209_1 | simp only [Addr.add, Nat.zero_add] at hx209_1 | skip)
                                (first | simp only [add_plain] at hx209_2 | simp only [add_at] at hx209_2 | simp only [Addr.add, Nat.zero_add] at hx209_2 | skip)
                                replace p209 := eq_true p209
                                replace q209 := eq_true q209
                                have p36 : 0 ≤ ((ji33) : Int) := of_decide_eq_true (by first | (with_reducible assumption) | assumption)
                                have q36 : (ji33) < (((rd_T98 x3_1 (ji5)).f0).size : Int) := of_decide_eq_true (by first | (with_reducible assumption) | assumption)
                                have hx36 := bt_at ((rd_T98 x3_1 (ji5)).f0) (ji33)
                                replace p36 := eq_true p36
                                replace q36 := eq_true q36
                                have p38 : 0 ≤ (x4_1 : Int) := of_decide_eq_true (by first | (with_reducible assumption) | assumption)
                                have q38 : x4_1 < (a0.size : Int) := of_decide_eq_true (by first | (with_reducible assumption) | assumption)
                                have hx38 := bt_at a0 x4_1
                                replace p38 := eq_true p38
                                replace q38 := eq_true q38
                                refine start_ (n := 24) (S := fun w' => w'.cell? ⟨go8, ((ji5)).toNat * 3, none⟩ = some (.string ((rd_T98 x3_1 (ji5)).f0)) ∧ w'.cell? ⟨go8, ((ji5)).toNat * 3 + 1, none⟩ = some (.bool ((rd_T98 x3_1 (ji5)).f1)) ∧ w'.cell? ⟨go8, ((ji5)).toNat * 3 + 2, none⟩ = some (.bool ((rd_T98 x3_1 (ji5)).f2)) ∧ w'.cell? ⟨go8, ((ji5)).toNat * 3, none⟩ = some (.string ((rd_T98 x3_1 (ji5)).f0)) ∧ w'.cell? ⟨go8, ((ji5)).toNat * 3 + 1, none⟩ = some (.bool ((rd_T98 x3_1 (ji5)).f1)) ∧ w'.cell? ⟨go8, ((ji5)).toNat * 3 + 2, none⟩ = some (.bool ((rd_T98 x3_1 (ji5)).f2)) ∧ w'.cell? ⟨go8, ((ji5)).toNat * 3, none⟩ = some (.string ((rd_T98 x3_1 (ji5)).f0)) ∧ w'.cell? ⟨go8, ((ji5)).toNat * 3 + 1, none⟩ = some (.bool ((rd_T98 x3_1 (ji5)).f1)) ∧ w'.cell? ⟨go8, ((ji5)).toNat * 3 + 2, none⟩ = some (.bool ((rd_T98 x3_1 (ji5)).f2))) (ds := []) #[false, false, false, false, false, false, false, false, false, false, false, false, false, false, false, false, false, false, false, false, false, false, false, false] (by kernel_rfl) rfl rfl ⟨hx205_0, hx205_1, hx205_2, hx208_0, hx208_1, hx208_2, hx209_0, hx209_1, hx209_2⟩ (fun hHeld => ?_); refine with_tabW newelref05_parts.tab8 newelref05_parts.bits8 (fun HT_ HW_ => ?_)
                                generalize wr.drew = w69 at HO_3 HB hx205_0 hx205_1 hx205_2 hx208_0 hx208_1 hx208_2 hx209_0 hx209_1 hx209_2 hHeld ⊢
                                refine pure_ (i := 0) (N := some 37) (v := ?_) (a' := ?_) #[true, false, false, false, false, false, false, false, false, false, false, false, false, false, false, false, false, false, false, false, false, false, false, false] rfl rfl (any_of HT_.out (by kernel_rfl)) (fun _ _ _ h => h) (Or.inl ⟨by rfl, ?_⟩) ?_ ?_
                                rotate_left
                                · intro w'
                                  go_simp
                                  with_reducible rfl
                                rotate_left
                                · simp only [Act.put, List.setIfInBounds_toArray, List.set_cons_zero, List.set_cons_succ, i64_w, i32_w]
                                  rfl
                                refine pure_ (i := 1) (N := some 38) (v := ?_) (a' := ?_) #[true, true, false, false, false, false, false, false, false, false, false, false, false, false, false, false, false, false, false, false, false, false, false, false] rfl rfl (any_of HT_.out (by kernel_rfl)) (fun _ _ _ h => h) (Or.inl ⟨by rfl, ?_⟩) ?_ ?_
                                rotate_left
                                · intro w'
                                  go_simp
                                  with_reducible rfl
                                rotate_left
                                · simp only [Act.put, List.setIfInBounds_toArray, List.set_cons_zero, List.set_cons_succ, i64_w, i32_w]
                                  rfl
                                refine pure_ (i := 2) (N := some 39) (v := ?_) (a' := ?_) #[true, true, true, false, false, false, false, false, false, false, false, false, false, false, false, false, false, false, false, false, false, false, false, false] rfl rfl (any_of HT_.out (by kernel_rfl)) (fun _ _ _ h => h) (Or.inl ⟨by rfl, ?_⟩) ?_ ?_
                                rotate_left
                                · intro w'
                                  go_simp
                                  with_reducible rfl
                                rotate_left
                                · simp only [Act.put, List.setIfInBounds_toArray, List.set_cons_zero, List.set_cons_succ, i64_w, i32_w]
                                  rfl
                                refine take_ (i := 3) (N := some 40) (v := ?_) (a' := ?_) #[true, true, true, true, false, false, false, false, false, false, false, false, false, false, false, false, false, false, false, false, false, false, false, false] rfl rfl (take_ofW HT_.out HW_.out (by kernel_rfl)) (fun _ _ _ h => h) (Or.inl ⟨by rfl, ?_⟩) hHeld ?_ ?_
                                rotate_left
                                · rintro w' ⟨s0, s1, s2, s3, s4, s5, s6, s7, s8⟩
                                  go_simp
                                  with_reducible rfl
                                rotate_left
                                · simp only [Act.put, List.setIfInBounds_toArray, List.set_cons_zero, List.set_cons_succ, i64_w, i32_w]
                                  rfl
                                refine pure_ (i := 4) (N := some 41) (v := ?_) (a' := ?_) #[true, true, true, true, true, false, false, false, false, false, false, false, false, false, false, false, false, false, false, false, false, false, false, false] rfl rfl (any_of HT_.out (by kernel_rfl)) (fun _ _ _ h => h) (Or.inl ⟨by rfl, ?_⟩) ?_ ?_
                                rotate_left
                                · intro w'
                                  go_simp
                                  with_reducible rfl
                                rotate_left
                                · simp only [Act.put, List.setIfInBounds_toArray, List.set_cons_zero, List.set_cons_succ, i64_w, i32_w]
                                  rfl
                                refine pure_ (i := 5) (N := some 42) (v := ?_) (a' := ?_) #[true, true, true, true, true, true, false, false, false, false, false, false, false, false, false, false, false, false, false, false, false, false, false, false] rfl rfl (any_of HT_.out (by kernel_rfl)) (fun _ _ _ h => h) (Or.inl ⟨by rfl, ?_⟩) ?_ ?_
                                rotate_left
                                · intro w'
                                  go_simp
                                  with_reducible rfl
                                rotate_left
                                · simp only [Act.put, List.setIfInBounds_toArray, List.set_cons_zero, List.set_cons_succ, i64_w, i32_w]
                                  rfl
                                refine pure_ (i := 6) (N := some 43) (v := ?_) (a' := ?_) #[true, true, true, true, true, true, true, false, false, false, false, false, false, false, false, false, false, false, false, false, false, false, false, false] rfl rfl (any_of HT_.out (by kernel_rfl)) (fun _ _ _ h => h) (Or.inl ⟨by rfl, ?_⟩) ?_ ?_
                                rotate_left
                                · intro w'
                                  go_simp
                                  with_reducible rfl
                                rotate_left
                                · simp only [Act.put, List.setIfInBounds_toArray, List.set_cons_zero, List.set_cons_succ, i64_w, i32_w]
                                  rfl
                                refine pure_ (i := 7) (N := some 44) (v := ?_) (a' := ?_) #[true, true, true, true, true, true, true, true, false, false, false, false, false, false, false, false, false, false, false, false, false, false, false, false] rfl rfl (any_of HT_.out (by kernel_rfl)) (fun _ _ _ h => h) (Or.inl ⟨by rfl, ?_⟩) ?_ ?_
                                rotate_left
                                · intro w'
                                  go_simp
                                  with_reducible rfl
                                rotate_left
                                · simp only [Act.put, List.setIfInBounds_toArray, List.set_cons_zero, List.set_cons_succ, i64_w, i32_w]
                                  rfl
                                refine pure_ (i := 8) (N := some 45) (v := ?_) (a' := ?_) #[true, true, true, true, true, true, true, true, true, false, false, false, false, false, false, false, false, false, false, false, false, false, false, false] rfl rfl (any_of HT_.out (by kernel_rfl)) (fun _ _ _ h => h) (Or.inl ⟨by rfl, ?_⟩) ?_ ?_
                                rotate_left
                                · intro w'
                                  go_simp
                                  with_reducible rfl
                                rotate_left
                                · simp only [Act.put, List.setIfInBounds_toArray, List.set_cons_zero, List.set_cons_succ, i64_w, i32_w]
                                  rfl
                                refine pure_ (i := 10) (N := some 47) (v := ?_) (a' := ?_) #[true, true, true, true, true, true, true, true, true, false, true, false, false, false, false, false, false, false, false, false, false, false, false, false] rfl rfl (any_of HT_.out (by kernel_rfl)) (fun _ _ _ h => h) (Or.inl ⟨by rfl, ?_⟩) ?_ ?_
                                rotate_left
                                · intro w'
                                  go_simp
                                  with_reducible rfl
                                rotate_left
                                · simp only [Act.put, List.setIfInBounds_toArray, List.set_cons_zero, List.set_cons_succ, i64_w, i32_w]
                                  rfl
                                refine pure_ (i := 11) (N := some 48) (v := ?_) (a' := ?_) #[true, true, true, true, true, true, true, true, true, false, true, true, false, false, false, false, false, false, false, false, false, false, false, false] rfl rfl (any_of HT_.out (by kernel_rfl)) (fun _ _ _ h => h) (Or.inl ⟨by rfl, ?_⟩) ?_ ?_
                                rotate_left
                                · intro w'
                                  go_simp
                                  with_reducible rfl
                                rotate_left
                                · simp only [Act.put, List.setIfInBounds_toArray, List.set_cons_zero, List.set_cons_succ, i64_w, i32_w]
                                  rfl
                                refine pure_ (i := 12) (N := some 49) (v := ?_) (a' := ?_) #[true, true, true, true, true, true, true, true, true, false, true, true, true, false, false, false, false, false, false, false, false, false, false, false] rfl rfl (any_of HT_.out (by kernel_rfl)) (fun _ _ _ h => h) (Or.inl ⟨by rfl, ?_⟩) ?_ ?_
                                rotate_left
                                · intro w'
                                  go_simp
                                  with_reducible rfl
                                rotate_left
                                · simp only [Act.put, List.setIfInBounds_toArray, List.set_cons_zero, List.set_cons_succ, i64_w, i32_w]
                                  rfl
                                refine pure_ (i := 18) (N := some 55) (v := ?_) (a' := ?_) #[true, true, true, true, true, true, true, true, true, false, true, true, true, false, false, false, false, false, true, false, false, false, false, false] rfl rfl (any_of HT_.out (by kernel_rfl)) (fun _ _ _ h => h) (Or.inl ⟨by rfl, ?_⟩) ?_ ?_
                                rotate_left
                                · intro w'
                                  go_simp
                                  with_reducible rfl
                                rotate_left
                                · simp only [Act.put, List.setIfInBounds_toArray, List.set_cons_zero, List.set_cons_succ, i64_w, i32_w]
                                  rfl
                                refine pure_ (i := 19) (N := some 56) (v := ?_) (a' := ?_) #[true, true, true, true, true, true, true, true, true, false, true, true, true, false, false, false, false, false, true, true, false, false, false, false] rfl rfl (any_of HT_.out (by kernel_rfl)) (fun _ _ _ h => h) (Or.inl ⟨by rfl, ?_⟩) ?_ ?_
                                rotate_left
                                · intro w'
                                  go_simp
                                  with_reducible rfl
                                rotate_left
                                · simp only [Act.put, List.setIfInBounds_toArray, List.set_cons_zero, List.set_cons_succ, i64_w, i32_w]
                                  rfl
                                refine take_ (i := 9) (N := some 46) (v := ?_) (a' := ?_) #[true, true, true, true, true, true, true, true, true, true, true, true, true, false, false, false, false, false, true, true, false, false, false, false] rfl rfl (take_ofW HT_.out HW_.out (by kernel_rfl)) (fun _ _ _ h => h) (Or.inl ⟨by rfl, ?_⟩) hHeld ?_ ?_
                                rotate_left
                                · rintro w' ⟨s0, s1, s2, s3, s4, s5, s6, s7, s8⟩
                                  go_simp
                                  with_reducible rfl
                                rotate_left
                                · simp only [Act.put, List.setIfInBounds_toArray, List.set_cons_zero, List.set_cons_succ, i64_w, i32_w]
                                  rfl
                                refine take_ (i := 13) (N := some 50) (v := ?_) (a' := ?_) #[true, true, true, true, true, true, true, true, true, true, true, true, true, true, false, false, false, false, true, true, false, false, false, false] rfl rfl (take_ofW HT_.out HW_.out (by kernel_rfl)) (fun _ _ _ h => h) (Or.inl ⟨by rfl, ?_⟩) hHeld ?_ ?_
                                rotate_left
                                · rintro w' ⟨s0, s1, s2, s3, s4, s5, s6, s7, s8⟩
                                  go_simp
                                  with_reducible rfl
                                rotate_left
                                · simp only [Act.put, List.setIfInBounds_toArray, List.set_cons_zero, List.set_cons_succ, i64_w, i32_w]
                                  rfl
                                refine pure_ (i := 14) (N := some 51) (v := ?_) (a' := ?_) #[true, true, true, true, true, true, true, true, true, true, true, true, true, true, true, false, false, false, true, true, false, false, false, false] rfl rfl (any_of HT_.out (by kernel_rfl)) (fun _ _ _ h => h) (Or.inl ⟨by rfl, ?_⟩) ?_ ?_
                                rotate_left
                                · intro w'
                                  go_simp
                                  with_reducible rfl
                                rotate_left
                                · simp only [Act.put, List.setIfInBounds_toArray, List.set_cons_zero, List.set_cons_succ, i64_w, i32_w]
                                  rfl
                                refine pure_ (i := 15) (N := some 52) (v := ?_) (a' := ?_) #[true, true, true, true, true, true, true, true, true, true, true, true, true, true, true, true, false, false, true, true, false, false, false, false] rfl rfl (any_of HT_.out (by kernel_rfl)) (fun _ _ _ h => h) (Or.inl ⟨by rfl, ?_⟩) ?_ ?_
                                rotate_left
                                · intro w'
                                  go_simp
                                  with_reducible rfl
                                rotate_left
                                · simp only [Act.put, List.setIfInBounds_toArray, List.set_cons_zero, List.set_cons_succ, i64_w, i32_w]
                                  rfl
                                refine take_ (i := 16) (N := some 53) (v := ?_) (a' := ?_) #[true, true, true, true, true, true, true, true, true, true, true, true, true, true, true, true, true, false, true, true, false, false, false, false] rfl rfl (take_ofW HT_.out HW_.out (by kernel_rfl)) (fun _ _ _ h => h) (Or.inl ⟨by rfl, ?_⟩) hHeld ?_ ?_
                                rotate_left
                                · rintro w' ⟨s0, s1, s2, s3, s4, s5, s6, s7, s8⟩
                                  go_simp
                                  with_reducible rfl
                                rotate_left
                                · simp only [Act.put, List.setIfInBounds_toArray, List.set_cons_zero, List.set_cons_succ, i64_w, i32_w]
                                  rfl
                                refine take_ (i := 20) (N := some 57) (v := ?_) (a' := ?_) #[true, true, true, true, true, true, true, true, true, true, true, true, true, true, true, true, true, false, true, true, true, false, false, false] rfl rfl (take_ofW HT_.out HW_.out (by kernel_rfl)) (fun _ _ _ h => h) (Or.inl ⟨by rfl, ?_⟩) hHeld ?_ ?_
                                rotate_left
                                · rintro w' ⟨s0, s1, s2, s3, s4, s5, s6, s7, s8⟩
                                  go_simp
                                  with_reducible rfl
                                rotate_left
                                · simp only [Act.put, List.setIfInBounds_toArray, List.set_cons_zero, List.set_cons_succ, i64_w, i32_w]
                                  rfl
                                refine one_ (i := 17) (N := some 54) #[true, true, true, true, true, true, true, true, true, true, true, true, true, true, true, true, true, true, true, true, true, false, false, false] rfl rfl (one_of HT_.out (by kernel_rfl)) (by decide) (fun K hK => ?_)
                                refine goes_ Tryd.func78 (by kernel_rfl) rfl #[.int .u8 (bt ((rd_T98 x3_1 (ji5)).f0) (ji33))] (by rfl) rfl rfl (by (try simp only [List.map_toArray, List.map_cons, List.map_nil]); first | done | (simp only [hji33, hji5]; rfl) | rfl | (simp only [List.length_drop, List.length_take]; rfl)) ?_
                                with_reducible refine (newelref01_Digit.calls (bt ((rd_T98 x3_1 (ji5)).f0) (ji33)) t210 _ ?side1 A37.out).mono ?_
                                (case side1 => exact Glob.step HG.out (by repeat (first | (with_reducible first | exact HB.out | apply below_alloc | apply pw_below_drewN | apply below_drew1) | exact HB.out)))
                                rintro e w' ⟨rfl, ⟨nd, rfl⟩⟩
                                refine ⟨_, rfl, ?_⟩
                                refine hK.out _ _ ⟨hHeld.1, hHeld.2.1, hHeld.2.2.1, hHeld.2.2.2.1, hHeld.2.2.2.2.1, hHeld.2.2.2.2.2.1, hHeld.2.2.2.2.2.2.1, hHeld.2.2.2.2.2.2.2.1, hHeld.2.2.2.2.2.2.2.2⟩ (fun hHeld => ?_)
                                clear hK K
                                refine norm_ (a' := ?_) ?_ ?_
                                rotate_left
                                · show Act.put _ (some 54) _ = _
                                  simp only [Act.put, List.setIfInBounds_toArray, List.set_cons_zero, List.set_cons_succ, i64_w, i32_w]
                                  rfl
                                refine one_ (i := 21) (N := some 58) #[true, true, true, true, true, true, true, true, true, true, true, true, true, true, true, true, true, true, true, true, true, true, false, false] rfl rfl (one_of HT_.out (by kernel_rfl)) (by decide) (fun K hK => ?_)
                                refine goes_ Tryd.func78 (by kernel_rfl) rfl #[.int .u8 (bt a0 x4_1)] (by rfl) rfl rfl (by (try simp only [List.map_toArray, List.map_cons, List.map_nil]); first | done | rfl | (simp only [List.length_drop, List.length_take]; rfl)) ?_
                                with_reducible refine (newelref01_Digit.calls (bt a0 x4_1) t211 _ ?side1 A39.out).mono ?_
                                (case side1 => exact Glob.step HG.out (by repeat (first | (with_reducible first | exact HB.out | apply below_alloc | apply pw_below_drewN | apply below_drew1) | exact HB.out)))
                                rintro e w' ⟨rfl, ⟨nd, rfl⟩⟩
                                refine ⟨_, rfl, ?_⟩
                                refine hK.out _ _ ⟨hHeld.1, hHeld.2.1, hHeld.2.2.1, hHeld.2.2.2.1, hHeld.2.2.2.2.1, hHeld.2.2.2.2.2.1, hHeld.2.2.2.2.2.2.1, hHeld.2.2.2.2.2.2.2.1, hHeld.2.2.2.2.2.2.2.2⟩ (fun hHeld => ?_)
                                clear hK K
                                refine norm_ (a' := ?_) ?_ ?_
                                rotate_left
                                · show Act.put _ (some 58) _ = _
                                  simp only [Act.put, List.setIfInBounds_toArray, List.set_cons_zero, List.set_cons_succ, i64_w, i32_w]
                                  rfl
                                refine pure_ (i := 22) (N := some 59) (v := ?_) (a' := ?_) #[true, true, true, true, true, true, true, true, true, true, true, true, true, true, true, true, true, true, true, true, true, true, true, false] rfl rfl (any_of HT_.out (by kernel_rfl)) (fun _ _ _ h => h) (Or.inl ⟨by rfl, ?_⟩) ?_ ?_
                                rotate_left
                                · intro w'
                                  go_simp
                                  with_reducible rfl
                                rotate_left
                                · simp only [Act.put, List.setIfInBounds_toArray, List.set_cons_zero, List.set_cons_succ, i64_w, i32_w]
                                  rfl
                                refine pure_ (i := 23) (N := some 60) (v := ?_) (a' := ?_) #[true, true, true, true, true, true, true, true, true, true, true, true, true, true, true, true, true, true, true, true, true, true, true, true] rfl rfl (any_of HT_.out (by kernel_rfl)) (fun _ _ _ h => h) (Or.inl ⟨by rfl, ?_⟩) ?_ ?_
                                rotate_left
                                · intro w'
                                  go_simp
                                  with_reducible rfl
                                rotate_left
                                · simp only [Act.put, List.setIfInBounds_toArray, List.set_cons_zero, List.set_cons_succ, i64_w, i32_w]
                                  rfl
                                refine done_ (done_of HT_.out (by kernel_rfl)) ?_
                                have p62 : 0 ≤ ((ji5) : Int) := of_decide_eq_true (by first | (with_reducible assumption) | assumption)
                                have q62 : ((ji5) : Int) < ((x3_1.length : Int) : Int) := of_decide_eq_true (by first | (with_reducible assumption) | assumption)
                                obtain ⟨ce62, hcl62, hM62, hcc62, hfr62⟩ := Kd.R_elem HO_3.out z98 ((ji5) : Int) p62 q62
                                obtain rfl := k98_openM hM62
                                have hx62_0 : w69.cell? ⟨go8, ((ji5) : Int).toNat * 3, none⟩ = some (.string ((rd_T98 x3_1 (ji5)).f0)) := hcc62 0 _ rfl
                                have hx62_1 : w69.cell? ⟨go8, ((ji5) : Int).toNat * 3 + 1, none⟩ = some (.bool ((rd_T98 x3_1 (ji5)).f1)) := hcc62 1 _ rfl
                                have hx62_2 : w69.cell? ⟨go8, ((ji5) : Int).toNat * 3 + 2, none⟩ = some (.bool ((rd_T98 x3_1 (ji5)).f2)) := hcc62 2 _ rfl
                                have hf62_0 : w69.frozen? ⟨go8, ((ji5) : Int).toNat * 3, none⟩ = false := hfr62 0
                                have hf62_1 : w69.frozen? ⟨go8, ((ji5) : Int).toNat * 3 + 1, none⟩ = false := hfr62 1
                                have hf62_2 : w69.frozen? ⟨go8, ((ji5) : Int).toNat * 3 + 2, none⟩ = false := hfr62 2
                                clear hcl62 hcc62 hfr62 hM62
                                replace p62 := eq_true p62
                                replace q62 := eq_true q62
                                try go_wp2
                                (try ((try simp only [World.drewN_drewN]); (first | generalize hq_ : World.drewN w69 _ = w69 | (rw [drewN_self w69]; generalize hq_ : World.drewN w69 _ = w69)); have n0_ : Aside0 (Kd.R k98 98 w69 w.heap.size (fun _ => True) (.slice (some ⟨go8, 0, none⟩) x3_1.length co68) x3_1) := ⟨by rw [← hq_]; exact (by (with_reducible repeat (first | apply Kd.R_alloc | apply Kd.R_drewN | apply Kd.R_drew)); exact HO_3.out)⟩; have n1_ : Aside0 (Below w.heap.size w w69) := ⟨by rw [← hq_]; exact (by repeat (first | (with_reducible first | exact HB.out | apply below_alloc | apply pw_below_drewN | apply below_drew1) | exact HB.out))⟩; clear HO_3 HB hq_; have HO_3 := n0_; have HB := n1_; clear n0_ n1_))
                                have n0_ := Aside0.mk (Kd.R_drew HO_3.out)
                                have n1_ := Aside0.mk (below_drew1 HB.out)
                                clear HO_3
                                clear HB
                                have HO_3 := n0_
                                have HB := n1_
                                clear n0_ n1_
                                have p219 : 0 ≤ ((ji5) : Int) := of_decide_eq_true (by first | (with_reducible assumption) | assumption)
                                have q219 : (ji5) < (x3_1.length : Int) := of_decide_eq_true (by first | (with_reducible assumption) | assumption)
                                obtain ⟨ad219, e219, hx219_0, hx219_1, hx219_2⟩ := at_T98 (Kd.R_reads' HO_3.out).2.2 (ji5) p219 q219
                                obtain rfl : (⟨go8, 0, none⟩ : Addr) = ad219 := (by injection e219)
                                (first | simp only [add_plain] at hx219_0 | simp only [add_at] at hx219_0 | simp only [Addr.add, Nat.zero_add] at hx219_0 | skip)
                                (first | simp only [add_plain] at hx219_1 | simp only [add_at] at hx219_1 | simp only [Addr.add, Nat.zero_add] at hx219_1 | skip)
                                (first | simp only [add_plain] at hx219_2 | simp only [add_at] at hx219_2 | simp only [Addr.add, Nat.zero_add] at hx219_2 | skip)
                                replace p219 := eq_true p219
                                replace q219 := eq_true q219
                                have p67 : 0 ≤ ((ji5) : Int) := of_decide_eq_true (by first | (with_reducible assumption) | assumption)
                                have q67 : ((ji5) : Int) < ((x3_1.length : Int) : Int) := of_decide_eq_true (by first | (with_reducible assumption) | assumption)
                                obtain ⟨ce67, hcl67, hM67, hcc67, hfr67⟩ := Kd.R_elem HO_3.out z98 ((ji5) : Int) p67 q67
                                obtain rfl := k98_openM hM67
                                have hx67_0 : World.cell? _ ⟨go8, ((ji5) : Int).toNat * 3, none⟩ = some (.string ((rd_T98 x3_1 (ji5)).f0)) := hcc67 0 _ rfl
                                have hx67_1 : World.cell? _ ⟨go8, ((ji5) : Int).toNat * 3 + 1, none⟩ = some (.bool ((rd_T98 x3_1 (ji5)).f1)) := hcc67 1 _ rfl
                                have hx67_2 : World.cell? _ ⟨go8, ((ji5) : Int).toNat * 3 + 2, none⟩ = some (.bool ((rd_T98 x3_1 (ji5)).f2)) := hcc67 2 _ rfl
                                have hf67_0 : World.frozen? _ ⟨go8, ((ji5) : Int).toNat * 3, none⟩ = false := hfr67 0
                                have hf67_1 : World.frozen? _ ⟨go8, ((ji5) : Int).toNat * 3 + 1, none⟩ = false := hfr67 1
                                have hf67_2 : World.frozen? _ ⟨go8, ((ji5) : Int).toNat * 3 + 2, none⟩ = false := hfr67 2
                                clear hcl67 hcc67 hfr67 hM67
                                replace p67 := eq_true p67
                                replace q67 := eq_true q67
                                obtain ⟨ce71, hcl71, hM71, hcc71, hfr71⟩ := Kd.R_elem HO_3.out z98 ((ji5) : Int) (of_decide_eq_true (by first | (with_reducible assumption) | assumption)) (by have h_ : ((ji5) : Int) < ((x3_1.length : Int) : Int) := of_decide_eq_true (by first | (with_reducible assumption) | assumption); first | exact h_ | (have e_ := (Kd.R_reads' HO_3.out).1; omega) | simpa using h_)
                                obtain rfl := k98_openM hM71
                                have HP71 := (Kd.R_seg HO_3.out ((ji5) : Int) (of_decide_eq_true (by first | (with_reducible assumption) | assumption)) (by have h_ : ((ji5) : Int) < ((x3_1.length : Int) : Int) := of_decide_eq_true (by first | (with_reducible assumption) | assumption); first | exact h_ | (have e_ := (Kd.R_reads' HO_3.out).1; omega) | simpa using h_) (seg := [.string (((rd_T98 x3_1 (ji5)).f0) ++ (a0.extract (x4_1 : Int).toNat ((wrap64 (x4_1 + 1)) : Int).toNat))]) (j := 0) hcl71 hcc71 (show 1 ≤ 3 from by decide) (x' := (⟨((rd_T98 x3_1 (ji5)).f0) ++ (a0.extract (x4_1 : Int).toNat ((wrap64 (x4_1 + 1)) : Int).toNat), (rd_T98 x3_1 (ji5)).f1, (rd_T98 x3_1 (ji5)).f2⟩ : S98)) (k98_mkM _ _ _ (⟨((rd_T98 x3_1 (ji5)).f0) ++ (a0.extract (x4_1 : Int).toNat ((wrap64 (x4_1 + 1)) : Int).toNat), (rd_T98 x3_1 (ji5)).f1, (rd_T98 x3_1 (ji5)).f2⟩ : S98) ) (fun _ hk => hk)).1
                                rw [← Ny220.out] at HP71
                                have HQ71 := Aside0.mk HP71
                                clear hcl71 hcc71 hfr71 hM71 HP71
                                refine start_ (n := 14) (S := fun w' => w'.cell? ⟨go8, ((ji5)).toNat * 3, none⟩ = some (.string ((rd_T98 x3_1 (ji5)).f0)) ∧ w'.cell? ⟨go8, ((ji5)).toNat * 3 + 1, none⟩ = some (.bool ((rd_T98 x3_1 (ji5)).f1)) ∧ w'.cell? ⟨go8, ((ji5)).toNat * 3 + 2, none⟩ = some (.bool ((rd_T98 x3_1 (ji5)).f2))) (ds := [13]) #[false, false, false, false, false, false, false, false, false, false, false, false, false, false] (by kernel_rfl) rfl rfl ⟨hx219_0, hx219_1, hx219_2⟩ (fun hHeld => ?_); refine with_tabW newelref05_parts.tab12 newelref05_parts.bits12 (fun HT_ HW_ => ?_)
                                generalize w69.drew = w70 at HO_3 HB HQ71 hf67_0 hf67_1 hf67_2 hx219_0 hx219_1 hx219_2 hx67_0 hx67_1 hx67_2 hHeld ⊢
                                refine pure_ (i := 0) (N := some 77) (v := ?_) (a' := ?_) #[true, false, false, false, false, false, false, false, false, false, false, false, false, false] rfl rfl (any_of HT_.out (by kernel_rfl)) (fun _ _ _ h => h) (Or.inl ⟨by rfl, ?_⟩) ?_ ?_
                                rotate_left
                                · intro w'
                                  go_simp
                                  with_reducible rfl
                                rotate_left
                                · simp only [Act.put, List.setIfInBounds_toArray, List.set_cons_zero, List.set_cons_succ, i64_w, i32_w]
                                  rfl
                                refine pure_ (i := 1) (N := some 78) (v := ?_) (a' := ?_) #[true, true, false, false, false, false, false, false, false, false, false, false, false, false] rfl rfl (any_of HT_.out (by kernel_rfl)) (fun _ _ _ h => h) (Or.inl ⟨by rfl, ?_⟩) ?_ ?_
                                rotate_left
                                · intro w'
                                  go_simp
                                  with_reducible rfl
                                rotate_left
                                · simp only [Act.put, List.setIfInBounds_toArray, List.set_cons_zero, List.set_cons_succ, i64_w, i32_w]
                                  rfl
                                refine pure_ (i := 2) (N := some 79) (v := ?_) (a' := ?_) #[true, true, true, false, false, false, false, false, false, false, false, false, false, false] rfl rfl (any_of HT_.out (by kernel_rfl)) (fun _ _ _ h => h) (Or.inl ⟨by rfl, ?_⟩) ?_ ?_
                                rotate_left
                                · intro w'
                                  go_simp
                                  with_reducible rfl
                                rotate_left
                                · simp only [Act.put, List.setIfInBounds_toArray, List.set_cons_zero, List.set_cons_succ, i64_w, i32_w]
                                  rfl
                                refine pure_ (i := 3) (N := some 80) (v := ?_) (a' := ?_) #[true, true, true, true, false, false, false, false, false, false, false, false, false, false] rfl rfl (any_of HT_.out (by kernel_rfl)) (fun _ _ _ h => h) (Or.inl ⟨by rfl, ?_⟩) ?_ ?_
                                rotate_left
                                · intro w'
                                  go_simp
                                  with_reducible rfl
                                rotate_left
                                · simp only [Act.put, List.setIfInBounds_toArray, List.set_cons_zero, List.set_cons_succ, i64_w, i32_w]
                                  rfl
                                refine pure_ (i := 5) (N := some 82) (v := ?_) (a' := ?_) #[true, true, true, true, false, true, false, false, false, false, false, false, false, false] rfl rfl (any_of HT_.out (by kernel_rfl)) (fun _ _ _ h => h) (Or.inl ⟨by rfl, ?_⟩) ?_ ?_
                                rotate_left
                                · intro w'
                                  go_simp
                                  with_reducible rfl
                                rotate_left
                                · simp only [Act.put, List.setIfInBounds_toArray, List.set_cons_zero, List.set_cons_succ, i64_w, i32_w]
                                  rfl
                                refine pure_ (i := 6) (N := some 83) (v := ?_) (a' := ?_) #[true, true, true, true, false, true, true, false, false, false, false, false, false, false] rfl rfl (any_of HT_.out (by kernel_rfl)) (fun _ _ _ h => h) (Or.inl ⟨by rfl, ?_⟩) ?_ ?_
                                rotate_left
                                · intro w'
                                  go_simp
                                  with_reducible rfl
                                rotate_left
                                · simp only [Act.put, List.setIfInBounds_toArray, List.set_cons_zero, List.set_cons_succ, i64_w, i32_w]
                                  rfl
                                refine pure_ (i := 7) (N := some 84) (v := ?_) (a' := ?_) #[true, true, true, true, false, true, true, true, false, false, false, false, false, false] rfl rfl (any_of HT_.out (by kernel_rfl)) (fun _ _ _ h => h) (Or.inl ⟨by rfl, ?_⟩) ?_ ?_
                                rotate_left
                                · intro w'
                                  go_simp
                                  with_reducible rfl
                                rotate_left
                                · simp only [Act.put, List.setIfInBounds_toArray, List.set_cons_zero, List.set_cons_succ, i64_w, i32_w]
                                  rfl
                                refine pure_ (i := 8) (N := some 85) (v := ?_) (a' := ?_) #[true, true, true, true, false, true, true, true, true, false, false, false, false, false] rfl rfl (any_of HT_.out (by kernel_rfl)) (fun _ _ _ h => h) (Or.inl ⟨by rfl, ?_⟩) ?_ ?_
                                rotate_left
                                · intro w'
                                  go_simp
                                  with_reducible rfl
                                rotate_left
                                · simp only [Act.put, List.setIfInBounds_toArray, List.set_cons_zero, List.set_cons_succ, i64_w, i32_w]
                                  rfl
                                refine pure_ (i := 9) (N := some 86) (v := ?_) (a' := ?_) #[true, true, true, true, false, true, true, true, true, true, false, false, false, false] rfl rfl (any_of HT_.out (by kernel_rfl)) (fun _ _ _ h => h) (Or.inl ⟨by rfl, ?_⟩) ?_ ?_
                                rotate_left
                                · intro w'
                                  go_simp
                                  with_reducible rfl
                                rotate_left
                                · simp only [Act.put, List.setIfInBounds_toArray, List.set_cons_zero, List.set_cons_succ, i64_w, i32_w]
                                  rfl
                                refine take_ (i := 4) (N := some 81) (v := ?_) (a' := ?_) #[true, true, true, true, true, true, true, true, true, true, false, false, false, false] rfl rfl (take_ofW HT_.out HW_.out (by kernel_rfl)) (fun _ _ _ h => h) (Or.inl ⟨by rfl, ?_⟩) hHeld ?_ ?_
                                rotate_left
                                · rintro w' ⟨s0, s1, s2⟩
                                  go_simp
                                  with_reducible rfl
                                rotate_left
                                · simp only [Act.put, List.setIfInBounds_toArray, List.set_cons_zero, List.set_cons_succ, i64_w, i32_w]
                                  rfl
                                refine pure_ (i := 10) (N := some 87) (v := ?_) (a' := ?_) #[true, true, true, true, true, true, true, true, true, true, true, false, false, false] rfl rfl (any_of HT_.out (by kernel_rfl)) (fun _ _ _ h => h) (Or.inl ⟨by rfl, ?_⟩) ?_ ?_
                                rotate_left
                                · intro w'
                                  go_simp
                                  with_reducible rfl
                                rotate_left
                                · simp only [Act.put, List.setIfInBounds_toArray, List.set_cons_zero, List.set_cons_succ, i64_w, i32_w]
                                  rfl
                                refine pure_ (i := 11) (N := some 88) (v := ?_) (a' := ?_) #[true, true, true, true, true, true, true, true, true, true, true, true, false, false] rfl rfl (any_of HT_.out (by kernel_rfl)) (fun _ _ _ h => h) (Or.inl ⟨by rfl, ?_⟩) ?_ ?_
                                rotate_left
                                · intro w'
                                  go_simp
                                  with_reducible rfl
                                rotate_left
                                · simp only [Act.put, List.setIfInBounds_toArray, List.set_cons_zero, List.set_cons_succ, i64_w, i32_w]
                                  rfl
                                refine pure_ (i := 12) (N := some 89) (v := ?_) (a' := ?_) #[true, true, true, true, true, true, true, true, true, true, true, true, true, false] rfl rfl (any_of HT_.out (by kernel_rfl)) (fun _ _ _ h => h) (Or.inl ⟨by rfl, ?_⟩) ?_ ?_
                                rotate_left
                                · intro w'
                                  go_simp
                                  with_reducible rfl
                                rotate_left
                                · simp only [Act.put, List.setIfInBounds_toArray, List.set_cons_zero, List.set_cons_succ, i64_w, i32_w]
                                  rfl
                                refine last_ (i := 13) (N := none) #[true, true, true, true, true, true, true, true, true, true, true, true, true, true] rfl rfl (one_of HT_.out (by kernel_rfl)) (by decide) (fun K hK => ?_)
                                refine skip_ (w1 := ?_) (by rfl) rfl ?_ ?_
                                rotate_left
                                · go_simp
                                  rfl
                                refine hK.out _ _ ?_
                                clear hK K
                                refine done_ (done_of HT_.out (by kernel_rfl)) ?_
                                try go_wp2
                                go_roundg k1
                                case measure => have := HK1.out; omega
                                case rel => exact ⟨(y220), (wrap64 (x4_1 + 1)), (by first | rfl | (simp; done) | (simp [*]; done) | (simp; exact isEmpty_bne _)), H', ⟨by have := HK1.out; omega⟩, ⟨by (with_reducible repeat (first | apply Kd.R_alloc | apply Kd.R_drewN | apply Kd.R_drew)); exact HQ71.out⟩, ⟨by repeat (first | (with_reducible first | exact HB.out | apply below_alloc | apply pw_below_drewN | apply below_drew1 | refine below_set ?_ GB8.out) | exact HB.out)⟩⟩
                              · rw [if_neg c66] at H
                                exact absurd H (by simp)
                            · rw [if_neg c65] at H
                              exact absurd H (by simp)
                          · rw [if_neg c64] at H
                            exact absurd H (by simp)
                      · rw [if_neg c35] at H
                        exact absurd H (by simp)
                    · rw [if_neg c34] at H
                      exact absurd H (by simp)
            · rw [if_neg c9] at H
              exact absurd H (by simp)
          · rw [if_neg c7] at H
            exact absurd H (by simp)
        · rw [if_neg c6] at H
          exact absurd H (by simp)
      · rw [if_neg c4] at H
        have c4b0 : decide (x4_1 < (a0.size : Int)) = false := decide_eq_false c4
        clear c4
        obtain rfl := Option.some.inj H
        go_wp2
        go_ret
        exact ⟨_, by first | rfl | (simp [errW_none, errW_some] <;> rfl) | (simp [*, errW_none, errW_some] <;> rfl), by (with_reducible repeat (first | apply Kd.R_alloc | apply Kd.R_drewN | apply Kd.R_drew)); exact HO_3.out, by repeat (first | (with_reducible first | exact HB.out | apply below_alloc | apply pw_below_drewN | apply below_drew1) | exact HB.out)⟩

end Go.Proofs.YtgdjfcmmpjcaaaaDoor.Q

-- Printed by this session's wip/np.py over the kit's print program. Not trusted: Lean checks it.
namespace Go.Proofs.YtgdjfcmmpjcaaaaDoor.Q
open Go.RowKit Go.Proofs.YtgdjfcmmpjcaaaaDoorW.PrintWords Go.Proofs.YtgdjfcmmpjcaaaaDoorW.PrintLast Go.Proofs.YtgdjfcmmpjcaaaaDoorW.Own Go.Proofs.YtgdjfcmmpjcaaaaDoorW.PrintMore
attribute [local go_sem] max2_int min2_int max_two min_two max_three min_three max_four min_four
set_option linter.unusedVariables false
set_option linter.unusedSimpArgs false

/-! ### newelref01_Lower: function 76 -/
def newelref01_Lower.l0 : Nat → ByteArray → List Int → Int → Option (ByteArray)
  | 0, _, _, _ => none
  | k + 1, x0, x3, x4 => if x4 < (x0.size : Int) then (if 0 ≤ x4 then (if (bt x0 x4) ≥ 65 then (if (bt x0 x4) ≤ 90 then (if x3.length < 140737488355328 then (newelref01_Lower.l0 k x0 (x3 ++ [((bt x0 x4) + 32) % 256]) (wrap64 (x4 + 1))) else (none)) else (if x3.length < 140737488355328 then (newelref01_Lower.l0 k x0 (x3 ++ [bt x0 x4]) (wrap64 (x4 + 1))) else (none))) else (if x3.length < 140737488355328 then (newelref01_Lower.l0 k x0 (x3 ++ [bt x0 x4]) (wrap64 (x4 + 1))) else (none))) else (none)) else (some (strOfNums x3))
def newelref01_Lower.f (k : Nat) (a0 : ByteArray) : Option (ByteArray) := newelref01_Lower.l0 k a0 ([] : List Int) 0
theorem newelref01_Lower.mono_l : ∀ k, (∀ y0 y1 y2, LeO (newelref01_Lower.l0 k y0 y1 y2) (newelref01_Lower.l0 (k + 1) y0 y1 y2))
  | 0 => fun _ _ _ r h => by simp [newelref01_Lower.l0] at h
  | k + 1 => by
    have ih0 := newelref01_Lower.mono_l k
    · intro y0 y1 y2
      unfold newelref01_Lower.l0
      repeat' first
      | (with_reducible exact ih0 _ _ _)
      | (with_reducible exact LeO.refl _)
      | (with_reducible exact LeO.none _)
      | (with_reducible refine LeO.ite ?_ ?_)
      | (with_reducible refine LeO.bind ?_ (fun _ => ?_))
      | exact ih0 _ _ _
      | exact LeO.none _
      | refine LeO.ite ?_ ?_
      | refine LeO.bind ?_ (fun _ => ?_)
theorem newelref01_Lower.mono : ∀ a0 k, LeO (newelref01_Lower.f k a0) (newelref01_Lower.f (k + 1) a0) := by
  intro a0 k
  have ih0 := newelref01_Lower.mono_l k
  unfold newelref01_Lower.f
  repeat' first
      | (with_reducible exact ih0 _ _ _)
      | (with_reducible exact LeO.refl _)
      | (with_reducible exact LeO.none _)
      | (with_reducible refine LeO.ite ?_ ?_)
      | (with_reducible refine LeO.bind ?_ (fun _ => ?_))
      | exact ih0 _ _ _
      | exact LeO.none _
      | refine LeO.ite ?_ ?_
      | refine LeO.bind ?_ (fun _ => ?_)
set_option maxHeartbeats 8000000 in
set_option maxRecDepth 100000 in
theorem newelref01_Lower.calls (k : Nat) (a0 : ByteArray) (r : ByteArray) (w : World) (hG : Glob w) (h : newelref01_Lower.f k a0 = some r) :
    Calls Tryd.prog 76 #[.string a0] w fun e w' => e = .returned (.string r) ∧ Below w.heap.size w w' := by
  have HG := Aside0.mk hG
  clear hG
  have HB := Aside0.mk (Below.refl w.heap.size w)
  have H : (newelref01_Lower.l0 k a0 ([] : List Int) 0) = some r := h
  clear h
  have H' := Aside0.mk H
  clear H
  go_enter Tryd.func76, Tryd.ntmps76
  go_wp2
  go_loopg [3, 4] k (fun kq v3 v4 w' => ∃ (x3_1 : List Int) (x4_1 : Int), v4 = .int .i64 x4_1 ∧ Aside0 (newelref01_Lower.l0 kq a0 x3_1 x4_1 = some r) ∧ Aside0 (kq ≤ k) ∧ Aside0 (Kd.R (Kd.int .u8) 5 w' w.heap.size (fun _ => True) v3 x3_1) ∧ Aside0 (Below w.heap.size w w'))
  case atStart => exact ⟨(([] : List Int)), (0), (by first | rfl | (simp; done) | (simp [*]; done) | (simp; exact isEmpty_bne _)), H', ⟨Nat.le_refl _⟩, ⟨by first | exact Kd.R_nil _ _ _ _ _ | exact Kd.N_nil _ _ _ _ _ | exact Kd.V_nil _ _ _ _ _ | exact Kd.Q_nil _ _ _ _ _ | exact Kd.S_nil _ _ _ _ _⟩, ⟨by repeat (first | (with_reducible first | exact HB.out | apply below_alloc | apply pw_below_drewN | apply below_drew1) | exact HB.out)⟩⟩
  case round =>
    clear H'
    obtain ⟨x3_1, x4_1, rfl, HA, HK1, HO_3, HB⟩ := hrel
    cases gk with
    | zero => exact absurd HA.out (by simp [newelref01_Lower.l0])
    | succ k1 =>
      have H := HA.out
      clear HA
      simp only [newelref01_Lower.l0] at H
      (try simp only [toList_lit] at H)
      by_cases c2 : x4_1 < (a0.size : Int)
      · rw [if_pos c2] at H
        have c2b0 : decide (x4_1 < (a0.size : Int)) = true := decide_eq_true c2
        clear c2
        by_cases c3 : 0 ≤ x4_1
        · rw [if_pos c3] at H
          have c3b0 : decide (0 ≤ x4_1) = true := decide_eq_true c3
          clear c3
          by_cases c5 : (bt a0 x4_1) ≥ 65
          · rw [if_pos c5] at H
            have c5b0 : decide (65 ≤ (bt a0 x4_1)) = true := decide_eq_true c5
            clear c5
            by_cases c6 : (bt a0 x4_1) ≤ 90
            · rw [if_pos c6] at H
              have c6b0 : decide ((bt a0 x4_1) ≤ 90) = true := decide_eq_true c6
              clear c6
              by_cases c7 : x3_1.length < 140737488355328
              · rw [if_pos c7] at H
                have LMc7 := Aside0.mk c7
                clear c7
                obtain ⟨y187, hy187⟩ : ∃ y_ : List Int, y_ = (x3_1 ++ [((bt a0 x4_1) + 32) % 256]) := ⟨_, rfl⟩
                replace H : (newelref01_Lower.l0 k1 a0 y187 (wrap64 (x4_1 + 1))) = some r := by first | (rw [hy187]; with_reducible exact H) | (have H2_ := (Option.bind_some _ _).symm.trans H; rw [hy187]; with_reducible exact H2_) | (have H2_ := (Option.bind_some _ _).symm.trans H; with_reducible exact H2_) | with_reducible exact H | (rw [hy187]; exact H) | exact H
                have Ny187 := Aside0.mk hy187
                clear hy187
                have H' := Aside0.mk H
                clear H
                have p4 : 0 ≤ (x4_1 : Int) := of_decide_eq_true (by first | (with_reducible assumption) | assumption)
                have q4 : x4_1 < (a0.size : Int) := of_decide_eq_true (by first | (with_reducible assumption) | assumption)
                have hx4 := bt_at a0 x4_1
                replace p4 := eq_true p4
                replace q4 := eq_true q4
                go_wp2_with (first | ((with_reducible refine gate_builtin (b := .append) (xs := #[.tmp 23, .tmp 25]) rfl ?_); at_builtin; refine Kd.R_append (Kd.int .u8) (w0 := w) w.heap.size rfl (.tmp 23) (.tmp 25) 30 5 (.int .u8 0) 1 rfl Tryd.underlying30 info5 rfl (by decide) (by omega) u3 x3_1 (((bt a0 x4_1) + 32) % 256) [.int .u8 (((bt a0 x4_1) + 32) % 256)] (fun _ => True) (fun _ => False) rfl rfl ?aP (fun _ hk => hk.elim) ?aF ?aO ?aB ?aS ?aL ?_; (case aP => exact rfl); (case aB => exact (by repeat (first | (with_reducible first | exact HB.out | apply below_alloc | apply pw_below_drewN | apply below_drew1) | exact HB.out))); (case aF => exact (fun _ _ => trivial)); (case aO => exact (by (with_reducible repeat (first | apply Kd.R_alloc | apply Kd.R_drewN | apply Kd.R_drew)); exact HO_3.out)); (case aS => exact (below_size (by repeat (first | (with_reducible first | exact HB.out | apply below_alloc | apply pw_below_drewN | apply below_drew1) | exact HB.out)))); (case aL => have := LMc7.out; omega); intro v188 w8 ho hb hg hat; rw [← Ny187.out] at ho; have n0_ := Aside0.mk (hb); have n1_ := Aside0.mk (ho); clear HB; clear HO_3; have HB := n0_; have HO189 := n1_; clear n0_ n1_; clear ho hb hg hat))
                go_roundg k1
                case measure => have := HK1.out; omega
                case rel => exact ⟨(y187), (wrap64 (x4_1 + 1)), (by first | rfl | (simp; done) | (simp [*]; done) | (simp; exact isEmpty_bne _)), H', ⟨by have := HK1.out; omega⟩, ⟨by (with_reducible repeat (first | apply Kd.R_alloc | apply Kd.R_drewN | apply Kd.R_drew)); exact HO189.out⟩, ⟨by repeat (first | (with_reducible first | exact HB.out | apply below_alloc | apply pw_below_drewN | apply below_drew1) | exact HB.out)⟩⟩
              · rw [if_neg c7] at H
                exact absurd H (by simp)
            · rw [if_neg c6] at H
              have c6b0 : decide ((bt a0 x4_1) ≤ 90) = false := decide_eq_false c6
              clear c6
              by_cases c9 : x3_1.length < 140737488355328
              · rw [if_pos c9] at H
                have LMc9 := Aside0.mk c9
                clear c9
                obtain ⟨y190, hy190⟩ : ∃ y_ : List Int, y_ = (x3_1 ++ [bt a0 x4_1]) := ⟨_, rfl⟩
                replace H : (newelref01_Lower.l0 k1 a0 y190 (wrap64 (x4_1 + 1))) = some r := by first | (rw [hy190]; with_reducible exact H) | (have H2_ := (Option.bind_some _ _).symm.trans H; rw [hy190]; with_reducible exact H2_) | (have H2_ := (Option.bind_some _ _).symm.trans H; with_reducible exact H2_) | with_reducible exact H | (rw [hy190]; exact H) | exact H
                have Ny190 := Aside0.mk hy190
                clear hy190
                have H' := Aside0.mk H
                clear H
                have p4 : 0 ≤ (x4_1 : Int) := of_decide_eq_true (by first | (with_reducible assumption) | assumption)
                have q4 : x4_1 < (a0.size : Int) := of_decide_eq_true (by first | (with_reducible assumption) | assumption)
                have hx4 := bt_at a0 x4_1
                replace p4 := eq_true p4
                replace q4 := eq_true q4
                go_wp2_with (first | ((with_reducible refine gate_builtin (b := .append) (xs := #[.tmp 23, .tmp 25]) rfl ?_); at_builtin; refine Kd.R_append (Kd.int .u8) (w0 := w) w.heap.size rfl (.tmp 23) (.tmp 25) 30 5 (.int .u8 0) 1 rfl Tryd.underlying30 info5 rfl (by decide) (by omega) u3 x3_1 (bt a0 x4_1) [.int .u8 (bt a0 x4_1)] (fun _ => True) (fun _ => False) rfl rfl ?aP (fun _ hk => hk.elim) ?aF ?aO ?aB ?aS ?aL ?_; (case aP => exact rfl); (case aB => exact (by repeat (first | (with_reducible first | exact HB.out | apply below_alloc | apply pw_below_drewN | apply below_drew1) | exact HB.out))); (case aF => exact (fun _ _ => trivial)); (case aO => exact (by (with_reducible repeat (first | apply Kd.R_alloc | apply Kd.R_drewN | apply Kd.R_drew)); exact HO_3.out)); (case aS => exact (below_size (by repeat (first | (with_reducible first | exact HB.out | apply below_alloc | apply pw_below_drewN | apply below_drew1) | exact HB.out)))); (case aL => have := LMc9.out; omega); intro v191 w10 ho hb hg hat; rw [← Ny190.out] at ho; have n0_ := Aside0.mk (hb); have n1_ := Aside0.mk (ho); clear HB; clear HO_3; have HB := n0_; have HO192 := n1_; clear n0_ n1_; clear ho hb hg hat))
                go_roundg k1
                case measure => have := HK1.out; omega
                case rel => exact ⟨(y190), (wrap64 (x4_1 + 1)), (by first | rfl | (simp; done) | (simp [*]; done) | (simp; exact isEmpty_bne _)), H', ⟨by have := HK1.out; omega⟩, ⟨by (with_reducible repeat (first | apply Kd.R_alloc | apply Kd.R_drewN | apply Kd.R_drew)); exact HO192.out⟩, ⟨by repeat (first | (with_reducible first | exact HB.out | apply below_alloc | apply pw_below_drewN | apply below_drew1) | exact HB.out)⟩⟩
              · rw [if_neg c9] at H
                exact absurd H (by simp)
          · rw [if_neg c5] at H
            have c5b0 : decide (65 ≤ (bt a0 x4_1)) = false := decide_eq_false c5
            clear c5
            by_cases c11 : x3_1.length < 140737488355328
            · rw [if_pos c11] at H
              have LMc11 := Aside0.mk c11
              clear c11
              obtain ⟨y193, hy193⟩ : ∃ y_ : List Int, y_ = (x3_1 ++ [bt a0 x4_1]) := ⟨_, rfl⟩
              replace H : (newelref01_Lower.l0 k1 a0 y193 (wrap64 (x4_1 + 1))) = some r := by first | (rw [hy193]; with_reducible exact H) | (have H2_ := (Option.bind_some _ _).symm.trans H; rw [hy193]; with_reducible exact H2_) | (have H2_ := (Option.bind_some _ _).symm.trans H; with_reducible exact H2_) | with_reducible exact H | (rw [hy193]; exact H) | exact H
              have Ny193 := Aside0.mk hy193
              clear hy193
              have H' := Aside0.mk H
              clear H
              have p4 : 0 ≤ (x4_1 : Int) := of_decide_eq_true (by first | (with_reducible assumption) | assumption)
              have q4 : x4_1 < (a0.size : Int) := of_decide_eq_true (by first | (with_reducible assumption) | assumption)
              have hx4 := bt_at a0 x4_1
              replace p4 := eq_true p4
              replace q4 := eq_true q4
              go_wp2_with (first | ((with_reducible refine gate_builtin (b := .append) (xs := #[.tmp 23, .tmp 25]) rfl ?_); at_builtin; refine Kd.R_append (Kd.int .u8) (w0 := w) w.heap.size rfl (.tmp 23) (.tmp 25) 30 5 (.int .u8 0) 1 rfl Tryd.underlying30 info5 rfl (by decide) (by omega) u3 x3_1 (bt a0 x4_1) [.int .u8 (bt a0 x4_1)] (fun _ => True) (fun _ => False) rfl rfl ?aP (fun _ hk => hk.elim) ?aF ?aO ?aB ?aS ?aL ?_; (case aP => exact rfl); (case aB => exact (by repeat (first | (with_reducible first | exact HB.out | apply below_alloc | apply pw_below_drewN | apply below_drew1) | exact HB.out))); (case aF => exact (fun _ _ => trivial)); (case aO => exact (by (with_reducible repeat (first | apply Kd.R_alloc | apply Kd.R_drewN | apply Kd.R_drew)); exact HO_3.out)); (case aS => exact (below_size (by repeat (first | (with_reducible first | exact HB.out | apply below_alloc | apply pw_below_drewN | apply below_drew1) | exact HB.out)))); (case aL => have := LMc11.out; omega); intro v194 w12 ho hb hg hat; rw [← Ny193.out] at ho; have n0_ := Aside0.mk (hb); have n1_ := Aside0.mk (ho); clear HB; clear HO_3; have HB := n0_; have HO195 := n1_; clear n0_ n1_; clear ho hb hg hat))
              go_roundg k1
              case measure => have := HK1.out; omega
              case rel => exact ⟨(y193), (wrap64 (x4_1 + 1)), (by first | rfl | (simp; done) | (simp [*]; done) | (simp; exact isEmpty_bne _)), H', ⟨by have := HK1.out; omega⟩, ⟨by (with_reducible repeat (first | apply Kd.R_alloc | apply Kd.R_drewN | apply Kd.R_drew)); exact HO195.out⟩, ⟨by repeat (first | (with_reducible first | exact HB.out | apply below_alloc | apply pw_below_drewN | apply below_drew1) | exact HB.out)⟩⟩
            · rw [if_neg c11] at H
              exact absurd H (by simp)
        · rw [if_neg c3] at H
          exact absurd H (by simp)
      · rw [if_neg c2] at H
        have c2b0 : decide (x4_1 < (a0.size : Int)) = false := decide_eq_false c2
        clear c2
        obtain rfl := Option.some.inj H
        have hcv13 := own_string (P := Tryd.prog) Tryd.underlying30 Tryd.underlying5 Tryd.underlying9 (Kd.own_of_R HO_3.out)
        go_wp2
        go_ret
        exact ⟨by first | rfl | (simp [errW_none, errW_some] <;> rfl) | (simp [*, errW_none, errW_some] <;> rfl), by repeat (first | (with_reducible first | exact HB.out | apply below_alloc | apply pw_below_drewN | apply below_drew1) | exact HB.out)⟩

end Go.Proofs.YtgdjfcmmpjcaaaaDoor.Q
