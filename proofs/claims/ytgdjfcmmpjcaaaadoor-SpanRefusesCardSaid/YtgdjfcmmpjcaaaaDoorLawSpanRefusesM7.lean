/- Texts put together: what functions of the program compute, and plain words about them. -/
import Derived.Test.YtgdjfcmmpjcaaaaDoorLawSpanRefusesM1
import Derived.Test.YtgdjfcmmpjcaaaaDoorLawSpanRefusesM6
import Derived.Test.YtgdjfcmmpjcaaaaDoorLawSpanRefusesM4
import Derived.Test.YtgdjfcmmpjcaaaaDoorProg
import Derived.Test.YtgdjfcmmpjcaaaaDoorRows
import Derived.ChangeArms
import Derived.Deep.DeepHandedRow
import Derived.Shelf.Vars
import Derived.Below
import Derived.Deep.Draws
import Derived.Deep.AppendLies
import Derived.Maps.AppendAt
import Derived.OwnWalk
import Derived.Laws.BytesArg
import Derived.Laws.MakeOwn
import Derived.Laws.OwnMore
import Derived.Deep.OwnRows
import Derived.Tactics
import Derived.Lib.ConvBytes
import Derived.Laws.Slices
import Derived.WalkKit
import Derived.KernelRfl
import Derived.RowKit3
import Derived.Deep.LoopGhost
import Derived.Deep.QuietTactic
import Derived.BigQuiet
import Derived.WideLaws
import Derived.Deep.DeepCutAuto
import Derived.Deep.CutBlock
import Derived.Deep.RegionHeld3
import Derived.Laws.Rows
import Derived.Lib.AppendStr
import Derived.ArgAppend
import Derived.Laws.IdiomCopy
import Derived.OrdersHeld
import Derived.Laws.BitsLemmas
import Derived.RowKit

-- Printed by this session's wip/np.py over the kit's print program. Not trusted: Lean checks it.
namespace Go.Proofs.YtgdjfcmmpjcaaaaDoor.Q
open Go.RowKit Go.Proofs.YtgdjfcmmpjcaaaaDoorW.PrintWords Go.Proofs.YtgdjfcmmpjcaaaaDoorW.PrintLast Go.Proofs.YtgdjfcmmpjcaaaaDoorW.Own Go.Proofs.YtgdjfcmmpjcaaaaDoorW.PrintMore
attribute [local go_sem] max2_int min2_int max_two min_two max_three min_three max_four min_four
set_option linter.unusedVariables false
set_option linter.unusedSimpArgs false

/-! ### span_Text: function 59 -/
def span_Text.l0 : Nat → List ByteArray → List (S58) → Int → Int → Option (ByteArray)
  | 0, _, _, _, _ => none
  | k + 1, x3, x7, x8, x9 => if x9 < x8 then (if 0 ≤ x9 then (if x9 < (x7.length : Int) then (if ((rd_T58 x7 x9).f0).size + 1 ≤ 9223372036854775807 then (if (((rd_T58 x7 x9).f0) ++ (⟨#[44]⟩ : ByteArray)).size + ((rd_T58 x7 x9).f1).size ≤ 9223372036854775807 then (if ((rd_T58 x7 x9).f0).toList = ((rd_T58 x7 x9).f1).toList then (if (rd_T58 x7 x9).f2 = true then (if (rd_T58 x7 x9).f3 = true then ((span_mark.f ((rd_T58 x7 x9).f2) (⟨#[91]⟩ : ByteArray) (⟨#[40]⟩ : ByteArray)).bind fun t761 => (if t761.size + ((rd_T58 x7 x9).f0).size ≤ 9223372036854775807 then ((span_mark.f ((rd_T58 x7 x9).f3) (⟨#[93]⟩ : ByteArray) (⟨#[41]⟩ : ByteArray)).bind fun t762 => (if (t761 ++ ((rd_T58 x7 x9).f0)).size + t762.size ≤ 9223372036854775807 then (if x3.length < 8796093022208 then (span_Text.l0 k (x3 ++ [(t761 ++ ((rd_T58 x7 x9).f0)) ++ t762]) x7 x8 (wrap64 (x9 + 1))) else (none)) else (none))) else (none))) else ((span_mark.f ((rd_T58 x7 x9).f2) (⟨#[91]⟩ : ByteArray) (⟨#[40]⟩ : ByteArray)).bind fun t766 => (if t766.size + ((((rd_T58 x7 x9).f0) ++ (⟨#[44]⟩ : ByteArray)) ++ ((rd_T58 x7 x9).f1)).size ≤ 9223372036854775807 then ((span_mark.f ((rd_T58 x7 x9).f3) (⟨#[93]⟩ : ByteArray) (⟨#[41]⟩ : ByteArray)).bind fun t767 => (if (t766 ++ ((((rd_T58 x7 x9).f0) ++ (⟨#[44]⟩ : ByteArray)) ++ ((rd_T58 x7 x9).f1))).size + t767.size ≤ 9223372036854775807 then (if x3.length < 8796093022208 then (span_Text.l0 k (x3 ++ [(t766 ++ ((((rd_T58 x7 x9).f0) ++ (⟨#[44]⟩ : ByteArray)) ++ ((rd_T58 x7 x9).f1))) ++ t767]) x7 x8 (wrap64 (x9 + 1))) else (none)) else (none))) else (none)))) else ((span_mark.f ((rd_T58 x7 x9).f2) (⟨#[91]⟩ : ByteArray) (⟨#[40]⟩ : ByteArray)).bind fun t771 => (if t771.size + ((((rd_T58 x7 x9).f0) ++ (⟨#[44]⟩ : ByteArray)) ++ ((rd_T58 x7 x9).f1)).size ≤ 9223372036854775807 then ((span_mark.f ((rd_T58 x7 x9).f3) (⟨#[93]⟩ : ByteArray) (⟨#[41]⟩ : ByteArray)).bind fun t772 => (if (t771 ++ ((((rd_T58 x7 x9).f0) ++ (⟨#[44]⟩ : ByteArray)) ++ ((rd_T58 x7 x9).f1))).size + t772.size ≤ 9223372036854775807 then (if x3.length < 8796093022208 then (span_Text.l0 k (x3 ++ [(t771 ++ ((((rd_T58 x7 x9).f0) ++ (⟨#[44]⟩ : ByteArray)) ++ ((rd_T58 x7 x9).f1))) ++ t772]) x7 x8 (wrap64 (x9 + 1))) else (none)) else (none))) else (none)))) else ((span_mark.f ((rd_T58 x7 x9).f2) (⟨#[91]⟩ : ByteArray) (⟨#[40]⟩ : ByteArray)).bind fun t776 => (if t776.size + ((((rd_T58 x7 x9).f0) ++ (⟨#[44]⟩ : ByteArray)) ++ ((rd_T58 x7 x9).f1)).size ≤ 9223372036854775807 then ((span_mark.f ((rd_T58 x7 x9).f3) (⟨#[93]⟩ : ByteArray) (⟨#[41]⟩ : ByteArray)).bind fun t777 => (if (t776 ++ ((((rd_T58 x7 x9).f0) ++ (⟨#[44]⟩ : ByteArray)) ++ ((rd_T58 x7 x9).f1))).size + t777.size ≤ 9223372036854775807 then (if x3.length < 8796093022208 then (span_Text.l0 k (x3 ++ [(t776 ++ ((((rd_T58 x7 x9).f0) ++ (⟨#[44]⟩ : ByteArray)) ++ ((rd_T58 x7 x9).f1))) ++ t777]) x7 x8 (wrap64 (x9 + 1))) else (none)) else (none))) else (none)))) else (none)) else (none)) else (none)) else (none)) else ((strings_Join.f x3 (⟨#[44]⟩ : ByteArray)).bind fun t781 => (some t781))
def span_Text.f (k : Nat) (l0 : List (S58)) : Option (ByteArray) := span_Text.l0 k ([] : List ByteArray) l0 (l0.length : Int) 0
theorem span_Text.mono_l : ∀ k, (∀ y0 y1 y2 y3, LeO (span_Text.l0 k y0 y1 y2 y3) (span_Text.l0 (k + 1) y0 y1 y2 y3))
  | 0 => fun _ _ _ _ r h => by simp [span_Text.l0] at h
  | k + 1 => by
    have ih0 := span_Text.mono_l k
    · intro y0 y1 y2 y3
      unfold span_Text.l0
      repeat' first
      | (with_reducible exact ih0 _ _ _ _)
      | (with_reducible exact LeO.refl _)
      | (with_reducible exact LeO.none _)
      | (with_reducible refine LeO.ite ?_ ?_)
      | (with_reducible refine LeO.bind ?_ (fun _ => ?_))
      | exact ih0 _ _ _ _
      | exact LeO.none _
      | refine LeO.ite ?_ ?_
      | refine LeO.bind ?_ (fun _ => ?_)
theorem span_Text.mono : ∀ a0 k, LeO (span_Text.f k a0) (span_Text.f (k + 1) a0) := by
  intro a0 k
  have ih0 := span_Text.mono_l k
  unfold span_Text.f
  repeat' first
      | (with_reducible exact ih0 _ _ _ _)
      | (with_reducible exact LeO.refl _)
      | (with_reducible exact LeO.none _)
      | (with_reducible refine LeO.ite ?_ ?_)
      | (with_reducible refine LeO.bind ?_ (fun _ => ?_))
      | exact ih0 _ _ _ _
      | exact LeO.none _
      | refine LeO.ite ?_ ?_
      | refine LeO.bind ?_ (fun _ => ?_)
def span_Text.T8 : Bool × List (List Nat × List Nat) := (true, [([], []), ([], []), ([1], [1]), ([2], [2]), ([], []), ([3, 4], [3, 4]), ([], []), ([6], [6]), ([7, 3], [7]), ([5, 8], [5, 8]), ([9], [9]), ([0, 10, 8], [0, 10]), ([11, 11, 0, 1, 2, 3, 4, 5, 6, 7, 8, 9, 10, 11], [0, 11])])
def span_Text.B8 : List Nat := [0, 0, 2, 6, 0, 30, 0, 64, 206, 510, 1022, 2047, 4095]
theorem span_Text.tab8 : rtab .any (opsOf Tryd.f59 8) = span_Text.T8 := by kernel_rfl
theorem span_Text.bits8 : waitsOk span_Text.T8.2 span_Text.B8 = true := by kernel_rfl
set_option maxHeartbeats 8000000 in
set_option maxRecDepth 100000 in
theorem span_Text.calls (k : Nat) (A0 : Option Addr) (c0 : Nat) (l0 : List (S58)) (r : ByteArray) (w : World) (hr0 : Kd.C k58 w A0 l0.length l0) (hc0 : l0.length ≤ c0) (hG : Glob w) (h : span_Text.f k l0 = some r) :
    Calls Tryd.prog 59 #[.slice A0 l0.length c0] w fun e w' => e = .returned (.string r) ∧ Below w.heap.size w w' := by
  have hu58 := Tryd.underlying58
  have HG := Aside0.mk hG
  clear hG
  have HR0 := Aside0.mk hr0
  have HC0 := Aside0.mk hc0
  clear hr0 hc0
  have HB := Aside0.mk (Below.refl w.heap.size w)
  have H : (span_Text.l0 k ([] : List ByteArray) l0 (l0.length : Int) 0) = some r := h
  clear h
  have H' := Aside0.mk H
  clear H
  go_enter Tryd.func59, Tryd.ntmps59
  go_wp2
  go_loopg [3, 9] k (fun kq v3 v9 w' => ∃ (x3_1 : List ByteArray) (x9_1 : Int), v9 = .int .i64 x9_1 ∧ Aside0 (span_Text.l0 kq x3_1 l0 (l0.length : Int) x9_1 = some r) ∧ Aside0 (kq ≤ k) ∧ Aside0 (Kd.R Kd.string 9 w' w.heap.size (fun _ => True) v3 x3_1) ∧ Aside0 (Below w.heap.size w w'))
  case atStart => exact ⟨(([] : List ByteArray)), (0), (by first | rfl | (simp; done) | (simp [*]; done) | (simp; exact isEmpty_bne _)), H', ⟨Nat.le_refl _⟩, ⟨by first | exact Kd.R_nil _ _ _ _ _ | exact Kd.N_nil _ _ _ _ _ | exact Kd.V_nil _ _ _ _ _ | exact Kd.Q_nil _ _ _ _ _ | exact Kd.S_nil _ _ _ _ _⟩, ⟨by repeat (first | (with_reducible first | exact HB.out | apply below_alloc | apply pw_below_drewN | apply below_drew1) | exact HB.out)⟩⟩
  case round =>
    clear H'
    obtain ⟨x3_1, x9_1, rfl, HA, HK1, HO_3, HB⟩ := hrel
    cases gk with
    | zero => exact absurd HA.out (by simp [span_Text.l0])
    | succ k1 =>
      have H := HA.out
      clear HA
      simp only [span_Text.l0] at H
      (try simp only [toList_lit] at H)
      by_cases c2 : x9_1 < (l0.length : Int)
      · rw [if_pos c2] at H
        have c2b0 : decide (x9_1 < (l0.length : Int)) = true := decide_eq_true c2
        clear c2
        by_cases c3 : 0 ≤ x9_1
        · rw [if_pos c3] at H
          have c3b0 : decide (0 ≤ x9_1) = true := decide_eq_true c3
          clear c3
          by_cases c4 : x9_1 < (l0.length : Int)
          · rw [if_pos c4] at H
            have c4b0 : decide (x9_1 < (l0.length : Int)) = true := decide_eq_true c4
            clear c4
            by_cases c5 : ((rd_T58 l0 x9_1).f0).size + 1 ≤ 9223372036854775807
            · rw [if_pos c5] at H
              have c5b0 := eq_true c5
              have c5b1 : decide (((rd_T58 l0 x9_1).f0).size + 1 ≤ 9223372036854775807) = true := decide_eq_true c5
              try have c5b2 : (9223372036854775807 < ((rd_T58 l0 x9_1).f0).size + 1) = False := eq_false (Nat.not_lt.2 c5)
              by_cases c6 : (((rd_T58 l0 x9_1).f0) ++ (⟨#[44]⟩ : ByteArray)).size + ((rd_T58 l0 x9_1).f1).size ≤ 9223372036854775807
              · rw [if_pos c6] at H
                have c6b0 := eq_true c6
                have c6b1 : decide ((((rd_T58 l0 x9_1).f0) ++ (⟨#[44]⟩ : ByteArray)).size + ((rd_T58 l0 x9_1).f1).size ≤ 9223372036854775807) = true := decide_eq_true c6
                try have c6b2 : (9223372036854775807 < (((rd_T58 l0 x9_1).f0) ++ (⟨#[44]⟩ : ByteArray)).size + ((rd_T58 l0 x9_1).f1).size) = False := eq_false (Nat.not_lt.2 c6)
                have c6n : (((rd_T58 l0 x9_1).f0).size + 1) + ((rd_T58 l0 x9_1).f1).size ≤ 9223372036854775807 := by have z_ := c6; simp only [ByteArray.size_append] at z_; exact z_
                have c6m : (9223372036854775807 < (((rd_T58 l0 x9_1).f0).size + 1) + ((rd_T58 l0 x9_1).f1).size) = False := eq_false (Nat.not_lt.2 c6n)
                clear c6 c6b0 c6b1
                try clear c6b2
                by_cases c7 : ((rd_T58 l0 x9_1).f0).toList = ((rd_T58 l0 x9_1).f1).toList
                · rw [if_pos c7] at H
                  have c7b0 : (((rd_T58 l0 x9_1).f0).toList == ((rd_T58 l0 x9_1).f1).toList) = true := beq_iff_eq.mpr c7
                  have c7b1 : (((rd_T58 l0 x9_1).f0).toList != ((rd_T58 l0 x9_1).f1).toList) = false := bne_eq_false_iff_eq.mpr c7
                  clear c7
                  obtain ⟨bq8, hbq8⟩ : ∃ b_ : Bool, b_ = ((rd_T58 l0 x9_1).f2) := ⟨_, rfl⟩
                  replace H : (if bq8 = true then (if (rd_T58 l0 x9_1).f3 = true then ((span_mark.f (bq8) (⟨#[91]⟩ : ByteArray) (⟨#[40]⟩ : ByteArray)).bind fun t761 => (if t761.size + ((rd_T58 l0 x9_1).f0).size ≤ 9223372036854775807 then ((span_mark.f ((rd_T58 l0 x9_1).f3) (⟨#[93]⟩ : ByteArray) (⟨#[41]⟩ : ByteArray)).bind fun t762 => (if (t761 ++ ((rd_T58 l0 x9_1).f0)).size + t762.size ≤ 9223372036854775807 then (if x3_1.length < 8796093022208 then (span_Text.l0 k1 (x3_1 ++ [(t761 ++ ((rd_T58 l0 x9_1).f0)) ++ t762]) l0 (l0.length : Int) (wrap64 (x9_1 + 1))) else (none)) else (none))) else (none))) else ((span_mark.f (bq8) (⟨#[91]⟩ : ByteArray) (⟨#[40]⟩ : ByteArray)).bind fun t766 => (if t766.size + ((((rd_T58 l0 x9_1).f0) ++ (⟨#[44]⟩ : ByteArray)) ++ ((rd_T58 l0 x9_1).f1)).size ≤ 9223372036854775807 then ((span_mark.f ((rd_T58 l0 x9_1).f3) (⟨#[93]⟩ : ByteArray) (⟨#[41]⟩ : ByteArray)).bind fun t767 => (if (t766 ++ ((((rd_T58 l0 x9_1).f0) ++ (⟨#[44]⟩ : ByteArray)) ++ ((rd_T58 l0 x9_1).f1))).size + t767.size ≤ 9223372036854775807 then (if x3_1.length < 8796093022208 then (span_Text.l0 k1 (x3_1 ++ [(t766 ++ ((((rd_T58 l0 x9_1).f0) ++ (⟨#[44]⟩ : ByteArray)) ++ ((rd_T58 l0 x9_1).f1))) ++ t767]) l0 (l0.length : Int) (wrap64 (x9_1 + 1))) else (none)) else (none))) else (none)))) else ((span_mark.f (bq8) (⟨#[91]⟩ : ByteArray) (⟨#[40]⟩ : ByteArray)).bind fun t771 => (if t771.size + ((((rd_T58 l0 x9_1).f0) ++ (⟨#[44]⟩ : ByteArray)) ++ ((rd_T58 l0 x9_1).f1)).size ≤ 9223372036854775807 then ((span_mark.f ((rd_T58 l0 x9_1).f3) (⟨#[93]⟩ : ByteArray) (⟨#[41]⟩ : ByteArray)).bind fun t772 => (if (t771 ++ ((((rd_T58 l0 x9_1).f0) ++ (⟨#[44]⟩ : ByteArray)) ++ ((rd_T58 l0 x9_1).f1))).size + t772.size ≤ 9223372036854775807 then (if x3_1.length < 8796093022208 then (span_Text.l0 k1 (x3_1 ++ [(t771 ++ ((((rd_T58 l0 x9_1).f0) ++ (⟨#[44]⟩ : ByteArray)) ++ ((rd_T58 l0 x9_1).f1))) ++ t772]) l0 (l0.length : Int) (wrap64 (x9_1 + 1))) else (none)) else (none))) else (none)))) = some r := by rw [← hbq8] at H; exact H
                  have Nbq8 := Aside0.mk hbq8
                  clear hbq8
                  by_cases c9 : bq8 = true
                  · subst c9
                    have H1 : (if (rd_T58 l0 x9_1).f3 = true then ((span_mark.f (true) (⟨#[91]⟩ : ByteArray) (⟨#[40]⟩ : ByteArray)).bind fun t761 => (if t761.size + ((rd_T58 l0 x9_1).f0).size ≤ 9223372036854775807 then ((span_mark.f ((rd_T58 l0 x9_1).f3) (⟨#[93]⟩ : ByteArray) (⟨#[41]⟩ : ByteArray)).bind fun t762 => (if (t761 ++ ((rd_T58 l0 x9_1).f0)).size + t762.size ≤ 9223372036854775807 then (if x3_1.length < 8796093022208 then (span_Text.l0 k1 (x3_1 ++ [(t761 ++ ((rd_T58 l0 x9_1).f0)) ++ t762]) l0 (l0.length : Int) (wrap64 (x9_1 + 1))) else (none)) else (none))) else (none))) else ((span_mark.f (true) (⟨#[91]⟩ : ByteArray) (⟨#[40]⟩ : ByteArray)).bind fun t766 => (if t766.size + ((((rd_T58 l0 x9_1).f0) ++ (⟨#[44]⟩ : ByteArray)) ++ ((rd_T58 l0 x9_1).f1)).size ≤ 9223372036854775807 then ((span_mark.f ((rd_T58 l0 x9_1).f3) (⟨#[93]⟩ : ByteArray) (⟨#[41]⟩ : ByteArray)).bind fun t767 => (if (t766 ++ ((((rd_T58 l0 x9_1).f0) ++ (⟨#[44]⟩ : ByteArray)) ++ ((rd_T58 l0 x9_1).f1))).size + t767.size ≤ 9223372036854775807 then (if x3_1.length < 8796093022208 then (span_Text.l0 k1 (x3_1 ++ [(t766 ++ ((((rd_T58 l0 x9_1).f0) ++ (⟨#[44]⟩ : ByteArray)) ++ ((rd_T58 l0 x9_1).f1))) ++ t767]) l0 (l0.length : Int) (wrap64 (x9_1 + 1))) else (none)) else (none))) else (none)))) = some r := by rw [if_pos rfl] at H; exact H
                    clear H
                    have H := H1
                    clear H1
                    obtain ⟨bq10, hbq10⟩ : ∃ b_ : Bool, b_ = ((rd_T58 l0 x9_1).f3) := ⟨_, rfl⟩
                    replace H : (if bq10 = true then ((span_mark.f (true) (⟨#[91]⟩ : ByteArray) (⟨#[40]⟩ : ByteArray)).bind fun t761 => (if t761.size + ((rd_T58 l0 x9_1).f0).size ≤ 9223372036854775807 then ((span_mark.f (bq10) (⟨#[93]⟩ : ByteArray) (⟨#[41]⟩ : ByteArray)).bind fun t762 => (if (t761 ++ ((rd_T58 l0 x9_1).f0)).size + t762.size ≤ 9223372036854775807 then (if x3_1.length < 8796093022208 then (span_Text.l0 k1 (x3_1 ++ [(t761 ++ ((rd_T58 l0 x9_1).f0)) ++ t762]) l0 (l0.length : Int) (wrap64 (x9_1 + 1))) else (none)) else (none))) else (none))) else ((span_mark.f (true) (⟨#[91]⟩ : ByteArray) (⟨#[40]⟩ : ByteArray)).bind fun t766 => (if t766.size + ((((rd_T58 l0 x9_1).f0) ++ (⟨#[44]⟩ : ByteArray)) ++ ((rd_T58 l0 x9_1).f1)).size ≤ 9223372036854775807 then ((span_mark.f (bq10) (⟨#[93]⟩ : ByteArray) (⟨#[41]⟩ : ByteArray)).bind fun t767 => (if (t766 ++ ((((rd_T58 l0 x9_1).f0) ++ (⟨#[44]⟩ : ByteArray)) ++ ((rd_T58 l0 x9_1).f1))).size + t767.size ≤ 9223372036854775807 then (if x3_1.length < 8796093022208 then (span_Text.l0 k1 (x3_1 ++ [(t766 ++ ((((rd_T58 l0 x9_1).f0) ++ (⟨#[44]⟩ : ByteArray)) ++ ((rd_T58 l0 x9_1).f1))) ++ t767]) l0 (l0.length : Int) (wrap64 (x9_1 + 1))) else (none)) else (none))) else (none)))) = some r := by rw [← hbq10] at H; exact H
                    have Nbq10 := Aside0.mk hbq10
                    clear hbq10
                    by_cases c11 : bq10 = true
                    · subst c11
                      have H1 : ((span_mark.f (true) (⟨#[91]⟩ : ByteArray) (⟨#[40]⟩ : ByteArray)).bind fun t761 => (if t761.size + ((rd_T58 l0 x9_1).f0).size ≤ 9223372036854775807 then ((span_mark.f (true) (⟨#[93]⟩ : ByteArray) (⟨#[41]⟩ : ByteArray)).bind fun t762 => (if (t761 ++ ((rd_T58 l0 x9_1).f0)).size + t762.size ≤ 9223372036854775807 then (if x3_1.length < 8796093022208 then (span_Text.l0 k1 (x3_1 ++ [(t761 ++ ((rd_T58 l0 x9_1).f0)) ++ t762]) l0 (l0.length : Int) (wrap64 (x9_1 + 1))) else (none)) else (none))) else (none))) = some r := by rw [if_pos rfl] at H; exact H
                      clear H
                      have H := H1
                      clear H1
                      replace H := Option.bind_eq_some_iff.mp H
                      obtain ⟨t761, A120, H⟩ := H
                      replace H : (if t761.size + ((rd_T58 l0 x9_1).f0).size ≤ 9223372036854775807 then ((span_mark.f (true) (⟨#[93]⟩ : ByteArray) (⟨#[41]⟩ : ByteArray)).bind fun t762 => (if (t761 ++ ((rd_T58 l0 x9_1).f0)).size + t762.size ≤ 9223372036854775807 then (if x3_1.length < 8796093022208 then (span_Text.l0 k1 (x3_1 ++ [(t761 ++ ((rd_T58 l0 x9_1).f0)) ++ t762]) l0 (l0.length : Int) (wrap64 (x9_1 + 1))) else (none)) else (none))) else (none)) = some r := H
                      have A12 := Aside0.mk A120
                      clear A120
                      by_cases c13 : t761.size + ((rd_T58 l0 x9_1).f0).size ≤ 9223372036854775807
                      · rw [if_pos c13] at H
                        have c13b0 := eq_true c13
                        have c13b1 : decide (t761.size + ((rd_T58 l0 x9_1).f0).size ≤ 9223372036854775807) = true := decide_eq_true c13
                        try have c13b2 : (9223372036854775807 < t761.size + ((rd_T58 l0 x9_1).f0).size) = False := eq_false (Nat.not_lt.2 c13)
                        replace H := Option.bind_eq_some_iff.mp H
                        obtain ⟨t762, A140, H⟩ := H
                        replace H : (if (t761 ++ ((rd_T58 l0 x9_1).f0)).size + t762.size ≤ 9223372036854775807 then (if x3_1.length < 8796093022208 then (span_Text.l0 k1 (x3_1 ++ [(t761 ++ ((rd_T58 l0 x9_1).f0)) ++ t762]) l0 (l0.length : Int) (wrap64 (x9_1 + 1))) else (none)) else (none)) = some r := H
                        have A14 := Aside0.mk A140
                        clear A140
                        by_cases c15 : (t761 ++ ((rd_T58 l0 x9_1).f0)).size + t762.size ≤ 9223372036854775807
                        · rw [if_pos c15] at H
                          have c15b0 := eq_true c15
                          have c15b1 : decide ((t761 ++ ((rd_T58 l0 x9_1).f0)).size + t762.size ≤ 9223372036854775807) = true := decide_eq_true c15
                          try have c15b2 : (9223372036854775807 < (t761 ++ ((rd_T58 l0 x9_1).f0)).size + t762.size) = False := eq_false (Nat.not_lt.2 c15)
                          have c15n : (t761.size + ((rd_T58 l0 x9_1).f0).size) + t762.size ≤ 9223372036854775807 := by have z_ := c15; simp only [ByteArray.size_append] at z_; exact z_
                          have c15m : (9223372036854775807 < (t761.size + ((rd_T58 l0 x9_1).f0).size) + t762.size) = False := eq_false (Nat.not_lt.2 c15n)
                          clear c15 c15b0 c15b1
                          try clear c15b2
                          by_cases c16 : x3_1.length < 8796093022208
                          · rw [if_pos c16] at H
                            have LMc16 := Aside0.mk c16
                            clear c16
                            obtain ⟨y763, hy763⟩ : ∃ y_ : List ByteArray, y_ = (x3_1 ++ [(t761 ++ ((rd_T58 l0 x9_1).f0)) ++ t762]) := ⟨_, rfl⟩
                            replace H : (span_Text.l0 k1 y763 l0 (l0.length : Int) (wrap64 (x9_1 + 1))) = some r := by first | (rw [hy763]; with_reducible exact H) | (have H2_ := (Option.bind_some _ _).symm.trans H; rw [hy763]; with_reducible exact H2_) | (have H2_ := (Option.bind_some _ _).symm.trans H; with_reducible exact H2_) | with_reducible exact H | (rw [hy763]; exact H) | exact H
                            have Ny763 := Aside0.mk hy763
                            clear hy763
                            have H' := Aside0.mk H
                            clear H
                            have p759 : 0 ≤ (x9_1 : Int) := of_decide_eq_true (by first | (with_reducible assumption) | assumption)
                            have q759 : x9_1 < (l0.length : Int) := of_decide_eq_true (by first | (with_reducible assumption) | assumption)
                            obtain ⟨ad759, e759, hx759_0, hx759_1, hx759_2, hx759_3⟩ := at_T58 HR0.out x9_1 p759 q759
                            (try rw [← Nbq8.out] at hx759_2)
                            (try rw [← Nbq10.out] at hx759_2)
                            (try rw [← Nbq8.out] at hx759_3)
                            (try rw [← Nbq10.out] at hx759_3)
                            cases e759
                            replace hx759_0 := (HB.out.cell (World.block_lt_of_cell? w _ hx759_0)).trans hx759_0
                            replace hx759_1 := (HB.out.cell (World.block_lt_of_cell? w _ hx759_1)).trans hx759_1
                            replace hx759_2 := (HB.out.cell (World.block_lt_of_cell? w _ hx759_2)).trans hx759_2
                            replace hx759_3 := (HB.out.cell (World.block_lt_of_cell? w _ hx759_3)).trans hx759_3
                            replace p759 := eq_true p759
                            replace q759 := eq_true q759
                            try go_wp2_with (first | ((with_reducible refine gate_dst (N := 5) rfl ?_); refine box_event ?hg (N := 5) ?hd (cs := #[.string (⟨#[]⟩ : ByteArray), .string (⟨#[]⟩ : ByteArray), .bool false, .bool false]) (t := 58) ?hr ?_; (case hd => rfl); (case hg => rfl); (case hr => first | (go_simp; done) | (go_simp; rfl)); intro gb760 hg w17 hbox hb; have n0_ := Aside0.mk (Kd.R_below (by (with_reducible repeat (first | apply Kd.R_alloc | apply Kd.R_drewN | apply Kd.R_drew)); exact HO_3.out) hb); have n1_ := Aside0.mk (below_step (by repeat (first | (with_reducible first | exact HB.out | apply below_alloc | apply pw_below_drewN | apply below_drew1) | exact HB.out)) hb); have n2_ := Aside0.mk (hbox); have n3_ := Aside0.mk ((by rw [hg]; exact (below_size (by repeat (first | (with_reducible first | exact HB.out | apply below_alloc | apply pw_below_drewN | apply below_drew1) | exact HB.out))) : w.heap.size ≤ gb760)); have n4_ := Aside0.mk ((by rw [hg]; exact (below_size (by repeat (first | (with_reducible first | exact HB.out | apply below_alloc | apply pw_below_drewN | apply below_drew1) | exact HB.out))) : w.heap.size ≤ gb760)); clear HO_3; clear HB; have HO_3 := n0_; have HB := n1_; have BK760 := n2_; have GW760 := n3_; have GE760 := n4_; clear n0_ n1_ n2_ n3_ n4_; clear hb hbox hg; have hcz18_0 : w17.cell? ⟨gb760, 0, none⟩ = some (.string (⟨#[]⟩ : ByteArray)) := (blk_cell BK760.out 0).trans rfl; have hcz18_1 : w17.cell? ⟨gb760, 1, none⟩ = some (.string (⟨#[]⟩ : ByteArray)) := (blk_cell BK760.out 1).trans rfl; have hcz18_2 : w17.cell? ⟨gb760, 2, none⟩ = some (.bool false) := (blk_cell BK760.out 2).trans rfl; have hcz18_3 : w17.cell? ⟨gb760, 3, none⟩ = some (.bool false) := (blk_cell BK760.out 3).trans rfl; have hfz18_0 := blk_frozen BK760.out 0; have hfz18_1 := blk_frozen BK760.out 1; have hfz18_2 := blk_frozen BK760.out 2; have hfz18_3 := blk_frozen BK760.out 3))
                            have n0_ : Aside0 (Kd.R Kd.string 9 ((((w17.setCell ⟨gb760, 0, none⟩ (.string ((rd_T58 l0 x9_1).f0))).setCell ⟨gb760, 1, none⟩ (.string ((rd_T58 l0 x9_1).f1))).setCell ⟨gb760, 2, none⟩ (.bool true)).setCell ⟨gb760, 3, none⟩ (.bool true)) w.heap.size (fun _ => True) u3 x3_1) := ⟨by (with_reducible repeat (first | apply Kd.R_alloc | apply Kd.R_drewN | apply Kd.R_drew)); exact Kd.R_mono (Kd.R_far (p := ⟨gb760, 3, none⟩) (Kd.R_far (p := ⟨gb760, 2, none⟩) (Kd.R_far (p := ⟨gb760, 1, none⟩) (Kd.R_far (p := ⟨gb760, 0, none⟩) (Kd.R_types HO_3.out BK760.out (by decide)) (fun _ hk => hk.2) (.string ((rd_T58 l0 x9_1).f0))) (fun _ hk => hk.2) (.string ((rd_T58 l0 x9_1).f1))) (fun _ hk => hk.2) (.bool true)) (fun _ hk => hk.2) (.bool true)) (fun _ hk => trivial)⟩
                            have n1_ : Aside0 (((((w17.setCell ⟨gb760, 0, none⟩ (.string ((rd_T58 l0 x9_1).f0))).setCell ⟨gb760, 1, none⟩ (.string ((rd_T58 l0 x9_1).f1))).setCell ⟨gb760, 2, none⟩ (.bool true)).setCell ⟨gb760, 3, none⟩ (.bool true)).heap[gb760]? = some (.cells #[.string ((rd_T58 l0 x9_1).f0), .string ((rd_T58 l0 x9_1).f1), .bool true, .bool true] 58 (0, 0))) := ⟨by (with_reducible repeat (first | refine blk_drewN ?_ _ | refine blk_drew ?_ | refine blk_alloc ?_ _)); refine blk_put (cs := #[.string ((rd_T58 l0 x9_1).f0), .string ((rd_T58 l0 x9_1).f1), .bool true, .bool false]) ?_ 3 _ rfl; (with_reducible repeat (first | refine blk_drewN ?_ _ | refine blk_drew ?_ | refine blk_alloc ?_ _)); refine blk_put (cs := #[.string ((rd_T58 l0 x9_1).f0), .string ((rd_T58 l0 x9_1).f1), .bool false, .bool false]) ?_ 2 _ rfl; (with_reducible repeat (first | refine blk_drewN ?_ _ | refine blk_drew ?_ | refine blk_alloc ?_ _)); refine blk_put (cs := #[.string ((rd_T58 l0 x9_1).f0), .string (⟨#[]⟩ : ByteArray), .bool false, .bool false]) ?_ 1 _ rfl; (with_reducible repeat (first | refine blk_drewN ?_ _ | refine blk_drew ?_ | refine blk_alloc ?_ _)); refine blk_put (cs := #[.string (⟨#[]⟩ : ByteArray), .string (⟨#[]⟩ : ByteArray), .bool false, .bool false]) ?_ 0 _ rfl; (with_reducible repeat (first | refine blk_drewN ?_ _ | refine blk_drew ?_ | refine blk_alloc ?_ _)); exact BK760.out⟩
                            have n2_ : Aside0 (Below w.heap.size w ((((w17.setCell ⟨gb760, 0, none⟩ (.string ((rd_T58 l0 x9_1).f0))).setCell ⟨gb760, 1, none⟩ (.string ((rd_T58 l0 x9_1).f1))).setCell ⟨gb760, 2, none⟩ (.bool true)).setCell ⟨gb760, 3, none⟩ (.bool true))) := ⟨by repeat (first | (with_reducible first | exact HB.out | apply below_alloc | apply pw_below_drewN | apply below_drew1 | refine below_set ?_ GE760.out) | exact HB.out)⟩
                            (try clear HO_3)
                            (try clear BK760)
                            (try clear HB)
                            generalize ((((w17.setCell ⟨gb760, 0, none⟩ (.string ((rd_T58 l0 x9_1).f0))).setCell ⟨gb760, 1, none⟩ (.string ((rd_T58 l0 x9_1).f1))).setCell ⟨gb760, 2, none⟩ (.bool true)).setCell ⟨gb760, 3, none⟩ (.bool true)) = w19 at n0_ n1_ n2_ ⊢
                            have HO_3 := n0_
                            have BK760 := n1_
                            have HB := n2_
                            clear n0_ n1_ n2_
                            have n0_ := Aside0.mk (Kd.R_drew HO_3.out)
                            have n1_ := Aside0.mk (blk_drew BK760.out)
                            have n2_ := Aside0.mk (below_drew1 HB.out)
                            clear HO_3
                            clear BK760
                            clear HB
                            have HO_3 := n0_
                            have BK760 := n1_
                            have HB := n2_
                            clear n0_ n1_ n2_
                            refine start_ (n := 13) (S := fun w' => w'.cell? ⟨gb760, 0, none⟩ = some (.string ((rd_T58 l0 x9_1).f0)) ∧ w'.cell? ⟨gb760, 1, none⟩ = some (.string ((rd_T58 l0 x9_1).f1)) ∧ w'.cell? ⟨gb760, 2, none⟩ = some (.bool true) ∧ w'.cell? ⟨gb760, 3, none⟩ = some (.bool true)) (ds := []) #[false, false, false, false, false, false, false, false, false, false, false, false, false] (by kernel_rfl) rfl rfl ⟨(blk_cell BK760.out 0).trans rfl, (blk_cell BK760.out 1).trans rfl, (blk_cell BK760.out 2).trans rfl, (blk_cell BK760.out 3).trans rfl⟩ (fun hHeld => ?_); refine with_tabW span_Text.tab8 span_Text.bits8 (fun HT_ HW_ => ?_)
                            generalize w19.drew = w20 at HO_3 BK760 HB hHeld ⊢
                            refine pure_ (i := 0) (N := some 34) (v := ?_) (a' := ?_) #[true, false, false, false, false, false, false, false, false, false, false, false, false] rfl rfl (any_of HT_.out (by kernel_rfl)) (fun _ _ _ h => h) (Or.inl ⟨by rfl, ?_⟩) ?_ ?_
                            rotate_left
                            · intro w'
                              go_simp
                              with_reducible rfl
                            rotate_left
                            · simp only [Act.put, List.setIfInBounds_toArray, List.set_cons_zero, List.set_cons_succ, i64_w, i32_w]
                              rfl
                            refine pure_ (i := 1) (N := some 35) (v := ?_) (a' := ?_) #[true, true, false, false, false, false, false, false, false, false, false, false, false] rfl rfl (any_of HT_.out (by kernel_rfl)) (fun _ _ _ h => h) (Or.inl ⟨by rfl, ?_⟩) ?_ ?_
                            rotate_left
                            · intro w'
                              go_simp
                              with_reducible rfl
                            rotate_left
                            · simp only [Act.put, List.setIfInBounds_toArray, List.set_cons_zero, List.set_cons_succ, i64_w, i32_w]
                              rfl
                            refine pure_ (i := 4) (N := some 38) (v := ?_) (a' := ?_) #[true, true, false, false, true, false, false, false, false, false, false, false, false] rfl rfl (any_of HT_.out (by kernel_rfl)) (fun _ _ _ h => h) (Or.inl ⟨by rfl, ?_⟩) ?_ ?_
                            rotate_left
                            · intro w'
                              go_simp
                              with_reducible rfl
                            rotate_left
                            · simp only [Act.put, List.setIfInBounds_toArray, List.set_cons_zero, List.set_cons_succ, i64_w, i32_w]
                              rfl
                            refine pure_ (i := 6) (N := some 40) (v := ?_) (a' := ?_) #[true, true, false, false, true, false, true, false, false, false, false, false, false] rfl rfl (any_of HT_.out (by kernel_rfl)) (fun _ _ _ h => h) (Or.inl ⟨by rfl, ?_⟩) ?_ ?_
                            rotate_left
                            · intro w'
                              go_simp
                              with_reducible rfl
                            rotate_left
                            · simp only [Act.put, List.setIfInBounds_toArray, List.set_cons_zero, List.set_cons_succ, i64_w, i32_w]
                              rfl
                            refine take_ (i := 2) (N := some 36) (v := ?_) (a' := ?_) #[true, true, true, false, true, false, true, false, false, false, false, false, false] rfl rfl (take_ofW HT_.out HW_.out (by kernel_rfl)) (fun _ _ _ h => h) (Or.inl ⟨by rfl, ?_⟩) hHeld ?_ ?_
                            rotate_left
                            · rintro w' ⟨s0, s1, s2, s3⟩
                              go_simp
                              with_reducible rfl
                            rotate_left
                            · simp only [Act.put, List.setIfInBounds_toArray, List.set_cons_zero, List.set_cons_succ, i64_w, i32_w]
                              rfl
                            refine take_ (i := 7) (N := some 41) (v := ?_) (a' := ?_) #[true, true, true, false, true, false, true, true, false, false, false, false, false] rfl rfl (take_ofW HT_.out HW_.out (by kernel_rfl)) (fun _ _ _ h => h) (Or.inl ⟨by rfl, ?_⟩) hHeld ?_ ?_
                            rotate_left
                            · rintro w' ⟨s0, s1, s2, s3⟩
                              go_simp
                              with_reducible rfl
                            rotate_left
                            · simp only [Act.put, List.setIfInBounds_toArray, List.set_cons_zero, List.set_cons_succ, i64_w, i32_w]
                              rfl
                            refine one_ (i := 3) (N := some 37) #[true, true, true, true, true, false, true, true, false, false, false, false, false] rfl rfl (one_of HT_.out (by kernel_rfl)) (by decide) (fun K hK => ?_)
                            refine goes_ Tryd.func98 (by kernel_rfl) rfl #[.bool true, .string (⟨#[91]⟩ : ByteArray), .string (⟨#[40]⟩ : ByteArray)] (by rfl) rfl rfl (by (try simp only [List.map_toArray, List.map_cons, List.map_nil]); first | done | rfl | (simp only [List.length_drop, List.length_take]; rfl)) ?_
                            with_reducible refine (span_mark.calls true (⟨#[91]⟩ : ByteArray) (⟨#[40]⟩ : ByteArray) t761 _ ?side1 A12.out).mono ?_
                            (case side1 => exact Glob.step HG.out (by repeat (first | (with_reducible first | exact HB.out | apply below_alloc | apply pw_below_drewN | apply below_drew1 | refine below_set ?_ GE760.out) | exact HB.out)))
                            rintro e w' ⟨rfl, ⟨nd, rfl⟩⟩
                            refine ⟨_, rfl, ?_⟩
                            refine hK.out _ _ ⟨(blk_cell BK760.out 0).trans rfl, (blk_cell BK760.out 1).trans rfl, (blk_cell BK760.out 2).trans rfl, (blk_cell BK760.out 3).trans rfl⟩ (fun hHeld => ?_)
                            clear hK K
                            refine norm_ (a' := ?_) ?_ ?_
                            rotate_left
                            · show Act.put _ (some 37) _ = _
                              simp only [Act.put, List.setIfInBounds_toArray, List.set_cons_zero, List.set_cons_succ, i64_w, i32_w]
                              rfl
                            refine pure_ (i := 5) (N := some 39) (v := ?_) (a' := ?_) #[true, true, true, true, true, true, true, true, false, false, false, false, false] rfl rfl (any_of HT_.out (by kernel_rfl)) (fun _ _ _ h => h) (Or.inl ⟨by rfl, ?_⟩) ?_ ?_
                            rotate_left
                            · intro w'
                              go_simp
                              with_reducible rfl
                            rotate_left
                            · simp only [Act.put, List.setIfInBounds_toArray, List.set_cons_zero, List.set_cons_succ, i64_w, i32_w]
                              rfl
                            refine one_ (i := 8) (N := some 42) #[true, true, true, true, true, true, true, true, true, false, false, false, false] rfl rfl (one_of HT_.out (by kernel_rfl)) (by decide) (fun K hK => ?_)
                            refine goes_ Tryd.func98 (by kernel_rfl) rfl #[.bool true, .string (⟨#[93]⟩ : ByteArray), .string (⟨#[41]⟩ : ByteArray)] (by rfl) rfl rfl (by (try simp only [List.map_toArray, List.map_cons, List.map_nil]); first | done | rfl | (simp only [List.length_drop, List.length_take]; rfl)) ?_
                            with_reducible refine (span_mark.calls true (⟨#[93]⟩ : ByteArray) (⟨#[41]⟩ : ByteArray) t762 _ ?side1 A14.out).mono ?_
                            (case side1 => exact Glob.step HG.out (by repeat (first | (with_reducible first | exact HB.out | apply below_alloc | apply pw_below_drewN | apply below_drew1 | refine below_set ?_ GE760.out) | exact HB.out)))
                            rintro e w' ⟨rfl, ⟨nd, rfl⟩⟩
                            refine ⟨_, rfl, ?_⟩
                            refine hK.out _ _ ⟨(blk_cell BK760.out 0).trans rfl, (blk_cell BK760.out 1).trans rfl, (blk_cell BK760.out 2).trans rfl, (blk_cell BK760.out 3).trans rfl⟩ (fun hHeld => ?_)
                            clear hK K
                            refine norm_ (a' := ?_) ?_ ?_
                            rotate_left
                            · show Act.put _ (some 42) _ = _
                              simp only [Act.put, List.setIfInBounds_toArray, List.set_cons_zero, List.set_cons_succ, i64_w, i32_w]
                              rfl
                            refine pure_ (i := 9) (N := some 43) (v := ?_) (a' := ?_) #[true, true, true, true, true, true, true, true, true, true, false, false, false] rfl rfl (any_of HT_.out (by kernel_rfl)) (fun _ _ _ h => h) (Or.inl ⟨by rfl, ?_⟩) ?_ ?_
                            rotate_left
                            · intro w'
                              go_simp
                              with_reducible rfl
                            rotate_left
                            · simp only [Act.put, List.setIfInBounds_toArray, List.set_cons_zero, List.set_cons_succ, i64_w, i32_w]
                              rfl
                            refine one_ (i := 10) (N := some 44) #[true, true, true, true, true, true, true, true, true, true, true, false, false] rfl rfl (one_of HT_.out (by kernel_rfl)) (by decide) (fun K hK => ?_)
                            refine value_ (w1 := ?_) (v := ?_) (by rfl) rfl ?_ ?_
                            rotate_left 2
                            · go_simp
                              constructor
                              · rfl
                              · rfl
                            refine hK.out _ _ ⟨(blk_cell (blk_alloc BK760.out _) 0).trans rfl, (blk_cell (blk_alloc BK760.out _) 1).trans rfl, (blk_cell (blk_alloc BK760.out _) 2).trans rfl, (blk_cell (blk_alloc BK760.out _) 3).trans rfl⟩ (fun hHeld => ?_)
                            clear hK K
                            refine norm_ (a' := ?_) ?_ ?_
                            rotate_left
                            · show Act.put _ (some 44) _ = _
                              simp only [Act.put, List.setIfInBounds_toArray, List.set_cons_zero, List.set_cons_succ, i64_w, i32_w]
                              rfl
                            refine one_ (i := 11) (N := some 45) #[true, true, true, true, true, true, true, true, true, true, true, true, false] rfl rfl (one_of HT_.out (by kernel_rfl)) (by decide) (fun K hK => ?_)
                            refine Kd.R_append_step Kd.string (w0 := w) w.heap.size (by rfl) (.tmp 34) (.tmp 44) 43 9 (.string ⟨#[]⟩) 16 rfl Tryd.underlying43 info9 rfl (by decide) (by omega) u3 x3_1 ((t761 ++ ((rd_T58 l0 x9_1).f0)) ++ t762) [.string ((t761 ++ ((rd_T58 l0 x9_1).f0)) ++ t762)] (fun _ => True) (fun _ => False) rfl rfl ?aP (fun _ hk => hk.elim) ?aF ?aO ?aB ?aS ?aL ?_
                            (case aP => exact rfl)
                            (case aB => exact (by repeat (first | (with_reducible first | exact HB.out | apply below_alloc | apply pw_below_drewN | apply below_drew1 | refine below_set ?_ GE760.out) | exact HB.out)))
                            (case aF => exact (fun _ _ => trivial))
                            (case aO => exact (by (with_reducible repeat (first | apply Kd.R_alloc | apply Kd.R_drewN | apply Kd.R_drew)); exact HO_3.out))
                            (case aS => exact (below_size (by repeat (first | (with_reducible first | exact HB.out | apply below_alloc | apply pw_below_drewN | apply below_drew1 | refine below_set ?_ GE760.out) | exact HB.out))))
                            (case aL => have := LMc16.out; omega)
                            intro v764 w21 ho hb hg hat
                            rw [← Ny763.out] at ho
                            have n0_ := Aside0.mk (blk_grown (g := gb760) (o := .cells #[.string ((rd_T58 l0 x9_1).f0), .string ((rd_T58 l0 x9_1).f1), .bool true, .bool true] 58 (0, 0)) (by (with_reducible repeat (first | refine blk_drewN ?_ _ | refine blk_drew ?_ | refine blk_alloc ?_ _)); exact BK760.out) hg (Kd.R_ne HO_3.out BK760.out (by decide)))
                            have n1_ := Aside0.mk (hb)
                            have n2_ := Aside0.mk (ho)
                            clear BK760
                            clear HB
                            clear HO_3
                            have BK760 := n0_
                            have HB := n1_
                            have HO765 := n2_
                            clear n0_ n1_ n2_
                            clear ho hb hg hat
                            refine hK.out _ _ ⟨(blk_cell BK760.out 0).trans rfl, (blk_cell BK760.out 1).trans rfl, (blk_cell BK760.out 2).trans rfl, (blk_cell BK760.out 3).trans rfl⟩ (fun hHeld => ?_)
                            clear hK K
                            refine norm_ (a' := ?_) ?_ ?_
                            rotate_left
                            · show Act.put _ (some 45) _ = _
                              simp only [Act.put, List.setIfInBounds_toArray, List.set_cons_zero, List.set_cons_succ, i64_w, i32_w]
                              rfl
                            refine pure_ (i := 12) (N := some 3) (v := ?_) (a' := ?_) #[true, true, true, true, true, true, true, true, true, true, true, true, true] rfl rfl (any_of HT_.out (by kernel_rfl)) (fun _ _ _ h => h) (Or.inl ⟨by rfl, ?_⟩) ?_ ?_
                            rotate_left
                            · intro w'
                              go_simp
                              with_reducible rfl
                            rotate_left
                            · simp only [Act.put, List.setIfInBounds_toArray, List.set_cons_zero, List.set_cons_succ, i64_w, i32_w]
                              rfl
                            refine done_ (done_of HT_.out (by kernel_rfl)) ?_
                            try go_wp2
                            go_roundg k1
                            case measure => have := HK1.out; omega
                            case rel => exact ⟨(y763), (wrap64 (x9_1 + 1)), (by first | rfl | (simp; done) | (simp [*]; done) | (simp; exact isEmpty_bne _)), H', ⟨by have := HK1.out; omega⟩, ⟨by (with_reducible repeat (first | apply Kd.R_alloc | apply Kd.R_drewN | apply Kd.R_drew)); exact HO765.out⟩, ⟨by repeat (first | (with_reducible first | exact HB.out | apply below_alloc | apply pw_below_drewN | apply below_drew1 | refine below_set ?_ GE760.out) | exact HB.out)⟩⟩
                          · rw [if_neg c16] at H
                            exact absurd H (by simp)
                        · rw [if_neg c15] at H
                          exact absurd H (by simp)
                      · rw [if_neg c13] at H
                        exact absurd H (by simp)
                    · replace c11 := Bool.eq_false_iff.mpr c11
                      subst c11
                      have H1 : ((span_mark.f (true) (⟨#[91]⟩ : ByteArray) (⟨#[40]⟩ : ByteArray)).bind fun t766 => (if t766.size + ((((rd_T58 l0 x9_1).f0) ++ (⟨#[44]⟩ : ByteArray)) ++ ((rd_T58 l0 x9_1).f1)).size ≤ 9223372036854775807 then ((span_mark.f (false) (⟨#[93]⟩ : ByteArray) (⟨#[41]⟩ : ByteArray)).bind fun t767 => (if (t766 ++ ((((rd_T58 l0 x9_1).f0) ++ (⟨#[44]⟩ : ByteArray)) ++ ((rd_T58 l0 x9_1).f1))).size + t767.size ≤ 9223372036854775807 then (if x3_1.length < 8796093022208 then (span_Text.l0 k1 (x3_1 ++ [(t766 ++ ((((rd_T58 l0 x9_1).f0) ++ (⟨#[44]⟩ : ByteArray)) ++ ((rd_T58 l0 x9_1).f1))) ++ t767]) l0 (l0.length : Int) (wrap64 (x9_1 + 1))) else (none)) else (none))) else (none))) = some r := by rw [if_neg (show ¬ (false = true) by decide)] at H; exact H
                      clear H
                      have H := H1
                      clear H1
                      replace H := Option.bind_eq_some_iff.mp H
                      obtain ⟨t766, A220, H⟩ := H
                      replace H : (if t766.size + ((((rd_T58 l0 x9_1).f0) ++ (⟨#[44]⟩ : ByteArray)) ++ ((rd_T58 l0 x9_1).f1)).size ≤ 9223372036854775807 then ((span_mark.f (false) (⟨#[93]⟩ : ByteArray) (⟨#[41]⟩ : ByteArray)).bind fun t767 => (if (t766 ++ ((((rd_T58 l0 x9_1).f0) ++ (⟨#[44]⟩ : ByteArray)) ++ ((rd_T58 l0 x9_1).f1))).size + t767.size ≤ 9223372036854775807 then (if x3_1.length < 8796093022208 then (span_Text.l0 k1 (x3_1 ++ [(t766 ++ ((((rd_T58 l0 x9_1).f0) ++ (⟨#[44]⟩ : ByteArray)) ++ ((rd_T58 l0 x9_1).f1))) ++ t767]) l0 (l0.length : Int) (wrap64 (x9_1 + 1))) else (none)) else (none))) else (none)) = some r := H
                      have A22 := Aside0.mk A220
                      clear A220
                      by_cases c23 : t766.size + ((((rd_T58 l0 x9_1).f0) ++ (⟨#[44]⟩ : ByteArray)) ++ ((rd_T58 l0 x9_1).f1)).size ≤ 9223372036854775807
                      · rw [if_pos c23] at H
                        have c23b0 := eq_true c23
                        have c23b1 : decide (t766.size + ((((rd_T58 l0 x9_1).f0) ++ (⟨#[44]⟩ : ByteArray)) ++ ((rd_T58 l0 x9_1).f1)).size ≤ 9223372036854775807) = true := decide_eq_true c23
                        try have c23b2 : (9223372036854775807 < t766.size + ((((rd_T58 l0 x9_1).f0) ++ (⟨#[44]⟩ : ByteArray)) ++ ((rd_T58 l0 x9_1).f1)).size) = False := eq_false (Nat.not_lt.2 c23)
                        have c23n : t766.size + ((((rd_T58 l0 x9_1).f0).size + 1) + ((rd_T58 l0 x9_1).f1).size) ≤ 9223372036854775807 := by have z_ := c23; simp only [ByteArray.size_append] at z_; exact z_
                        have c23m : (9223372036854775807 < t766.size + ((((rd_T58 l0 x9_1).f0).size + 1) + ((rd_T58 l0 x9_1).f1).size)) = False := eq_false (Nat.not_lt.2 c23n)
                        clear c23 c23b0 c23b1
                        try clear c23b2
                        replace H := Option.bind_eq_some_iff.mp H
                        obtain ⟨t767, A240, H⟩ := H
                        replace H : (if (t766 ++ ((((rd_T58 l0 x9_1).f0) ++ (⟨#[44]⟩ : ByteArray)) ++ ((rd_T58 l0 x9_1).f1))).size + t767.size ≤ 9223372036854775807 then (if x3_1.length < 8796093022208 then (span_Text.l0 k1 (x3_1 ++ [(t766 ++ ((((rd_T58 l0 x9_1).f0) ++ (⟨#[44]⟩ : ByteArray)) ++ ((rd_T58 l0 x9_1).f1))) ++ t767]) l0 (l0.length : Int) (wrap64 (x9_1 + 1))) else (none)) else (none)) = some r := H
                        have A24 := Aside0.mk A240
                        clear A240
                        by_cases c25 : (t766 ++ ((((rd_T58 l0 x9_1).f0) ++ (⟨#[44]⟩ : ByteArray)) ++ ((rd_T58 l0 x9_1).f1))).size + t767.size ≤ 9223372036854775807
                        · rw [if_pos c25] at H
                          have c25b0 := eq_true c25
                          have c25b1 : decide ((t766 ++ ((((rd_T58 l0 x9_1).f0) ++ (⟨#[44]⟩ : ByteArray)) ++ ((rd_T58 l0 x9_1).f1))).size + t767.size ≤ 9223372036854775807) = true := decide_eq_true c25
                          try have c25b2 : (9223372036854775807 < (t766 ++ ((((rd_T58 l0 x9_1).f0) ++ (⟨#[44]⟩ : ByteArray)) ++ ((rd_T58 l0 x9_1).f1))).size + t767.size) = False := eq_false (Nat.not_lt.2 c25)
                          have c25n : (t766.size + ((((rd_T58 l0 x9_1).f0).size + 1) + ((rd_T58 l0 x9_1).f1).size)) + t767.size ≤ 9223372036854775807 := by have z_ := c25; simp only [ByteArray.size_append] at z_; exact z_
                          have c25m : (9223372036854775807 < (t766.size + ((((rd_T58 l0 x9_1).f0).size + 1) + ((rd_T58 l0 x9_1).f1).size)) + t767.size) = False := eq_false (Nat.not_lt.2 c25n)
                          clear c25 c25b0 c25b1
                          try clear c25b2
                          by_cases c26 : x3_1.length < 8796093022208
                          · rw [if_pos c26] at H
                            have LMc26 := Aside0.mk c26
                            clear c26
                            obtain ⟨y768, hy768⟩ : ∃ y_ : List ByteArray, y_ = (x3_1 ++ [(t766 ++ ((((rd_T58 l0 x9_1).f0) ++ (⟨#[44]⟩ : ByteArray)) ++ ((rd_T58 l0 x9_1).f1))) ++ t767]) := ⟨_, rfl⟩
                            replace H : (span_Text.l0 k1 y768 l0 (l0.length : Int) (wrap64 (x9_1 + 1))) = some r := by first | (rw [hy768]; with_reducible exact H) | (have H2_ := (Option.bind_some _ _).symm.trans H; rw [hy768]; with_reducible exact H2_) | (have H2_ := (Option.bind_some _ _).symm.trans H; with_reducible exact H2_) | with_reducible exact H | (rw [hy768]; exact H) | exact H
                            have Ny768 := Aside0.mk hy768
                            clear hy768
                            have H' := Aside0.mk H
                            clear H
                            have p759 : 0 ≤ (x9_1 : Int) := of_decide_eq_true (by first | (with_reducible assumption) | assumption)
                            have q759 : x9_1 < (l0.length : Int) := of_decide_eq_true (by first | (with_reducible assumption) | assumption)
                            obtain ⟨ad759, e759, hx759_0, hx759_1, hx759_2, hx759_3⟩ := at_T58 HR0.out x9_1 p759 q759
                            (try rw [← Nbq8.out] at hx759_2)
                            (try rw [← Nbq10.out] at hx759_2)
                            (try rw [← Nbq8.out] at hx759_3)
                            (try rw [← Nbq10.out] at hx759_3)
                            cases e759
                            replace hx759_0 := (HB.out.cell (World.block_lt_of_cell? w _ hx759_0)).trans hx759_0
                            replace hx759_1 := (HB.out.cell (World.block_lt_of_cell? w _ hx759_1)).trans hx759_1
                            replace hx759_2 := (HB.out.cell (World.block_lt_of_cell? w _ hx759_2)).trans hx759_2
                            replace hx759_3 := (HB.out.cell (World.block_lt_of_cell? w _ hx759_3)).trans hx759_3
                            replace p759 := eq_true p759
                            replace q759 := eq_true q759
                            try go_wp2_with (first | ((with_reducible refine gate_dst (N := 5) rfl ?_); refine box_event ?hg (N := 5) ?hd (cs := #[.string (⟨#[]⟩ : ByteArray), .string (⟨#[]⟩ : ByteArray), .bool false, .bool false]) (t := 58) ?hr ?_; (case hd => rfl); (case hg => rfl); (case hr => first | (go_simp; done) | (go_simp; rfl)); intro gb760 hg w27 hbox hb; have n0_ := Aside0.mk (Kd.R_below (by (with_reducible repeat (first | apply Kd.R_alloc | apply Kd.R_drewN | apply Kd.R_drew)); exact HO_3.out) hb); have n1_ := Aside0.mk (below_step (by repeat (first | (with_reducible first | exact HB.out | apply below_alloc | apply pw_below_drewN | apply below_drew1) | exact HB.out)) hb); have n2_ := Aside0.mk (hbox); have n3_ := Aside0.mk ((by rw [hg]; exact (below_size (by repeat (first | (with_reducible first | exact HB.out | apply below_alloc | apply pw_below_drewN | apply below_drew1) | exact HB.out))) : w.heap.size ≤ gb760)); have n4_ := Aside0.mk ((by rw [hg]; exact (below_size (by repeat (first | (with_reducible first | exact HB.out | apply below_alloc | apply pw_below_drewN | apply below_drew1) | exact HB.out))) : w.heap.size ≤ gb760)); clear HO_3; clear HB; have HO_3 := n0_; have HB := n1_; have BK760 := n2_; have GW760 := n3_; have GE760 := n4_; clear n0_ n1_ n2_ n3_ n4_; clear hb hbox hg; have hcz28_0 : w27.cell? ⟨gb760, 0, none⟩ = some (.string (⟨#[]⟩ : ByteArray)) := (blk_cell BK760.out 0).trans rfl; have hcz28_1 : w27.cell? ⟨gb760, 1, none⟩ = some (.string (⟨#[]⟩ : ByteArray)) := (blk_cell BK760.out 1).trans rfl; have hcz28_2 : w27.cell? ⟨gb760, 2, none⟩ = some (.bool false) := (blk_cell BK760.out 2).trans rfl; have hcz28_3 : w27.cell? ⟨gb760, 3, none⟩ = some (.bool false) := (blk_cell BK760.out 3).trans rfl; have hfz28_0 := blk_frozen BK760.out 0; have hfz28_1 := blk_frozen BK760.out 1; have hfz28_2 := blk_frozen BK760.out 2; have hfz28_3 := blk_frozen BK760.out 3))
                            have n0_ : Aside0 (Kd.R Kd.string 9 ((((w27.setCell ⟨gb760, 0, none⟩ (.string ((rd_T58 l0 x9_1).f0))).setCell ⟨gb760, 1, none⟩ (.string ((rd_T58 l0 x9_1).f1))).setCell ⟨gb760, 2, none⟩ (.bool true)).setCell ⟨gb760, 3, none⟩ (.bool false)) w.heap.size (fun _ => True) u3 x3_1) := ⟨by (with_reducible repeat (first | apply Kd.R_alloc | apply Kd.R_drewN | apply Kd.R_drew)); exact Kd.R_mono (Kd.R_far (p := ⟨gb760, 3, none⟩) (Kd.R_far (p := ⟨gb760, 2, none⟩) (Kd.R_far (p := ⟨gb760, 1, none⟩) (Kd.R_far (p := ⟨gb760, 0, none⟩) (Kd.R_types HO_3.out BK760.out (by decide)) (fun _ hk => hk.2) (.string ((rd_T58 l0 x9_1).f0))) (fun _ hk => hk.2) (.string ((rd_T58 l0 x9_1).f1))) (fun _ hk => hk.2) (.bool true)) (fun _ hk => hk.2) (.bool false)) (fun _ hk => trivial)⟩
                            have n1_ : Aside0 (((((w27.setCell ⟨gb760, 0, none⟩ (.string ((rd_T58 l0 x9_1).f0))).setCell ⟨gb760, 1, none⟩ (.string ((rd_T58 l0 x9_1).f1))).setCell ⟨gb760, 2, none⟩ (.bool true)).setCell ⟨gb760, 3, none⟩ (.bool false)).heap[gb760]? = some (.cells #[.string ((rd_T58 l0 x9_1).f0), .string ((rd_T58 l0 x9_1).f1), .bool true, .bool false] 58 (0, 0))) := ⟨by (with_reducible repeat (first | refine blk_drewN ?_ _ | refine blk_drew ?_ | refine blk_alloc ?_ _)); refine blk_put (cs := #[.string ((rd_T58 l0 x9_1).f0), .string ((rd_T58 l0 x9_1).f1), .bool true, .bool false]) ?_ 3 _ rfl; (with_reducible repeat (first | refine blk_drewN ?_ _ | refine blk_drew ?_ | refine blk_alloc ?_ _)); refine blk_put (cs := #[.string ((rd_T58 l0 x9_1).f0), .string ((rd_T58 l0 x9_1).f1), .bool false, .bool false]) ?_ 2 _ rfl; (with_reducible repeat (first | refine blk_drewN ?_ _ | refine blk_drew ?_ | refine blk_alloc ?_ _)); refine blk_put (cs := #[.string ((rd_T58 l0 x9_1).f0), .string (⟨#[]⟩ : ByteArray), .bool false, .bool false]) ?_ 1 _ rfl; (with_reducible repeat (first | refine blk_drewN ?_ _ | refine blk_drew ?_ | refine blk_alloc ?_ _)); refine blk_put (cs := #[.string (⟨#[]⟩ : ByteArray), .string (⟨#[]⟩ : ByteArray), .bool false, .bool false]) ?_ 0 _ rfl; (with_reducible repeat (first | refine blk_drewN ?_ _ | refine blk_drew ?_ | refine blk_alloc ?_ _)); exact BK760.out⟩
                            have n2_ : Aside0 (Below w.heap.size w ((((w27.setCell ⟨gb760, 0, none⟩ (.string ((rd_T58 l0 x9_1).f0))).setCell ⟨gb760, 1, none⟩ (.string ((rd_T58 l0 x9_1).f1))).setCell ⟨gb760, 2, none⟩ (.bool true)).setCell ⟨gb760, 3, none⟩ (.bool false))) := ⟨by repeat (first | (with_reducible first | exact HB.out | apply below_alloc | apply pw_below_drewN | apply below_drew1 | refine below_set ?_ GE760.out) | exact HB.out)⟩
                            (try clear HO_3)
                            (try clear BK760)
                            (try clear HB)
                            generalize ((((w27.setCell ⟨gb760, 0, none⟩ (.string ((rd_T58 l0 x9_1).f0))).setCell ⟨gb760, 1, none⟩ (.string ((rd_T58 l0 x9_1).f1))).setCell ⟨gb760, 2, none⟩ (.bool true)).setCell ⟨gb760, 3, none⟩ (.bool false)) = w29 at n0_ n1_ n2_ ⊢
                            have HO_3 := n0_
                            have BK760 := n1_
                            have HB := n2_
                            clear n0_ n1_ n2_
                            have n0_ := Aside0.mk (Kd.R_drew HO_3.out)
                            have n1_ := Aside0.mk (blk_drew BK760.out)
                            have n2_ := Aside0.mk (below_drew1 HB.out)
                            clear HO_3
                            clear BK760
                            clear HB
                            have HO_3 := n0_
                            have BK760 := n1_
                            have HB := n2_
                            clear n0_ n1_ n2_
                            refine start_ (n := 13) (S := fun w' => w'.cell? ⟨gb760, 0, none⟩ = some (.string ((rd_T58 l0 x9_1).f0)) ∧ w'.cell? ⟨gb760, 1, none⟩ = some (.string ((rd_T58 l0 x9_1).f1)) ∧ w'.cell? ⟨gb760, 2, none⟩ = some (.bool true) ∧ w'.cell? ⟨gb760, 3, none⟩ = some (.bool false)) (ds := []) #[false, false, false, false, false, false, false, false, false, false, false, false, false] (by kernel_rfl) rfl rfl ⟨(blk_cell BK760.out 0).trans rfl, (blk_cell BK760.out 1).trans rfl, (blk_cell BK760.out 2).trans rfl, (blk_cell BK760.out 3).trans rfl⟩ (fun hHeld => ?_); refine with_tabW span_Text.tab8 span_Text.bits8 (fun HT_ HW_ => ?_)
                            generalize w29.drew = w30 at HO_3 BK760 HB hHeld ⊢
                            refine pure_ (i := 0) (N := some 34) (v := ?_) (a' := ?_) #[true, false, false, false, false, false, false, false, false, false, false, false, false] rfl rfl (any_of HT_.out (by kernel_rfl)) (fun _ _ _ h => h) (Or.inl ⟨by rfl, ?_⟩) ?_ ?_
                            rotate_left
                            · intro w'
                              go_simp
                              with_reducible rfl
                            rotate_left
                            · simp only [Act.put, List.setIfInBounds_toArray, List.set_cons_zero, List.set_cons_succ, i64_w, i32_w]
                              rfl
                            refine pure_ (i := 1) (N := some 35) (v := ?_) (a' := ?_) #[true, true, false, false, false, false, false, false, false, false, false, false, false] rfl rfl (any_of HT_.out (by kernel_rfl)) (fun _ _ _ h => h) (Or.inl ⟨by rfl, ?_⟩) ?_ ?_
                            rotate_left
                            · intro w'
                              go_simp
                              with_reducible rfl
                            rotate_left
                            · simp only [Act.put, List.setIfInBounds_toArray, List.set_cons_zero, List.set_cons_succ, i64_w, i32_w]
                              rfl
                            refine pure_ (i := 4) (N := some 38) (v := ?_) (a' := ?_) #[true, true, false, false, true, false, false, false, false, false, false, false, false] rfl rfl (any_of HT_.out (by kernel_rfl)) (fun _ _ _ h => h) (Or.inl ⟨by rfl, ?_⟩) ?_ ?_
                            rotate_left
                            · intro w'
                              go_simp
                              with_reducible rfl
                            rotate_left
                            · simp only [Act.put, List.setIfInBounds_toArray, List.set_cons_zero, List.set_cons_succ, i64_w, i32_w]
                              rfl
                            refine pure_ (i := 6) (N := some 40) (v := ?_) (a' := ?_) #[true, true, false, false, true, false, true, false, false, false, false, false, false] rfl rfl (any_of HT_.out (by kernel_rfl)) (fun _ _ _ h => h) (Or.inl ⟨by rfl, ?_⟩) ?_ ?_
                            rotate_left
                            · intro w'
                              go_simp
                              with_reducible rfl
                            rotate_left
                            · simp only [Act.put, List.setIfInBounds_toArray, List.set_cons_zero, List.set_cons_succ, i64_w, i32_w]
                              rfl
                            refine take_ (i := 2) (N := some 36) (v := ?_) (a' := ?_) #[true, true, true, false, true, false, true, false, false, false, false, false, false] rfl rfl (take_ofW HT_.out HW_.out (by kernel_rfl)) (fun _ _ _ h => h) (Or.inl ⟨by rfl, ?_⟩) hHeld ?_ ?_
                            rotate_left
                            · rintro w' ⟨s0, s1, s2, s3⟩
                              go_simp
                              with_reducible rfl
                            rotate_left
                            · simp only [Act.put, List.setIfInBounds_toArray, List.set_cons_zero, List.set_cons_succ, i64_w, i32_w]
                              rfl
                            refine take_ (i := 7) (N := some 41) (v := ?_) (a' := ?_) #[true, true, true, false, true, false, true, true, false, false, false, false, false] rfl rfl (take_ofW HT_.out HW_.out (by kernel_rfl)) (fun _ _ _ h => h) (Or.inl ⟨by rfl, ?_⟩) hHeld ?_ ?_
                            rotate_left
                            · rintro w' ⟨s0, s1, s2, s3⟩
                              go_simp
                              with_reducible rfl
                            rotate_left
                            · simp only [Act.put, List.setIfInBounds_toArray, List.set_cons_zero, List.set_cons_succ, i64_w, i32_w]
                              rfl
                            refine one_ (i := 3) (N := some 37) #[true, true, true, true, true, false, true, true, false, false, false, false, false] rfl rfl (one_of HT_.out (by kernel_rfl)) (by decide) (fun K hK => ?_)
                            refine goes_ Tryd.func98 (by kernel_rfl) rfl #[.bool true, .string (⟨#[91]⟩ : ByteArray), .string (⟨#[40]⟩ : ByteArray)] (by rfl) rfl rfl (by (try simp only [List.map_toArray, List.map_cons, List.map_nil]); first | done | rfl | (simp only [List.length_drop, List.length_take]; rfl)) ?_
                            with_reducible refine (span_mark.calls true (⟨#[91]⟩ : ByteArray) (⟨#[40]⟩ : ByteArray) t766 _ ?side1 A22.out).mono ?_
                            (case side1 => exact Glob.step HG.out (by repeat (first | (with_reducible first | exact HB.out | apply below_alloc | apply pw_below_drewN | apply below_drew1 | refine below_set ?_ GE760.out) | exact HB.out)))
                            rintro e w' ⟨rfl, ⟨nd, rfl⟩⟩
                            refine ⟨_, rfl, ?_⟩
                            refine hK.out _ _ ⟨(blk_cell BK760.out 0).trans rfl, (blk_cell BK760.out 1).trans rfl, (blk_cell BK760.out 2).trans rfl, (blk_cell BK760.out 3).trans rfl⟩ (fun hHeld => ?_)
                            clear hK K
                            refine norm_ (a' := ?_) ?_ ?_
                            rotate_left
                            · show Act.put _ (some 37) _ = _
                              simp only [Act.put, List.setIfInBounds_toArray, List.set_cons_zero, List.set_cons_succ, i64_w, i32_w]
                              rfl
                            refine pure_ (i := 5) (N := some 39) (v := ?_) (a' := ?_) #[true, true, true, true, true, true, true, true, false, false, false, false, false] rfl rfl (any_of HT_.out (by kernel_rfl)) (fun _ _ _ h => h) (Or.inl ⟨by rfl, ?_⟩) ?_ ?_
                            rotate_left
                            · intro w'
                              go_simp
                              with_reducible rfl
                            rotate_left
                            · simp only [Act.put, List.setIfInBounds_toArray, List.set_cons_zero, List.set_cons_succ, i64_w, i32_w]
                              rfl
                            refine one_ (i := 8) (N := some 42) #[true, true, true, true, true, true, true, true, true, false, false, false, false] rfl rfl (one_of HT_.out (by kernel_rfl)) (by decide) (fun K hK => ?_)
                            refine goes_ Tryd.func98 (by kernel_rfl) rfl #[.bool false, .string (⟨#[93]⟩ : ByteArray), .string (⟨#[41]⟩ : ByteArray)] (by rfl) rfl rfl (by (try simp only [List.map_toArray, List.map_cons, List.map_nil]); first | done | rfl | (simp only [List.length_drop, List.length_take]; rfl)) ?_
                            with_reducible refine (span_mark.calls false (⟨#[93]⟩ : ByteArray) (⟨#[41]⟩ : ByteArray) t767 _ ?side1 A24.out).mono ?_
                            (case side1 => exact Glob.step HG.out (by repeat (first | (with_reducible first | exact HB.out | apply below_alloc | apply pw_below_drewN | apply below_drew1 | refine below_set ?_ GE760.out) | exact HB.out)))
                            rintro e w' ⟨rfl, ⟨nd, rfl⟩⟩
                            refine ⟨_, rfl, ?_⟩
                            refine hK.out _ _ ⟨(blk_cell BK760.out 0).trans rfl, (blk_cell BK760.out 1).trans rfl, (blk_cell BK760.out 2).trans rfl, (blk_cell BK760.out 3).trans rfl⟩ (fun hHeld => ?_)
                            clear hK K
                            refine norm_ (a' := ?_) ?_ ?_
                            rotate_left
                            · show Act.put _ (some 42) _ = _
                              simp only [Act.put, List.setIfInBounds_toArray, List.set_cons_zero, List.set_cons_succ, i64_w, i32_w]
                              rfl
                            refine pure_ (i := 9) (N := some 43) (v := ?_) (a' := ?_) #[true, true, true, true, true, true, true, true, true, true, false, false, false] rfl rfl (any_of HT_.out (by kernel_rfl)) (fun _ _ _ h => h) (Or.inl ⟨by rfl, ?_⟩) ?_ ?_
                            rotate_left
                            · intro w'
                              go_simp
                              with_reducible rfl
                            rotate_left
                            · simp only [Act.put, List.setIfInBounds_toArray, List.set_cons_zero, List.set_cons_succ, i64_w, i32_w]
                              rfl
                            refine one_ (i := 10) (N := some 44) #[true, true, true, true, true, true, true, true, true, true, true, false, false] rfl rfl (one_of HT_.out (by kernel_rfl)) (by decide) (fun K hK => ?_)
                            refine value_ (w1 := ?_) (v := ?_) (by rfl) rfl ?_ ?_
                            rotate_left 2
                            · go_simp
                              constructor
                              · rfl
                              · rfl
                            refine hK.out _ _ ⟨(blk_cell (blk_alloc BK760.out _) 0).trans rfl, (blk_cell (blk_alloc BK760.out _) 1).trans rfl, (blk_cell (blk_alloc BK760.out _) 2).trans rfl, (blk_cell (blk_alloc BK760.out _) 3).trans rfl⟩ (fun hHeld => ?_)
                            clear hK K
                            refine norm_ (a' := ?_) ?_ ?_
                            rotate_left
                            · show Act.put _ (some 44) _ = _
                              simp only [Act.put, List.setIfInBounds_toArray, List.set_cons_zero, List.set_cons_succ, i64_w, i32_w]
                              rfl
                            refine one_ (i := 11) (N := some 45) #[true, true, true, true, true, true, true, true, true, true, true, true, false] rfl rfl (one_of HT_.out (by kernel_rfl)) (by decide) (fun K hK => ?_)
                            refine Kd.R_append_step Kd.string (w0 := w) w.heap.size (by rfl) (.tmp 34) (.tmp 44) 43 9 (.string ⟨#[]⟩) 16 rfl Tryd.underlying43 info9 rfl (by decide) (by omega) u3 x3_1 ((t766 ++ ((((rd_T58 l0 x9_1).f0) ++ (⟨#[44]⟩ : ByteArray)) ++ ((rd_T58 l0 x9_1).f1))) ++ t767) [.string ((t766 ++ ((((rd_T58 l0 x9_1).f0) ++ (⟨#[44]⟩ : ByteArray)) ++ ((rd_T58 l0 x9_1).f1))) ++ t767)] (fun _ => True) (fun _ => False) rfl rfl ?aP (fun _ hk => hk.elim) ?aF ?aO ?aB ?aS ?aL ?_
                            (case aP => exact rfl)
                            (case aB => exact (by repeat (first | (with_reducible first | exact HB.out | apply below_alloc | apply pw_below_drewN | apply below_drew1 | refine below_set ?_ GE760.out) | exact HB.out)))
                            (case aF => exact (fun _ _ => trivial))
                            (case aO => exact (by (with_reducible repeat (first | apply Kd.R_alloc | apply Kd.R_drewN | apply Kd.R_drew)); exact HO_3.out))
                            (case aS => exact (below_size (by repeat (first | (with_reducible first | exact HB.out | apply below_alloc | apply pw_below_drewN | apply below_drew1 | refine below_set ?_ GE760.out) | exact HB.out))))
                            (case aL => have := LMc26.out; omega)
                            intro v769 w31 ho hb hg hat
                            rw [← Ny768.out] at ho
                            have n0_ := Aside0.mk (blk_grown (g := gb760) (o := .cells #[.string ((rd_T58 l0 x9_1).f0), .string ((rd_T58 l0 x9_1).f1), .bool true, .bool false] 58 (0, 0)) (by (with_reducible repeat (first | refine blk_drewN ?_ _ | refine blk_drew ?_ | refine blk_alloc ?_ _)); exact BK760.out) hg (Kd.R_ne HO_3.out BK760.out (by decide)))
                            have n1_ := Aside0.mk (hb)
                            have n2_ := Aside0.mk (ho)
                            clear BK760
                            clear HB
                            clear HO_3
                            have BK760 := n0_
                            have HB := n1_
                            have HO770 := n2_
                            clear n0_ n1_ n2_
                            clear ho hb hg hat
                            refine hK.out _ _ ⟨(blk_cell BK760.out 0).trans rfl, (blk_cell BK760.out 1).trans rfl, (blk_cell BK760.out 2).trans rfl, (blk_cell BK760.out 3).trans rfl⟩ (fun hHeld => ?_)
                            clear hK K
                            refine norm_ (a' := ?_) ?_ ?_
                            rotate_left
                            · show Act.put _ (some 45) _ = _
                              simp only [Act.put, List.setIfInBounds_toArray, List.set_cons_zero, List.set_cons_succ, i64_w, i32_w]
                              rfl
                            refine pure_ (i := 12) (N := some 3) (v := ?_) (a' := ?_) #[true, true, true, true, true, true, true, true, true, true, true, true, true] rfl rfl (any_of HT_.out (by kernel_rfl)) (fun _ _ _ h => h) (Or.inl ⟨by rfl, ?_⟩) ?_ ?_
                            rotate_left
                            · intro w'
                              go_simp
                              with_reducible rfl
                            rotate_left
                            · simp only [Act.put, List.setIfInBounds_toArray, List.set_cons_zero, List.set_cons_succ, i64_w, i32_w]
                              rfl
                            refine done_ (done_of HT_.out (by kernel_rfl)) ?_
                            try go_wp2
                            go_roundg k1
                            case measure => have := HK1.out; omega
                            case rel => exact ⟨(y768), (wrap64 (x9_1 + 1)), (by first | rfl | (simp; done) | (simp [*]; done) | (simp; exact isEmpty_bne _)), H', ⟨by have := HK1.out; omega⟩, ⟨by (with_reducible repeat (first | apply Kd.R_alloc | apply Kd.R_drewN | apply Kd.R_drew)); exact HO770.out⟩, ⟨by repeat (first | (with_reducible first | exact HB.out | apply below_alloc | apply pw_below_drewN | apply below_drew1 | refine below_set ?_ GE760.out) | exact HB.out)⟩⟩
                          · rw [if_neg c26] at H
                            exact absurd H (by simp)
                        · rw [if_neg c25] at H
                          exact absurd H (by simp)
                      · rw [if_neg c23] at H
                        exact absurd H (by simp)
                  · replace c9 := Bool.eq_false_iff.mpr c9
                    subst c9
                    have H1 : ((span_mark.f (false) (⟨#[91]⟩ : ByteArray) (⟨#[40]⟩ : ByteArray)).bind fun t771 => (if t771.size + ((((rd_T58 l0 x9_1).f0) ++ (⟨#[44]⟩ : ByteArray)) ++ ((rd_T58 l0 x9_1).f1)).size ≤ 9223372036854775807 then ((span_mark.f ((rd_T58 l0 x9_1).f3) (⟨#[93]⟩ : ByteArray) (⟨#[41]⟩ : ByteArray)).bind fun t772 => (if (t771 ++ ((((rd_T58 l0 x9_1).f0) ++ (⟨#[44]⟩ : ByteArray)) ++ ((rd_T58 l0 x9_1).f1))).size + t772.size ≤ 9223372036854775807 then (if x3_1.length < 8796093022208 then (span_Text.l0 k1 (x3_1 ++ [(t771 ++ ((((rd_T58 l0 x9_1).f0) ++ (⟨#[44]⟩ : ByteArray)) ++ ((rd_T58 l0 x9_1).f1))) ++ t772]) l0 (l0.length : Int) (wrap64 (x9_1 + 1))) else (none)) else (none))) else (none))) = some r := by rw [if_neg (show ¬ (false = true) by decide)] at H; exact H
                    clear H
                    have H := H1
                    clear H1
                    replace H := Option.bind_eq_some_iff.mp H
                    obtain ⟨t771, A320, H⟩ := H
                    replace H : (if t771.size + ((((rd_T58 l0 x9_1).f0) ++ (⟨#[44]⟩ : ByteArray)) ++ ((rd_T58 l0 x9_1).f1)).size ≤ 9223372036854775807 then ((span_mark.f ((rd_T58 l0 x9_1).f3) (⟨#[93]⟩ : ByteArray) (⟨#[41]⟩ : ByteArray)).bind fun t772 => (if (t771 ++ ((((rd_T58 l0 x9_1).f0) ++ (⟨#[44]⟩ : ByteArray)) ++ ((rd_T58 l0 x9_1).f1))).size + t772.size ≤ 9223372036854775807 then (if x3_1.length < 8796093022208 then (span_Text.l0 k1 (x3_1 ++ [(t771 ++ ((((rd_T58 l0 x9_1).f0) ++ (⟨#[44]⟩ : ByteArray)) ++ ((rd_T58 l0 x9_1).f1))) ++ t772]) l0 (l0.length : Int) (wrap64 (x9_1 + 1))) else (none)) else (none))) else (none)) = some r := H
                    have A32 := Aside0.mk A320
                    clear A320
                    by_cases c33 : t771.size + ((((rd_T58 l0 x9_1).f0) ++ (⟨#[44]⟩ : ByteArray)) ++ ((rd_T58 l0 x9_1).f1)).size ≤ 9223372036854775807
                    · rw [if_pos c33] at H
                      have c33b0 := eq_true c33
                      have c33b1 : decide (t771.size + ((((rd_T58 l0 x9_1).f0) ++ (⟨#[44]⟩ : ByteArray)) ++ ((rd_T58 l0 x9_1).f1)).size ≤ 9223372036854775807) = true := decide_eq_true c33
                      try have c33b2 : (9223372036854775807 < t771.size + ((((rd_T58 l0 x9_1).f0) ++ (⟨#[44]⟩ : ByteArray)) ++ ((rd_T58 l0 x9_1).f1)).size) = False := eq_false (Nat.not_lt.2 c33)
                      have c33n : t771.size + ((((rd_T58 l0 x9_1).f0).size + 1) + ((rd_T58 l0 x9_1).f1).size) ≤ 9223372036854775807 := by have z_ := c33; simp only [ByteArray.size_append] at z_; exact z_
                      have c33m : (9223372036854775807 < t771.size + ((((rd_T58 l0 x9_1).f0).size + 1) + ((rd_T58 l0 x9_1).f1).size)) = False := eq_false (Nat.not_lt.2 c33n)
                      clear c33 c33b0 c33b1
                      try clear c33b2
                      replace H := Option.bind_eq_some_iff.mp H
                      obtain ⟨t772, A340, H⟩ := H
                      replace H : (if (t771 ++ ((((rd_T58 l0 x9_1).f0) ++ (⟨#[44]⟩ : ByteArray)) ++ ((rd_T58 l0 x9_1).f1))).size + t772.size ≤ 9223372036854775807 then (if x3_1.length < 8796093022208 then (span_Text.l0 k1 (x3_1 ++ [(t771 ++ ((((rd_T58 l0 x9_1).f0) ++ (⟨#[44]⟩ : ByteArray)) ++ ((rd_T58 l0 x9_1).f1))) ++ t772]) l0 (l0.length : Int) (wrap64 (x9_1 + 1))) else (none)) else (none)) = some r := H
                      have A34 := Aside0.mk A340
                      clear A340
                      by_cases c35 : (t771 ++ ((((rd_T58 l0 x9_1).f0) ++ (⟨#[44]⟩ : ByteArray)) ++ ((rd_T58 l0 x9_1).f1))).size + t772.size ≤ 9223372036854775807
                      · rw [if_pos c35] at H
                        have c35b0 := eq_true c35
                        have c35b1 : decide ((t771 ++ ((((rd_T58 l0 x9_1).f0) ++ (⟨#[44]⟩ : ByteArray)) ++ ((rd_T58 l0 x9_1).f1))).size + t772.size ≤ 9223372036854775807) = true := decide_eq_true c35
                        try have c35b2 : (9223372036854775807 < (t771 ++ ((((rd_T58 l0 x9_1).f0) ++ (⟨#[44]⟩ : ByteArray)) ++ ((rd_T58 l0 x9_1).f1))).size + t772.size) = False := eq_false (Nat.not_lt.2 c35)
                        have c35n : (t771.size + ((((rd_T58 l0 x9_1).f0).size + 1) + ((rd_T58 l0 x9_1).f1).size)) + t772.size ≤ 9223372036854775807 := by have z_ := c35; simp only [ByteArray.size_append] at z_; exact z_
                        have c35m : (9223372036854775807 < (t771.size + ((((rd_T58 l0 x9_1).f0).size + 1) + ((rd_T58 l0 x9_1).f1).size)) + t772.size) = False := eq_false (Nat.not_lt.2 c35n)
                        clear c35 c35b0 c35b1
                        try clear c35b2
                        by_cases c36 : x3_1.length < 8796093022208
                        · rw [if_pos c36] at H
                          have LMc36 := Aside0.mk c36
                          clear c36
                          obtain ⟨y773, hy773⟩ : ∃ y_ : List ByteArray, y_ = (x3_1 ++ [(t771 ++ ((((rd_T58 l0 x9_1).f0) ++ (⟨#[44]⟩ : ByteArray)) ++ ((rd_T58 l0 x9_1).f1))) ++ t772]) := ⟨_, rfl⟩
                          replace H : (span_Text.l0 k1 y773 l0 (l0.length : Int) (wrap64 (x9_1 + 1))) = some r := by first | (rw [hy773]; with_reducible exact H) | (have H2_ := (Option.bind_some _ _).symm.trans H; rw [hy773]; with_reducible exact H2_) | (have H2_ := (Option.bind_some _ _).symm.trans H; with_reducible exact H2_) | with_reducible exact H | (rw [hy773]; exact H) | exact H
                          have Ny773 := Aside0.mk hy773
                          clear hy773
                          have H' := Aside0.mk H
                          clear H
                          have p759 : 0 ≤ (x9_1 : Int) := of_decide_eq_true (by first | (with_reducible assumption) | assumption)
                          have q759 : x9_1 < (l0.length : Int) := of_decide_eq_true (by first | (with_reducible assumption) | assumption)
                          obtain ⟨ad759, e759, hx759_0, hx759_1, hx759_2, hx759_3⟩ := at_T58 HR0.out x9_1 p759 q759
                          (try rw [← Nbq8.out] at hx759_2)
                          (try rw [← Nbq8.out] at hx759_3)
                          cases e759
                          replace hx759_0 := (HB.out.cell (World.block_lt_of_cell? w _ hx759_0)).trans hx759_0
                          replace hx759_1 := (HB.out.cell (World.block_lt_of_cell? w _ hx759_1)).trans hx759_1
                          replace hx759_2 := (HB.out.cell (World.block_lt_of_cell? w _ hx759_2)).trans hx759_2
                          replace hx759_3 := (HB.out.cell (World.block_lt_of_cell? w _ hx759_3)).trans hx759_3
                          replace p759 := eq_true p759
                          replace q759 := eq_true q759
                          try go_wp2_with (first | ((with_reducible refine gate_dst (N := 5) rfl ?_); refine box_event ?hg (N := 5) ?hd (cs := #[.string (⟨#[]⟩ : ByteArray), .string (⟨#[]⟩ : ByteArray), .bool false, .bool false]) (t := 58) ?hr ?_; (case hd => rfl); (case hg => rfl); (case hr => first | (go_simp; done) | (go_simp; rfl)); intro gb760 hg w37 hbox hb; have n0_ := Aside0.mk (Kd.R_below (by (with_reducible repeat (first | apply Kd.R_alloc | apply Kd.R_drewN | apply Kd.R_drew)); exact HO_3.out) hb); have n1_ := Aside0.mk (below_step (by repeat (first | (with_reducible first | exact HB.out | apply below_alloc | apply pw_below_drewN | apply below_drew1) | exact HB.out)) hb); have n2_ := Aside0.mk (hbox); have n3_ := Aside0.mk ((by rw [hg]; exact (below_size (by repeat (first | (with_reducible first | exact HB.out | apply below_alloc | apply pw_below_drewN | apply below_drew1) | exact HB.out))) : w.heap.size ≤ gb760)); have n4_ := Aside0.mk ((by rw [hg]; exact (below_size (by repeat (first | (with_reducible first | exact HB.out | apply below_alloc | apply pw_below_drewN | apply below_drew1) | exact HB.out))) : w.heap.size ≤ gb760)); clear HO_3; clear HB; have HO_3 := n0_; have HB := n1_; have BK760 := n2_; have GW760 := n3_; have GE760 := n4_; clear n0_ n1_ n2_ n3_ n4_; clear hb hbox hg; have hcz38_0 : w37.cell? ⟨gb760, 0, none⟩ = some (.string (⟨#[]⟩ : ByteArray)) := (blk_cell BK760.out 0).trans rfl; have hcz38_1 : w37.cell? ⟨gb760, 1, none⟩ = some (.string (⟨#[]⟩ : ByteArray)) := (blk_cell BK760.out 1).trans rfl; have hcz38_2 : w37.cell? ⟨gb760, 2, none⟩ = some (.bool false) := (blk_cell BK760.out 2).trans rfl; have hcz38_3 : w37.cell? ⟨gb760, 3, none⟩ = some (.bool false) := (blk_cell BK760.out 3).trans rfl; have hfz38_0 := blk_frozen BK760.out 0; have hfz38_1 := blk_frozen BK760.out 1; have hfz38_2 := blk_frozen BK760.out 2; have hfz38_3 := blk_frozen BK760.out 3))
                          have n0_ : Aside0 (Kd.R Kd.string 9 ((((w37.setCell ⟨gb760, 0, none⟩ (.string ((rd_T58 l0 x9_1).f0))).setCell ⟨gb760, 1, none⟩ (.string ((rd_T58 l0 x9_1).f1))).setCell ⟨gb760, 2, none⟩ (.bool false)).setCell ⟨gb760, 3, none⟩ (.bool ((rd_T58 l0 x9_1).f3))) w.heap.size (fun _ => True) u3 x3_1) := ⟨by (with_reducible repeat (first | apply Kd.R_alloc | apply Kd.R_drewN | apply Kd.R_drew)); exact Kd.R_mono (Kd.R_far (p := ⟨gb760, 3, none⟩) (Kd.R_far (p := ⟨gb760, 2, none⟩) (Kd.R_far (p := ⟨gb760, 1, none⟩) (Kd.R_far (p := ⟨gb760, 0, none⟩) (Kd.R_types HO_3.out BK760.out (by decide)) (fun _ hk => hk.2) (.string ((rd_T58 l0 x9_1).f0))) (fun _ hk => hk.2) (.string ((rd_T58 l0 x9_1).f1))) (fun _ hk => hk.2) (.bool false)) (fun _ hk => hk.2) (.bool ((rd_T58 l0 x9_1).f3))) (fun _ hk => trivial)⟩
                          have n1_ : Aside0 (((((w37.setCell ⟨gb760, 0, none⟩ (.string ((rd_T58 l0 x9_1).f0))).setCell ⟨gb760, 1, none⟩ (.string ((rd_T58 l0 x9_1).f1))).setCell ⟨gb760, 2, none⟩ (.bool false)).setCell ⟨gb760, 3, none⟩ (.bool ((rd_T58 l0 x9_1).f3))).heap[gb760]? = some (.cells #[.string ((rd_T58 l0 x9_1).f0), .string ((rd_T58 l0 x9_1).f1), .bool false, .bool ((rd_T58 l0 x9_1).f3)] 58 (0, 0))) := ⟨by (with_reducible repeat (first | refine blk_drewN ?_ _ | refine blk_drew ?_ | refine blk_alloc ?_ _)); refine blk_put (cs := #[.string ((rd_T58 l0 x9_1).f0), .string ((rd_T58 l0 x9_1).f1), .bool false, .bool false]) ?_ 3 _ rfl; (with_reducible repeat (first | refine blk_drewN ?_ _ | refine blk_drew ?_ | refine blk_alloc ?_ _)); refine blk_put (cs := #[.string ((rd_T58 l0 x9_1).f0), .string ((rd_T58 l0 x9_1).f1), .bool false, .bool false]) ?_ 2 _ rfl; (with_reducible repeat (first | refine blk_drewN ?_ _ | refine blk_drew ?_ | refine blk_alloc ?_ _)); refine blk_put (cs := #[.string ((rd_T58 l0 x9_1).f0), .string (⟨#[]⟩ : ByteArray), .bool false, .bool false]) ?_ 1 _ rfl; (with_reducible repeat (first | refine blk_drewN ?_ _ | refine blk_drew ?_ | refine blk_alloc ?_ _)); refine blk_put (cs := #[.string (⟨#[]⟩ : ByteArray), .string (⟨#[]⟩ : ByteArray), .bool false, .bool false]) ?_ 0 _ rfl; (with_reducible repeat (first | refine blk_drewN ?_ _ | refine blk_drew ?_ | refine blk_alloc ?_ _)); exact BK760.out⟩
                          have n2_ : Aside0 (Below w.heap.size w ((((w37.setCell ⟨gb760, 0, none⟩ (.string ((rd_T58 l0 x9_1).f0))).setCell ⟨gb760, 1, none⟩ (.string ((rd_T58 l0 x9_1).f1))).setCell ⟨gb760, 2, none⟩ (.bool false)).setCell ⟨gb760, 3, none⟩ (.bool ((rd_T58 l0 x9_1).f3)))) := ⟨by repeat (first | (with_reducible first | exact HB.out | apply below_alloc | apply pw_below_drewN | apply below_drew1 | refine below_set ?_ GE760.out) | exact HB.out)⟩
                          (try clear HO_3)
                          (try clear BK760)
                          (try clear HB)
                          generalize ((((w37.setCell ⟨gb760, 0, none⟩ (.string ((rd_T58 l0 x9_1).f0))).setCell ⟨gb760, 1, none⟩ (.string ((rd_T58 l0 x9_1).f1))).setCell ⟨gb760, 2, none⟩ (.bool false)).setCell ⟨gb760, 3, none⟩ (.bool ((rd_T58 l0 x9_1).f3))) = w39 at n0_ n1_ n2_ ⊢
                          have HO_3 := n0_
                          have BK760 := n1_
                          have HB := n2_
                          clear n0_ n1_ n2_
                          have n0_ := Aside0.mk (Kd.R_drew HO_3.out)
                          have n1_ := Aside0.mk (blk_drew BK760.out)
                          have n2_ := Aside0.mk (below_drew1 HB.out)
                          clear HO_3
                          clear BK760
                          clear HB
                          have HO_3 := n0_
                          have BK760 := n1_
                          have HB := n2_
                          clear n0_ n1_ n2_
                          refine start_ (n := 13) (S := fun w' => w'.cell? ⟨gb760, 0, none⟩ = some (.string ((rd_T58 l0 x9_1).f0)) ∧ w'.cell? ⟨gb760, 1, none⟩ = some (.string ((rd_T58 l0 x9_1).f1)) ∧ w'.cell? ⟨gb760, 2, none⟩ = some (.bool false) ∧ w'.cell? ⟨gb760, 3, none⟩ = some (.bool ((rd_T58 l0 x9_1).f3))) (ds := []) #[false, false, false, false, false, false, false, false, false, false, false, false, false] (by kernel_rfl) rfl rfl ⟨(blk_cell BK760.out 0).trans rfl, (blk_cell BK760.out 1).trans rfl, (blk_cell BK760.out 2).trans rfl, (blk_cell BK760.out 3).trans rfl⟩ (fun hHeld => ?_); refine with_tabW span_Text.tab8 span_Text.bits8 (fun HT_ HW_ => ?_)
                          generalize w39.drew = w40 at HO_3 BK760 HB hHeld ⊢
                          refine pure_ (i := 0) (N := some 34) (v := ?_) (a' := ?_) #[true, false, false, false, false, false, false, false, false, false, false, false, false] rfl rfl (any_of HT_.out (by kernel_rfl)) (fun _ _ _ h => h) (Or.inl ⟨by rfl, ?_⟩) ?_ ?_
                          rotate_left
                          · intro w'
                            go_simp
                            with_reducible rfl
                          rotate_left
                          · simp only [Act.put, List.setIfInBounds_toArray, List.set_cons_zero, List.set_cons_succ, i64_w, i32_w]
                            rfl
                          refine pure_ (i := 1) (N := some 35) (v := ?_) (a' := ?_) #[true, true, false, false, false, false, false, false, false, false, false, false, false] rfl rfl (any_of HT_.out (by kernel_rfl)) (fun _ _ _ h => h) (Or.inl ⟨by rfl, ?_⟩) ?_ ?_
                          rotate_left
                          · intro w'
                            go_simp
                            with_reducible rfl
                          rotate_left
                          · simp only [Act.put, List.setIfInBounds_toArray, List.set_cons_zero, List.set_cons_succ, i64_w, i32_w]
                            rfl
                          refine pure_ (i := 4) (N := some 38) (v := ?_) (a' := ?_) #[true, true, false, false, true, false, false, false, false, false, false, false, false] rfl rfl (any_of HT_.out (by kernel_rfl)) (fun _ _ _ h => h) (Or.inl ⟨by rfl, ?_⟩) ?_ ?_
                          rotate_left
                          · intro w'
                            go_simp
                            with_reducible rfl
                          rotate_left
                          · simp only [Act.put, List.setIfInBounds_toArray, List.set_cons_zero, List.set_cons_succ, i64_w, i32_w]
                            rfl
                          refine pure_ (i := 6) (N := some 40) (v := ?_) (a' := ?_) #[true, true, false, false, true, false, true, false, false, false, false, false, false] rfl rfl (any_of HT_.out (by kernel_rfl)) (fun _ _ _ h => h) (Or.inl ⟨by rfl, ?_⟩) ?_ ?_
                          rotate_left
                          · intro w'
                            go_simp
                            with_reducible rfl
                          rotate_left
                          · simp only [Act.put, List.setIfInBounds_toArray, List.set_cons_zero, List.set_cons_succ, i64_w, i32_w]
                            rfl
                          refine take_ (i := 2) (N := some 36) (v := ?_) (a' := ?_) #[true, true, true, false, true, false, true, false, false, false, false, false, false] rfl rfl (take_ofW HT_.out HW_.out (by kernel_rfl)) (fun _ _ _ h => h) (Or.inl ⟨by rfl, ?_⟩) hHeld ?_ ?_
                          rotate_left
                          · rintro w' ⟨s0, s1, s2, s3⟩
                            go_simp
                            with_reducible rfl
                          rotate_left
                          · simp only [Act.put, List.setIfInBounds_toArray, List.set_cons_zero, List.set_cons_succ, i64_w, i32_w]
                            rfl
                          refine take_ (i := 7) (N := some 41) (v := ?_) (a' := ?_) #[true, true, true, false, true, false, true, true, false, false, false, false, false] rfl rfl (take_ofW HT_.out HW_.out (by kernel_rfl)) (fun _ _ _ h => h) (Or.inl ⟨by rfl, ?_⟩) hHeld ?_ ?_
                          rotate_left
                          · rintro w' ⟨s0, s1, s2, s3⟩
                            go_simp
                            with_reducible rfl
                          rotate_left
                          · simp only [Act.put, List.setIfInBounds_toArray, List.set_cons_zero, List.set_cons_succ, i64_w, i32_w]
                            rfl
                          refine one_ (i := 3) (N := some 37) #[true, true, true, true, true, false, true, true, false, false, false, false, false] rfl rfl (one_of HT_.out (by kernel_rfl)) (by decide) (fun K hK => ?_)
                          refine goes_ Tryd.func98 (by kernel_rfl) rfl #[.bool false, .string (⟨#[91]⟩ : ByteArray), .string (⟨#[40]⟩ : ByteArray)] (by rfl) rfl rfl (by (try simp only [List.map_toArray, List.map_cons, List.map_nil]); first | done | rfl | (simp only [List.length_drop, List.length_take]; rfl)) ?_
                          with_reducible refine (span_mark.calls false (⟨#[91]⟩ : ByteArray) (⟨#[40]⟩ : ByteArray) t771 _ ?side1 A32.out).mono ?_
                          (case side1 => exact Glob.step HG.out (by repeat (first | (with_reducible first | exact HB.out | apply below_alloc | apply pw_below_drewN | apply below_drew1 | refine below_set ?_ GE760.out) | exact HB.out)))
                          rintro e w' ⟨rfl, ⟨nd, rfl⟩⟩
                          refine ⟨_, rfl, ?_⟩
                          refine hK.out _ _ ⟨(blk_cell BK760.out 0).trans rfl, (blk_cell BK760.out 1).trans rfl, (blk_cell BK760.out 2).trans rfl, (blk_cell BK760.out 3).trans rfl⟩ (fun hHeld => ?_)
                          clear hK K
                          refine norm_ (a' := ?_) ?_ ?_
                          rotate_left
                          · show Act.put _ (some 37) _ = _
                            simp only [Act.put, List.setIfInBounds_toArray, List.set_cons_zero, List.set_cons_succ, i64_w, i32_w]
                            rfl
                          refine pure_ (i := 5) (N := some 39) (v := ?_) (a' := ?_) #[true, true, true, true, true, true, true, true, false, false, false, false, false] rfl rfl (any_of HT_.out (by kernel_rfl)) (fun _ _ _ h => h) (Or.inl ⟨by rfl, ?_⟩) ?_ ?_
                          rotate_left
                          · intro w'
                            go_simp
                            with_reducible rfl
                          rotate_left
                          · simp only [Act.put, List.setIfInBounds_toArray, List.set_cons_zero, List.set_cons_succ, i64_w, i32_w]
                            rfl
                          refine one_ (i := 8) (N := some 42) #[true, true, true, true, true, true, true, true, true, false, false, false, false] rfl rfl (one_of HT_.out (by kernel_rfl)) (by decide) (fun K hK => ?_)
                          refine goes_ Tryd.func98 (by kernel_rfl) rfl #[.bool ((rd_T58 l0 x9_1).f3), .string (⟨#[93]⟩ : ByteArray), .string (⟨#[41]⟩ : ByteArray)] (by rfl) rfl rfl (by (try simp only [List.map_toArray, List.map_cons, List.map_nil]); first | done | rfl | (simp only [List.length_drop, List.length_take]; rfl)) ?_
                          with_reducible refine (span_mark.calls ((rd_T58 l0 x9_1).f3) (⟨#[93]⟩ : ByteArray) (⟨#[41]⟩ : ByteArray) t772 _ ?side1 A34.out).mono ?_
                          (case side1 => exact Glob.step HG.out (by repeat (first | (with_reducible first | exact HB.out | apply below_alloc | apply pw_below_drewN | apply below_drew1 | refine below_set ?_ GE760.out) | exact HB.out)))
                          rintro e w' ⟨rfl, ⟨nd, rfl⟩⟩
                          refine ⟨_, rfl, ?_⟩
                          refine hK.out _ _ ⟨(blk_cell BK760.out 0).trans rfl, (blk_cell BK760.out 1).trans rfl, (blk_cell BK760.out 2).trans rfl, (blk_cell BK760.out 3).trans rfl⟩ (fun hHeld => ?_)
                          clear hK K
                          refine norm_ (a' := ?_) ?_ ?_
                          rotate_left
                          · show Act.put _ (some 42) _ = _
                            simp only [Act.put, List.setIfInBounds_toArray, List.set_cons_zero, List.set_cons_succ, i64_w, i32_w]
                            rfl
                          refine pure_ (i := 9) (N := some 43) (v := ?_) (a' := ?_) #[true, true, true, true, true, true, true, true, true, true, false, false, false] rfl rfl (any_of HT_.out (by kernel_rfl)) (fun _ _ _ h => h) (Or.inl ⟨by rfl, ?_⟩) ?_ ?_
                          rotate_left
                          · intro w'
                            go_simp
                            with_reducible rfl
                          rotate_left
                          · simp only [Act.put, List.setIfInBounds_toArray, List.set_cons_zero, List.set_cons_succ, i64_w, i32_w]
                            rfl
                          refine one_ (i := 10) (N := some 44) #[true, true, true, true, true, true, true, true, true, true, true, false, false] rfl rfl (one_of HT_.out (by kernel_rfl)) (by decide) (fun K hK => ?_)
                          refine value_ (w1 := ?_) (v := ?_) (by rfl) rfl ?_ ?_
                          rotate_left 2
                          · go_simp
                            constructor
                            · rfl
                            · rfl
                          refine hK.out _ _ ⟨(blk_cell (blk_alloc BK760.out _) 0).trans rfl, (blk_cell (blk_alloc BK760.out _) 1).trans rfl, (blk_cell (blk_alloc BK760.out _) 2).trans rfl, (blk_cell (blk_alloc BK760.out _) 3).trans rfl⟩ (fun hHeld => ?_)
                          clear hK K
                          refine norm_ (a' := ?_) ?_ ?_
                          rotate_left
                          · show Act.put _ (some 44) _ = _
                            simp only [Act.put, List.setIfInBounds_toArray, List.set_cons_zero, List.set_cons_succ, i64_w, i32_w]
                            rfl
                          refine one_ (i := 11) (N := some 45) #[true, true, true, true, true, true, true, true, true, true, true, true, false] rfl rfl (one_of HT_.out (by kernel_rfl)) (by decide) (fun K hK => ?_)
                          refine Kd.R_append_step Kd.string (w0 := w) w.heap.size (by rfl) (.tmp 34) (.tmp 44) 43 9 (.string ⟨#[]⟩) 16 rfl Tryd.underlying43 info9 rfl (by decide) (by omega) u3 x3_1 ((t771 ++ ((((rd_T58 l0 x9_1).f0) ++ (⟨#[44]⟩ : ByteArray)) ++ ((rd_T58 l0 x9_1).f1))) ++ t772) [.string ((t771 ++ ((((rd_T58 l0 x9_1).f0) ++ (⟨#[44]⟩ : ByteArray)) ++ ((rd_T58 l0 x9_1).f1))) ++ t772)] (fun _ => True) (fun _ => False) rfl rfl ?aP (fun _ hk => hk.elim) ?aF ?aO ?aB ?aS ?aL ?_
                          (case aP => exact rfl)
                          (case aB => exact (by repeat (first | (with_reducible first | exact HB.out | apply below_alloc | apply pw_below_drewN | apply below_drew1 | refine below_set ?_ GE760.out) | exact HB.out)))
                          (case aF => exact (fun _ _ => trivial))
                          (case aO => exact (by (with_reducible repeat (first | apply Kd.R_alloc | apply Kd.R_drewN | apply Kd.R_drew)); exact HO_3.out))
                          (case aS => exact (below_size (by repeat (first | (with_reducible first | exact HB.out | apply below_alloc | apply pw_below_drewN | apply below_drew1 | refine below_set ?_ GE760.out) | exact HB.out))))
                          (case aL => have := LMc36.out; omega)
                          intro v774 w41 ho hb hg hat
                          rw [← Ny773.out] at ho
                          have n0_ := Aside0.mk (blk_grown (g := gb760) (o := .cells #[.string ((rd_T58 l0 x9_1).f0), .string ((rd_T58 l0 x9_1).f1), .bool false, .bool ((rd_T58 l0 x9_1).f3)] 58 (0, 0)) (by (with_reducible repeat (first | refine blk_drewN ?_ _ | refine blk_drew ?_ | refine blk_alloc ?_ _)); exact BK760.out) hg (Kd.R_ne HO_3.out BK760.out (by decide)))
                          have n1_ := Aside0.mk (hb)
                          have n2_ := Aside0.mk (ho)
                          clear BK760
                          clear HB
                          clear HO_3
                          have BK760 := n0_
                          have HB := n1_
                          have HO775 := n2_
                          clear n0_ n1_ n2_
                          clear ho hb hg hat
                          refine hK.out _ _ ⟨(blk_cell BK760.out 0).trans rfl, (blk_cell BK760.out 1).trans rfl, (blk_cell BK760.out 2).trans rfl, (blk_cell BK760.out 3).trans rfl⟩ (fun hHeld => ?_)
                          clear hK K
                          refine norm_ (a' := ?_) ?_ ?_
                          rotate_left
                          · show Act.put _ (some 45) _ = _
                            simp only [Act.put, List.setIfInBounds_toArray, List.set_cons_zero, List.set_cons_succ, i64_w, i32_w]
                            rfl
                          refine pure_ (i := 12) (N := some 3) (v := ?_) (a' := ?_) #[true, true, true, true, true, true, true, true, true, true, true, true, true] rfl rfl (any_of HT_.out (by kernel_rfl)) (fun _ _ _ h => h) (Or.inl ⟨by rfl, ?_⟩) ?_ ?_
                          rotate_left
                          · intro w'
                            go_simp
                            with_reducible rfl
                          rotate_left
                          · simp only [Act.put, List.setIfInBounds_toArray, List.set_cons_zero, List.set_cons_succ, i64_w, i32_w]
                            rfl
                          refine done_ (done_of HT_.out (by kernel_rfl)) ?_
                          try go_wp2
                          go_roundg k1
                          case measure => have := HK1.out; omega
                          case rel => exact ⟨(y773), (wrap64 (x9_1 + 1)), (by first | rfl | (simp; done) | (simp [*]; done) | (simp; exact isEmpty_bne _)), H', ⟨by have := HK1.out; omega⟩, ⟨by (with_reducible repeat (first | apply Kd.R_alloc | apply Kd.R_drewN | apply Kd.R_drew)); exact HO775.out⟩, ⟨by repeat (first | (with_reducible first | exact HB.out | apply below_alloc | apply pw_below_drewN | apply below_drew1 | refine below_set ?_ GE760.out) | exact HB.out)⟩⟩
                        · rw [if_neg c36] at H
                          exact absurd H (by simp)
                      · rw [if_neg c35] at H
                        exact absurd H (by simp)
                    · rw [if_neg c33] at H
                      exact absurd H (by simp)
                · rw [if_neg c7] at H
                  have c7b0 : (((rd_T58 l0 x9_1).f0).toList == ((rd_T58 l0 x9_1).f1).toList) = false := beq_eq_false_iff_ne.mpr c7
                  have c7b1 : (((rd_T58 l0 x9_1).f0).toList != ((rd_T58 l0 x9_1).f1).toList) = true := bne_iff_ne.mpr c7
                  replace H := Option.bind_eq_some_iff.mp H
                  obtain ⟨t776, A420, H⟩ := H
                  replace H : (if t776.size + ((((rd_T58 l0 x9_1).f0) ++ (⟨#[44]⟩ : ByteArray)) ++ ((rd_T58 l0 x9_1).f1)).size ≤ 9223372036854775807 then ((span_mark.f ((rd_T58 l0 x9_1).f3) (⟨#[93]⟩ : ByteArray) (⟨#[41]⟩ : ByteArray)).bind fun t777 => (if (t776 ++ ((((rd_T58 l0 x9_1).f0) ++ (⟨#[44]⟩ : ByteArray)) ++ ((rd_T58 l0 x9_1).f1))).size + t777.size ≤ 9223372036854775807 then (if x3_1.length < 8796093022208 then (span_Text.l0 k1 (x3_1 ++ [(t776 ++ ((((rd_T58 l0 x9_1).f0) ++ (⟨#[44]⟩ : ByteArray)) ++ ((rd_T58 l0 x9_1).f1))) ++ t777]) l0 (l0.length : Int) (wrap64 (x9_1 + 1))) else (none)) else (none))) else (none)) = some r := H
                  have A42 := Aside0.mk A420
                  clear A420
                  by_cases c43 : t776.size + ((((rd_T58 l0 x9_1).f0) ++ (⟨#[44]⟩ : ByteArray)) ++ ((rd_T58 l0 x9_1).f1)).size ≤ 9223372036854775807
                  · rw [if_pos c43] at H
                    have c43b0 := eq_true c43
                    have c43b1 : decide (t776.size + ((((rd_T58 l0 x9_1).f0) ++ (⟨#[44]⟩ : ByteArray)) ++ ((rd_T58 l0 x9_1).f1)).size ≤ 9223372036854775807) = true := decide_eq_true c43
                    try have c43b2 : (9223372036854775807 < t776.size + ((((rd_T58 l0 x9_1).f0) ++ (⟨#[44]⟩ : ByteArray)) ++ ((rd_T58 l0 x9_1).f1)).size) = False := eq_false (Nat.not_lt.2 c43)
                    have c43n : t776.size + ((((rd_T58 l0 x9_1).f0).size + 1) + ((rd_T58 l0 x9_1).f1).size) ≤ 9223372036854775807 := by have z_ := c43; simp only [ByteArray.size_append] at z_; exact z_
                    have c43m : (9223372036854775807 < t776.size + ((((rd_T58 l0 x9_1).f0).size + 1) + ((rd_T58 l0 x9_1).f1).size)) = False := eq_false (Nat.not_lt.2 c43n)
                    clear c43 c43b0 c43b1
                    try clear c43b2
                    replace H := Option.bind_eq_some_iff.mp H
                    obtain ⟨t777, A440, H⟩ := H
                    replace H : (if (t776 ++ ((((rd_T58 l0 x9_1).f0) ++ (⟨#[44]⟩ : ByteArray)) ++ ((rd_T58 l0 x9_1).f1))).size + t777.size ≤ 9223372036854775807 then (if x3_1.length < 8796093022208 then (span_Text.l0 k1 (x3_1 ++ [(t776 ++ ((((rd_T58 l0 x9_1).f0) ++ (⟨#[44]⟩ : ByteArray)) ++ ((rd_T58 l0 x9_1).f1))) ++ t777]) l0 (l0.length : Int) (wrap64 (x9_1 + 1))) else (none)) else (none)) = some r := H
                    have A44 := Aside0.mk A440
                    clear A440
                    by_cases c45 : (t776 ++ ((((rd_T58 l0 x9_1).f0) ++ (⟨#[44]⟩ : ByteArray)) ++ ((rd_T58 l0 x9_1).f1))).size + t777.size ≤ 9223372036854775807
                    · rw [if_pos c45] at H
                      have c45b0 := eq_true c45
                      have c45b1 : decide ((t776 ++ ((((rd_T58 l0 x9_1).f0) ++ (⟨#[44]⟩ : ByteArray)) ++ ((rd_T58 l0 x9_1).f1))).size + t777.size ≤ 9223372036854775807) = true := decide_eq_true c45
                      try have c45b2 : (9223372036854775807 < (t776 ++ ((((rd_T58 l0 x9_1).f0) ++ (⟨#[44]⟩ : ByteArray)) ++ ((rd_T58 l0 x9_1).f1))).size + t777.size) = False := eq_false (Nat.not_lt.2 c45)
                      have c45n : (t776.size + ((((rd_T58 l0 x9_1).f0).size + 1) + ((rd_T58 l0 x9_1).f1).size)) + t777.size ≤ 9223372036854775807 := by have z_ := c45; simp only [ByteArray.size_append] at z_; exact z_
                      have c45m : (9223372036854775807 < (t776.size + ((((rd_T58 l0 x9_1).f0).size + 1) + ((rd_T58 l0 x9_1).f1).size)) + t777.size) = False := eq_false (Nat.not_lt.2 c45n)
                      clear c45 c45b0 c45b1
                      try clear c45b2
                      by_cases c46 : x3_1.length < 8796093022208
                      · rw [if_pos c46] at H
                        have LMc46 := Aside0.mk c46
                        clear c46
                        obtain ⟨y778, hy778⟩ : ∃ y_ : List ByteArray, y_ = (x3_1 ++ [(t776 ++ ((((rd_T58 l0 x9_1).f0) ++ (⟨#[44]⟩ : ByteArray)) ++ ((rd_T58 l0 x9_1).f1))) ++ t777]) := ⟨_, rfl⟩
                        replace H : (span_Text.l0 k1 y778 l0 (l0.length : Int) (wrap64 (x9_1 + 1))) = some r := by first | (rw [hy778]; with_reducible exact H) | (have H2_ := (Option.bind_some _ _).symm.trans H; rw [hy778]; with_reducible exact H2_) | (have H2_ := (Option.bind_some _ _).symm.trans H; with_reducible exact H2_) | with_reducible exact H | (rw [hy778]; exact H) | exact H
                        have Ny778 := Aside0.mk hy778
                        clear hy778
                        have H' := Aside0.mk H
                        clear H
                        have p759 : 0 ≤ (x9_1 : Int) := of_decide_eq_true (by first | (with_reducible assumption) | assumption)
                        have q759 : x9_1 < (l0.length : Int) := of_decide_eq_true (by first | (with_reducible assumption) | assumption)
                        obtain ⟨ad759, e759, hx759_0, hx759_1, hx759_2, hx759_3⟩ := at_T58 HR0.out x9_1 p759 q759
                        cases e759
                        replace hx759_0 := (HB.out.cell (World.block_lt_of_cell? w _ hx759_0)).trans hx759_0
                        replace hx759_1 := (HB.out.cell (World.block_lt_of_cell? w _ hx759_1)).trans hx759_1
                        replace hx759_2 := (HB.out.cell (World.block_lt_of_cell? w _ hx759_2)).trans hx759_2
                        replace hx759_3 := (HB.out.cell (World.block_lt_of_cell? w _ hx759_3)).trans hx759_3
                        replace p759 := eq_true p759
                        replace q759 := eq_true q759
                        try go_wp2_with (first | ((with_reducible refine gate_dst (N := 5) rfl ?_); refine box_event ?hg (N := 5) ?hd (cs := #[.string (⟨#[]⟩ : ByteArray), .string (⟨#[]⟩ : ByteArray), .bool false, .bool false]) (t := 58) ?hr ?_; (case hd => rfl); (case hg => rfl); (case hr => first | (go_simp; done) | (go_simp; rfl)); intro gb760 hg w47 hbox hb; have n0_ := Aside0.mk (Kd.R_below (by (with_reducible repeat (first | apply Kd.R_alloc | apply Kd.R_drewN | apply Kd.R_drew)); exact HO_3.out) hb); have n1_ := Aside0.mk (below_step (by repeat (first | (with_reducible first | exact HB.out | apply below_alloc | apply pw_below_drewN | apply below_drew1) | exact HB.out)) hb); have n2_ := Aside0.mk (hbox); have n3_ := Aside0.mk ((by rw [hg]; exact (below_size (by repeat (first | (with_reducible first | exact HB.out | apply below_alloc | apply pw_below_drewN | apply below_drew1) | exact HB.out))) : w.heap.size ≤ gb760)); have n4_ := Aside0.mk ((by rw [hg]; exact (below_size (by repeat (first | (with_reducible first | exact HB.out | apply below_alloc | apply pw_below_drewN | apply below_drew1) | exact HB.out))) : w.heap.size ≤ gb760)); clear HO_3; clear HB; have HO_3 := n0_; have HB := n1_; have BK760 := n2_; have GW760 := n3_; have GE760 := n4_; clear n0_ n1_ n2_ n3_ n4_; clear hb hbox hg; have hcz48_0 : w47.cell? ⟨gb760, 0, none⟩ = some (.string (⟨#[]⟩ : ByteArray)) := (blk_cell BK760.out 0).trans rfl; have hcz48_1 : w47.cell? ⟨gb760, 1, none⟩ = some (.string (⟨#[]⟩ : ByteArray)) := (blk_cell BK760.out 1).trans rfl; have hcz48_2 : w47.cell? ⟨gb760, 2, none⟩ = some (.bool false) := (blk_cell BK760.out 2).trans rfl; have hcz48_3 : w47.cell? ⟨gb760, 3, none⟩ = some (.bool false) := (blk_cell BK760.out 3).trans rfl; have hfz48_0 := blk_frozen BK760.out 0; have hfz48_1 := blk_frozen BK760.out 1; have hfz48_2 := blk_frozen BK760.out 2; have hfz48_3 := blk_frozen BK760.out 3))
                        have n0_ : Aside0 (Kd.R Kd.string 9 ((((w47.setCell ⟨gb760, 0, none⟩ (.string ((rd_T58 l0 x9_1).f0))).setCell ⟨gb760, 1, none⟩ (.string ((rd_T58 l0 x9_1).f1))).setCell ⟨gb760, 2, none⟩ (.bool ((rd_T58 l0 x9_1).f2))).setCell ⟨gb760, 3, none⟩ (.bool ((rd_T58 l0 x9_1).f3))) w.heap.size (fun _ => True) u3 x3_1) := ⟨by (with_reducible repeat (first | apply Kd.R_alloc | apply Kd.R_drewN | apply Kd.R_drew)); exact Kd.R_mono (Kd.R_far (p := ⟨gb760, 3, none⟩) (Kd.R_far (p := ⟨gb760, 2, none⟩) (Kd.R_far (p := ⟨gb760, 1, none⟩) (Kd.R_far (p := ⟨gb760, 0, none⟩) (Kd.R_types HO_3.out BK760.out (by decide)) (fun _ hk => hk.2) (.string ((rd_T58 l0 x9_1).f0))) (fun _ hk => hk.2) (.string ((rd_T58 l0 x9_1).f1))) (fun _ hk => hk.2) (.bool ((rd_T58 l0 x9_1).f2))) (fun _ hk => hk.2) (.bool ((rd_T58 l0 x9_1).f3))) (fun _ hk => trivial)⟩
                        have n1_ : Aside0 (((((w47.setCell ⟨gb760, 0, none⟩ (.string ((rd_T58 l0 x9_1).f0))).setCell ⟨gb760, 1, none⟩ (.string ((rd_T58 l0 x9_1).f1))).setCell ⟨gb760, 2, none⟩ (.bool ((rd_T58 l0 x9_1).f2))).setCell ⟨gb760, 3, none⟩ (.bool ((rd_T58 l0 x9_1).f3))).heap[gb760]? = some (.cells #[.string ((rd_T58 l0 x9_1).f0), .string ((rd_T58 l0 x9_1).f1), .bool ((rd_T58 l0 x9_1).f2), .bool ((rd_T58 l0 x9_1).f3)] 58 (0, 0))) := ⟨by (with_reducible repeat (first | refine blk_drewN ?_ _ | refine blk_drew ?_ | refine blk_alloc ?_ _)); refine blk_put (cs := #[.string ((rd_T58 l0 x9_1).f0), .string ((rd_T58 l0 x9_1).f1), .bool ((rd_T58 l0 x9_1).f2), .bool false]) ?_ 3 _ rfl; (with_reducible repeat (first | refine blk_drewN ?_ _ | refine blk_drew ?_ | refine blk_alloc ?_ _)); refine blk_put (cs := #[.string ((rd_T58 l0 x9_1).f0), .string ((rd_T58 l0 x9_1).f1), .bool false, .bool false]) ?_ 2 _ rfl; (with_reducible repeat (first | refine blk_drewN ?_ _ | refine blk_drew ?_ | refine blk_alloc ?_ _)); refine blk_put (cs := #[.string ((rd_T58 l0 x9_1).f0), .string (⟨#[]⟩ : ByteArray), .bool false, .bool false]) ?_ 1 _ rfl; (with_reducible repeat (first | refine blk_drewN ?_ _ | refine blk_drew ?_ | refine blk_alloc ?_ _)); refine blk_put (cs := #[.string (⟨#[]⟩ : ByteArray), .string (⟨#[]⟩ : ByteArray), .bool false, .bool false]) ?_ 0 _ rfl; (with_reducible repeat (first | refine blk_drewN ?_ _ | refine blk_drew ?_ | refine blk_alloc ?_ _)); exact BK760.out⟩
                        have n2_ : Aside0 (Below w.heap.size w ((((w47.setCell ⟨gb760, 0, none⟩ (.string ((rd_T58 l0 x9_1).f0))).setCell ⟨gb760, 1, none⟩ (.string ((rd_T58 l0 x9_1).f1))).setCell ⟨gb760, 2, none⟩ (.bool ((rd_T58 l0 x9_1).f2))).setCell ⟨gb760, 3, none⟩ (.bool ((rd_T58 l0 x9_1).f3)))) := ⟨by repeat (first | (with_reducible first | exact HB.out | apply below_alloc | apply pw_below_drewN | apply below_drew1 | refine below_set ?_ GE760.out) | exact HB.out)⟩
                        (try clear HO_3)
                        (try clear BK760)
                        (try clear HB)
                        generalize ((((w47.setCell ⟨gb760, 0, none⟩ (.string ((rd_T58 l0 x9_1).f0))).setCell ⟨gb760, 1, none⟩ (.string ((rd_T58 l0 x9_1).f1))).setCell ⟨gb760, 2, none⟩ (.bool ((rd_T58 l0 x9_1).f2))).setCell ⟨gb760, 3, none⟩ (.bool ((rd_T58 l0 x9_1).f3))) = w49 at n0_ n1_ n2_ ⊢
                        have HO_3 := n0_
                        have BK760 := n1_
                        have HB := n2_
                        clear n0_ n1_ n2_
                        have n0_ := Aside0.mk (Kd.R_drew HO_3.out)
                        have n1_ := Aside0.mk (blk_drew BK760.out)
                        have n2_ := Aside0.mk (below_drew1 HB.out)
                        clear HO_3
                        clear BK760
                        clear HB
                        have HO_3 := n0_
                        have BK760 := n1_
                        have HB := n2_
                        clear n0_ n1_ n2_
                        refine start_ (n := 13) (S := fun w' => w'.cell? ⟨gb760, 0, none⟩ = some (.string ((rd_T58 l0 x9_1).f0)) ∧ w'.cell? ⟨gb760, 1, none⟩ = some (.string ((rd_T58 l0 x9_1).f1)) ∧ w'.cell? ⟨gb760, 2, none⟩ = some (.bool ((rd_T58 l0 x9_1).f2)) ∧ w'.cell? ⟨gb760, 3, none⟩ = some (.bool ((rd_T58 l0 x9_1).f3))) (ds := []) #[false, false, false, false, false, false, false, false, false, false, false, false, false] (by kernel_rfl) rfl rfl ⟨(blk_cell BK760.out 0).trans rfl, (blk_cell BK760.out 1).trans rfl, (blk_cell BK760.out 2).trans rfl, (blk_cell BK760.out 3).trans rfl⟩ (fun hHeld => ?_); refine with_tabW span_Text.tab8 span_Text.bits8 (fun HT_ HW_ => ?_)
                        generalize w49.drew = w50 at HO_3 BK760 HB hHeld ⊢
                        refine pure_ (i := 0) (N := some 34) (v := ?_) (a' := ?_) #[true, false, false, false, false, false, false, false, false, false, false, false, false] rfl rfl (any_of HT_.out (by kernel_rfl)) (fun _ _ _ h => h) (Or.inl ⟨by rfl, ?_⟩) ?_ ?_
                        rotate_left
                        · intro w'
                          go_simp
                          with_reducible rfl
                        rotate_left
                        · simp only [Act.put, List.setIfInBounds_toArray, List.set_cons_zero, List.set_cons_succ, i64_w, i32_w]
                          rfl
                        refine pure_ (i := 1) (N := some 35) (v := ?_) (a' := ?_) #[true, true, false, false, false, false, false, false, false, false, false, false, false] rfl rfl (any_of HT_.out (by kernel_rfl)) (fun _ _ _ h => h) (Or.inl ⟨by rfl, ?_⟩) ?_ ?_
                        rotate_left
                        · intro w'
                          go_simp
                          with_reducible rfl
                        rotate_left
                        · simp only [Act.put, List.setIfInBounds_toArray, List.set_cons_zero, List.set_cons_succ, i64_w, i32_w]
                          rfl
                        refine pure_ (i := 4) (N := some 38) (v := ?_) (a' := ?_) #[true, true, false, false, true, false, false, false, false, false, false, false, false] rfl rfl (any_of HT_.out (by kernel_rfl)) (fun _ _ _ h => h) (Or.inl ⟨by rfl, ?_⟩) ?_ ?_
                        rotate_left
                        · intro w'
                          go_simp
                          with_reducible rfl
                        rotate_left
                        · simp only [Act.put, List.setIfInBounds_toArray, List.set_cons_zero, List.set_cons_succ, i64_w, i32_w]
                          rfl
                        refine pure_ (i := 6) (N := some 40) (v := ?_) (a' := ?_) #[true, true, false, false, true, false, true, false, false, false, false, false, false] rfl rfl (any_of HT_.out (by kernel_rfl)) (fun _ _ _ h => h) (Or.inl ⟨by rfl, ?_⟩) ?_ ?_
                        rotate_left
                        · intro w'
                          go_simp
                          with_reducible rfl
                        rotate_left
                        · simp only [Act.put, List.setIfInBounds_toArray, List.set_cons_zero, List.set_cons_succ, i64_w, i32_w]
                          rfl
                        refine take_ (i := 2) (N := some 36) (v := ?_) (a' := ?_) #[true, true, true, false, true, false, true, false, false, false, false, false, false] rfl rfl (take_ofW HT_.out HW_.out (by kernel_rfl)) (fun _ _ _ h => h) (Or.inl ⟨by rfl, ?_⟩) hHeld ?_ ?_
                        rotate_left
                        · rintro w' ⟨s0, s1, s2, s3⟩
                          go_simp
                          with_reducible rfl
                        rotate_left
                        · simp only [Act.put, List.setIfInBounds_toArray, List.set_cons_zero, List.set_cons_succ, i64_w, i32_w]
                          rfl
                        refine take_ (i := 7) (N := some 41) (v := ?_) (a' := ?_) #[true, true, true, false, true, false, true, true, false, false, false, false, false] rfl rfl (take_ofW HT_.out HW_.out (by kernel_rfl)) (fun _ _ _ h => h) (Or.inl ⟨by rfl, ?_⟩) hHeld ?_ ?_
                        rotate_left
                        · rintro w' ⟨s0, s1, s2, s3⟩
                          go_simp
                          with_reducible rfl
                        rotate_left
                        · simp only [Act.put, List.setIfInBounds_toArray, List.set_cons_zero, List.set_cons_succ, i64_w, i32_w]
                          rfl
                        refine one_ (i := 3) (N := some 37) #[true, true, true, true, true, false, true, true, false, false, false, false, false] rfl rfl (one_of HT_.out (by kernel_rfl)) (by decide) (fun K hK => ?_)
                        refine goes_ Tryd.func98 (by kernel_rfl) rfl #[.bool ((rd_T58 l0 x9_1).f2), .string (⟨#[91]⟩ : ByteArray), .string (⟨#[40]⟩ : ByteArray)] (by rfl) rfl rfl (by (try simp only [List.map_toArray, List.map_cons, List.map_nil]); first | done | rfl | (simp only [List.length_drop, List.length_take]; rfl)) ?_
                        with_reducible refine (span_mark.calls ((rd_T58 l0 x9_1).f2) (⟨#[91]⟩ : ByteArray) (⟨#[40]⟩ : ByteArray) t776 _ ?side1 A42.out).mono ?_
                        (case side1 => exact Glob.step HG.out (by repeat (first | (with_reducible first | exact HB.out | apply below_alloc | apply pw_below_drewN | apply below_drew1 | refine below_set ?_ GE760.out) | exact HB.out)))
                        rintro e w' ⟨rfl, ⟨nd, rfl⟩⟩
                        refine ⟨_, rfl, ?_⟩
                        refine hK.out _ _ ⟨(blk_cell BK760.out 0).trans rfl, (blk_cell BK760.out 1).trans rfl, (blk_cell BK760.out 2).trans rfl, (blk_cell BK760.out 3).trans rfl⟩ (fun hHeld => ?_)
                        clear hK K
                        refine norm_ (a' := ?_) ?_ ?_
                        rotate_left
                        · show Act.put _ (some 37) _ = _
                          simp only [Act.put, List.setIfInBounds_toArray, List.set_cons_zero, List.set_cons_succ, i64_w, i32_w]
                          rfl
                        refine pure_ (i := 5) (N := some 39) (v := ?_) (a' := ?_) #[true, true, true, true, true, true, true, true, false, false, false, false, false] rfl rfl (any_of HT_.out (by kernel_rfl)) (fun _ _ _ h => h) (Or.inl ⟨by rfl, ?_⟩) ?_ ?_
                        rotate_left
                        · intro w'
                          go_simp
                          with_reducible rfl
                        rotate_left
                        · simp only [Act.put, List.setIfInBounds_toArray, List.set_cons_zero, List.set_cons_succ, i64_w, i32_w]
                          rfl
                        refine one_ (i := 8) (N := some 42) #[true, true, true, true, true, true, true, true, true, false, false, false, false] rfl rfl (one_of HT_.out (by kernel_rfl)) (by decide) (fun K hK => ?_)
                        refine goes_ Tryd.func98 (by kernel_rfl) rfl #[.bool ((rd_T58 l0 x9_1).f3), .string (⟨#[93]⟩ : ByteArray), .string (⟨#[41]⟩ : ByteArray)] (by rfl) rfl rfl (by (try simp only [List.map_toArray, List.map_cons, List.map_nil]); first | done | rfl | (simp only [List.length_drop, List.length_take]; rfl)) ?_
                        with_reducible refine (span_mark.calls ((rd_T58 l0 x9_1).f3) (⟨#[93]⟩ : ByteArray) (⟨#[41]⟩ : ByteArray) t777 _ ?side1 A44.out).mono ?_
                        (case side1 => exact Glob.step HG.out (by repeat (first | (with_reducible first | exact HB.out | apply below_alloc | apply pw_below_drewN | apply below_drew1 | refine below_set ?_ GE760.out) | exact HB.out)))
                        rintro e w' ⟨rfl, ⟨nd, rfl⟩⟩
                        refine ⟨_, rfl, ?_⟩
                        refine hK.out _ _ ⟨(blk_cell BK760.out 0).trans rfl, (blk_cell BK760.out 1).trans rfl, (blk_cell BK760.out 2).trans rfl, (blk_cell BK760.out 3).trans rfl⟩ (fun hHeld => ?_)
                        clear hK K
                        refine norm_ (a' := ?_) ?_ ?_
                        rotate_left
                        · show Act.put _ (some 42) _ = _
                          simp only [Act.put, List.setIfInBounds_toArray, List.set_cons_zero, List.set_cons_succ, i64_w, i32_w]
                          rfl
                        refine pure_ (i := 9) (N := some 43) (v := ?_) (a' := ?_) #[true, true, true, true, true, true, true, true, true, true, false, false, false] rfl rfl (any_of HT_.out (by kernel_rfl)) (fun _ _ _ h => h) (Or.inl ⟨by rfl, ?_⟩) ?_ ?_
                        rotate_left
                        · intro w'
                          go_simp
                          with_reducible rfl
                        rotate_left
                        · simp only [Act.put, List.setIfInBounds_toArray, List.set_cons_zero, List.set_cons_succ, i64_w, i32_w]
                          rfl
                        refine one_ (i := 10) (N := some 44) #[true, true, true, true, true, true, true, true, true, true, true, false, false] rfl rfl (one_of HT_.out (by kernel_rfl)) (by decide) (fun K hK => ?_)
                        refine value_ (w1 := ?_) (v := ?_) (by rfl) rfl ?_ ?_
                        rotate_left 2
                        · go_simp
                          constructor
                          · rfl
                          · rfl
                        refine hK.out _ _ ⟨(blk_cell (blk_alloc BK760.out _) 0).trans rfl, (blk_cell (blk_alloc BK760.out _) 1).trans rfl, (blk_cell (blk_alloc BK760.out _) 2).trans rfl, (blk_cell (blk_alloc BK760.out _) 3).trans rfl⟩ (fun hHeld => ?_)
                        clear hK K
                        refine norm_ (a' := ?_) ?_ ?_
                        rotate_left
                        · show Act.put _ (some 44) _ = _
                          simp only [Act.put, List.setIfInBounds_toArray, List.set_cons_zero, List.set_cons_succ, i64_w, i32_w]
                          rfl
                        refine one_ (i := 11) (N := some 45) #[true, true, true, true, true, true, true, true, true, true, true, true, false] rfl rfl (one_of HT_.out (by kernel_rfl)) (by decide) (fun K hK => ?_)
                        refine Kd.R_append_step Kd.string (w0 := w) w.heap.size (by rfl) (.tmp 34) (.tmp 44) 43 9 (.string ⟨#[]⟩) 16 rfl Tryd.underlying43 info9 rfl (by decide) (by omega) u3 x3_1 ((t776 ++ ((((rd_T58 l0 x9_1).f0) ++ (⟨#[44]⟩ : ByteArray)) ++ ((rd_T58 l0 x9_1).f1))) ++ t777) [.string ((t776 ++ ((((rd_T58 l0 x9_1).f0) ++ (⟨#[44]⟩ : ByteArray)) ++ ((rd_T58 l0 x9_1).f1))) ++ t777)] (fun _ => True) (fun _ => False) rfl rfl ?aP (fun _ hk => hk.elim) ?aF ?aO ?aB ?aS ?aL ?_
                        (case aP => exact rfl)
                        (case aB => exact (by repeat (first | (with_reducible first | exact HB.out | apply below_alloc | apply pw_below_drewN | apply below_drew1 | refine below_set ?_ GE760.out) | exact HB.out)))
                        (case aF => exact (fun _ _ => trivial))
                        (case aO => exact (by (with_reducible repeat (first | apply Kd.R_alloc | apply Kd.R_drewN | apply Kd.R_drew)); exact HO_3.out))
                        (case aS => exact (below_size (by repeat (first | (with_reducible first | exact HB.out | apply below_alloc | apply pw_below_drewN | apply below_drew1 | refine below_set ?_ GE760.out) | exact HB.out))))
                        (case aL => have := LMc46.out; omega)
                        intro v779 w51 ho hb hg hat
                        rw [← Ny778.out] at ho
                        have n0_ := Aside0.mk (blk_grown (g := gb760) (o := .cells #[.string ((rd_T58 l0 x9_1).f0), .string ((rd_T58 l0 x9_1).f1), .bool ((rd_T58 l0 x9_1).f2), .bool ((rd_T58 l0 x9_1).f3)] 58 (0, 0)) (by (with_reducible repeat (first | refine blk_drewN ?_ _ | refine blk_drew ?_ | refine blk_alloc ?_ _)); exact BK760.out) hg (Kd.R_ne HO_3.out BK760.out (by decide)))
                        have n1_ := Aside0.mk (hb)
                        have n2_ := Aside0.mk (ho)
                        clear BK760
                        clear HB
                        clear HO_3
                        have BK760 := n0_
                        have HB := n1_
                        have HO780 := n2_
                        clear n0_ n1_ n2_
                        clear ho hb hg hat
                        refine hK.out _ _ ⟨(blk_cell BK760.out 0).trans rfl, (blk_cell BK760.out 1).trans rfl, (blk_cell BK760.out 2).trans rfl, (blk_cell BK760.out 3).trans rfl⟩ (fun hHeld => ?_)
                        clear hK K
                        refine norm_ (a' := ?_) ?_ ?_
                        rotate_left
                        · show Act.put _ (some 45) _ = _
                          simp only [Act.put, List.setIfInBounds_toArray, List.set_cons_zero, List.set_cons_succ, i64_w, i32_w]
                          rfl
                        refine pure_ (i := 12) (N := some 3) (v := ?_) (a' := ?_) #[true, true, true, true, true, true, true, true, true, true, true, true, true] rfl rfl (any_of HT_.out (by kernel_rfl)) (fun _ _ _ h => h) (Or.inl ⟨by rfl, ?_⟩) ?_ ?_
                        rotate_left
                        · intro w'
                          go_simp
                          with_reducible rfl
                        rotate_left
                        · simp only [Act.put, List.setIfInBounds_toArray, List.set_cons_zero, List.set_cons_succ, i64_w, i32_w]
                          rfl
                        refine done_ (done_of HT_.out (by kernel_rfl)) ?_
                        try go_wp2
                        go_roundg k1
                        case measure => have := HK1.out; omega
                        case rel => exact ⟨(y778), (wrap64 (x9_1 + 1)), (by first | rfl | (simp; done) | (simp [*]; done) | (simp; exact isEmpty_bne _)), H', ⟨by have := HK1.out; omega⟩, ⟨by (with_reducible repeat (first | apply Kd.R_alloc | apply Kd.R_drewN | apply Kd.R_drew)); exact HO780.out⟩, ⟨by repeat (first | (with_reducible first | exact HB.out | apply below_alloc | apply pw_below_drewN | apply below_drew1 | refine below_set ?_ GE760.out) | exact HB.out)⟩⟩
                      · rw [if_neg c46] at H
                        exact absurd H (by simp)
                    · rw [if_neg c45] at H
                      exact absurd H (by simp)
                  · rw [if_neg c43] at H
                    exact absurd H (by simp)
              · rw [if_neg c6] at H
                exact absurd H (by simp)
            · rw [if_neg c5] at H
              exact absurd H (by simp)
          · rw [if_neg c4] at H
            exact absurd H (by simp)
        · rw [if_neg c3] at H
          exact absurd H (by simp)
      · rw [if_neg c2] at H
        have c2b0 : decide (x9_1 < (l0.length : Int)) = false := decide_eq_false c2
        clear c2
        replace H := Option.bind_eq_some_iff.mp H
        obtain ⟨t781, A520, H⟩ := H
        replace H : (some t781) = some r := H
        have A52 := Aside0.mk A520
        clear A520
        obtain rfl := Option.some.inj H
        obtain ⟨Ao53, co53, eo53⟩ := Kd.R_slice HO_3.out
        subst eo53
        go_wp2_with (first | ((with_reducible refine gate_callee (f := 99) rfl ?_); refine goesL_ (some 48) rfl rfl Tryd.func99 (by kernel_rfl) rfl #[.slice Ao53 x3_1.length co53, .string (⟨#[44]⟩ : ByteArray)] rfl (by (try simp only [List.map_toArray, List.map_cons, List.map_nil]); first | done | rfl | (simp only [List.length_drop, List.length_take]; rfl)) ?_; (with_reducible refine (strings_Join.calls _ _ x3_1 (⟨#[44]⟩ : ByteArray) t781 _ ?side1 ?side2 ?side3 A52.out).mono ?_); (case side1 => repeat (first | exact (Kd.R_reads' HO_3.out).2.2 | (with_reducible refine Kd.C_alloc ?_ _) | (with_reducible refine Kd.C_drewN ?_ _) | (with_reducible refine Kd.C_drew ?_))); (case side2 => exact (Kd.R_reads' HO_3.out).2.1); (case side3 => exact Glob.step HG.out (by repeat (first | (with_reducible first | exact HB.out | apply below_alloc | apply pw_below_drewN | apply below_drew1) | exact HB.out))); rintro e w54 ⟨rfl, hb⟩; refine ⟨_, rfl, ?_⟩; have n0_ := Aside0.mk (Kd.R_below (by (with_reducible repeat (first | apply Kd.R_alloc | apply Kd.R_drewN | apply Kd.R_drew)); exact HO_3.out) hb); have n1_ := Aside0.mk (below_step (by repeat (first | (with_reducible first | exact HB.out | apply below_alloc | apply pw_below_drewN | apply below_drew1) | exact HB.out)) hb); clear HO_3; clear HB; have HO_3 := n0_; have HB := n1_; clear n0_ n1_; (try clear hb); (try clear hb2); (try clear hk); (try clear hi)))
        go_ret
        exact ⟨by first | rfl | (simp [errW_none, errW_some] <;> rfl) | (simp [*, errW_none, errW_some] <;> rfl), by repeat (first | (with_reducible first | exact HB.out | apply below_alloc | apply pw_below_drewN | apply below_drew1) | exact HB.out)⟩

end Go.Proofs.YtgdjfcmmpjcaaaaDoor.Q

-- Printed by this session's wip/np.py over the kit's print program. Not trusted: Lean checks it.
namespace Go.Proofs.YtgdjfcmmpjcaaaaDoor.Q
open Go.RowKit Go.Proofs.YtgdjfcmmpjcaaaaDoorW.PrintWords Go.Proofs.YtgdjfcmmpjcaaaaDoorW.PrintLast Go.Proofs.YtgdjfcmmpjcaaaaDoorW.Own Go.Proofs.YtgdjfcmmpjcaaaaDoorW.PrintMore
attribute [local go_sem] max2_int min2_int max_two min_two max_three min_three max_four min_four
set_option linter.unusedVariables false
set_option linter.unusedSimpArgs false

/-! ### newellaw07_awake: function 57 -/
def newellaw07_awake.f (k : Nat)  : Option (Bool) := (span_Parse.f k (⟨#[91, 49, 44, 50, 41]⟩ : ByteArray)).bind fun bt782 => (if bt782.2 = 0 then (if (bt782.1.length : Int) = 1 then ((span_Holds.f k bt782.1 (⟨#[49, 46, 53]⟩ : ByteArray)).bind fun t786 => (if t786 = true then ((span_Is.f (⟨#[40]⟩ : ByteArray)).bind fun t787 => (if t787 = true then ((span_Text.f k bt782.1).bind fun t788 => (some (t788.toList == ([91, 49, 44, 50, 41] : List UInt8)))) else (some false))) else (some false))) else (some false)) else (some false))
theorem newellaw07_awake.mono : ∀ k, LeO (newellaw07_awake.f k ) (newellaw07_awake.f (k + 1) ) := by
  intro  k
  unfold newellaw07_awake.f
  repeat' first
      | (with_reducible exact span_Holds.mono _ _ _)
      | (with_reducible exact span_Parse.mono _ _)
      | (with_reducible exact span_Text.mono _ _)
      | (with_reducible exact LeO.refl _)
      | (with_reducible exact LeO.none _)
      | (with_reducible refine LeO.ite ?_ ?_)
      | (with_reducible refine LeO.bind ?_ (fun _ => ?_))
      | exact span_Holds.mono _ _ _
      | exact span_Parse.mono _ _
      | exact span_Text.mono _ _
      | exact LeO.none _
      | refine LeO.ite ?_ ?_
      | refine LeO.bind ?_ (fun _ => ?_)
set_option maxHeartbeats 8000000 in
set_option maxRecDepth 100000 in
theorem newellaw07_awake.calls (k : Nat)  (r : Bool) (w : World) (hG : Glob w) (h : newellaw07_awake.f k  = some r) :
    Calls Tryd.prog 57 #[] w fun e w' => e = .returned (.bool r) ∧ Below w.heap.size w w' := by
  have HG := Aside0.mk hG
  clear hG
  have HB := Aside0.mk (Below.refl w.heap.size w)
  have H : ((span_Parse.f k (⟨#[91, 49, 44, 50, 41]⟩ : ByteArray)).bind fun bt782 => (if bt782.2 = 0 then (if (bt782.1.length : Int) = 1 then ((span_Holds.f k bt782.1 (⟨#[49, 46, 53]⟩ : ByteArray)).bind fun t786 => (if t786 = true then ((span_Is.f (⟨#[40]⟩ : ByteArray)).bind fun t787 => (if t787 = true then ((span_Text.f k bt782.1).bind fun t788 => (some (t788.toList == ([91, 49, 44, 50, 41] : List UInt8)))) else (some false))) else (some false))) else (some false)) else (some false))) = some r := h
  clear h
  replace H := Option.bind_eq_some_iff.mp H
  obtain ⟨⟨t782, t783⟩, A10, H⟩ := H
  replace H : (if t783 = 0 then (if (t782.length : Int) = 1 then ((span_Holds.f k t782 (⟨#[49, 46, 53]⟩ : ByteArray)).bind fun t786 => (if t786 = true then ((span_Is.f (⟨#[40]⟩ : ByteArray)).bind fun t787 => (if t787 = true then ((span_Text.f k t782).bind fun t788 => (some (t788.toList == ([91, 49, 44, 50, 41] : List UInt8)))) else (some false))) else (some false))) else (some false)) else (some false)) = some r := H
  have A1 := Aside0.mk A10
  clear A10
  by_cases c2 : t783 = 0
  · rw [if_pos c2] at H
    have c2b0 : (t783 == 0) = true := beq_iff_eq.mpr c2
    have c2b1 : (t783 != 0) = false := bne_eq_false_iff_eq.mpr c2
    clear c2
    by_cases c3 : (t782.length : Int) = 1
    · rw [if_pos c3] at H
      have c3b0 : ((t782.length : Int) == 1) = true := beq_iff_eq.mpr c3
      have c3b1 : ((t782.length : Int) != 1) = false := bne_eq_false_iff_eq.mpr c3
      clear c3
      replace H := Option.bind_eq_some_iff.mp H
      obtain ⟨t786, A40, H⟩ := H
      replace H : (if t786 = true then ((span_Is.f (⟨#[40]⟩ : ByteArray)).bind fun t787 => (if t787 = true then ((span_Text.f k t782).bind fun t788 => (some (t788.toList == ([91, 49, 44, 50, 41] : List UInt8)))) else (some false))) else (some false)) = some r := H
      have A4 := Aside0.mk A40
      clear A40
      by_cases c5 : t786 = true
      · subst c5
        have H1 : ((span_Is.f (⟨#[40]⟩ : ByteArray)).bind fun t787 => (if t787 = true then ((span_Text.f k t782).bind fun t788 => (some (t788.toList == ([91, 49, 44, 50, 41] : List UInt8)))) else (some false))) = some r := by rw [if_pos rfl] at H; exact H
        clear H
        have H := H1
        clear H1
        replace H := Option.bind_eq_some_iff.mp H
        obtain ⟨t787, A60, H⟩ := H
        replace H : (if t787 = true then ((span_Text.f k t782).bind fun t788 => (some (t788.toList == ([91, 49, 44, 50, 41] : List UInt8)))) else (some false)) = some r := H
        have A6 := Aside0.mk A60
        clear A60
        by_cases c7 : t787 = true
        · subst c7
          have H1 : ((span_Text.f k t782).bind fun t788 => (some (t788.toList == ([91, 49, 44, 50, 41] : List UInt8)))) = some r := by rw [if_pos rfl] at H; exact H
          clear H
          have H := H1
          clear H1
          replace H := Option.bind_eq_some_iff.mp H
          obtain ⟨t788, A80, H⟩ := H
          replace H : (some (t788.toList == ([91, 49, 44, 50, 41] : List UInt8))) = some r := H
          have A8 := Aside0.mk A80
          clear A80
          obtain rfl := Option.some.inj H
          go_enter Tryd.func57, Tryd.ntmps57
          go_wp2_with (first | ((with_reducible refine gate_callee (f := 56) rfl ?_); refine goesL_ (some 4) rfl rfl Tryd.func56 (by kernel_rfl) rfl #[.string (⟨#[91, 49, 44, 50, 41]⟩ : ByteArray)] rfl (by (try simp only [List.map_toArray, List.map_cons, List.map_nil]); first | done | rfl | (simp only [List.length_drop, List.length_take]; rfl)) ?_; (with_reducible refine (span_Parse.calls k (⟨#[91, 49, 44, 50, 41]⟩ : ByteArray) t782 t783 _ ?side1 A1.out).mono ?_); (case side1 => exact Glob.step HG.out (by repeat (first | (with_reducible first | exact HB.out | apply below_alloc | apply pw_below_drewN | apply below_drew1) | exact HB.out))); rintro e w9 ⟨v784, rfl, ho0, hb⟩; refine ⟨_, rfl, ?_⟩; have n0_ := Aside0.mk (Kd.R_lower ho0 (below_size (by repeat (first | (with_reducible first | exact HB.out | apply below_alloc | apply pw_below_drewN | apply below_drew1) | exact HB.out)))); have n1_ := Aside0.mk (below_step (by repeat (first | (with_reducible first | exact HB.out | apply below_alloc | apply pw_below_drewN | apply below_drew1) | exact HB.out)) hb); clear HB; have HO785 := n0_; have HB := n1_; clear n0_ n1_; (try clear hb); (try clear hb2); (try clear hk); (try clear hi); (try clear ho0); obtain ⟨Ao10, co10, eo10⟩ := Kd.R_slice HO785.out; subst eo10) | (go_at_call 58; (with_reducible refine (span_Holds.calls k _ _ t782 (⟨#[49, 46, 53]⟩ : ByteArray) true _ ?side1 ?side2 ?side3 A4.out).mono ?_); (case side1 => repeat (first | exact (Kd.R_reads' HO785.out).2.2 | (with_reducible refine Kd.C_alloc ?_ _) | (with_reducible refine Kd.C_drewN ?_ _) | (with_reducible refine Kd.C_drew ?_))); (case side2 => exact (Kd.R_reads' HO785.out).2.1); (case side3 => exact Glob.step HG.out (by repeat (first | (with_reducible first | exact HB.out | apply below_alloc | apply pw_below_drewN | apply below_drew1) | exact HB.out))); rintro e w11 ⟨rfl, hb⟩; have n0_ := Aside0.mk (Kd.R_below (by (with_reducible repeat (first | apply Kd.R_alloc | apply Kd.R_drewN | apply Kd.R_drew)); exact HO785.out) hb); have n1_ := Aside0.mk (below_step (by repeat (first | (with_reducible first | exact HB.out | apply below_alloc | apply pw_below_drewN | apply below_drew1) | exact HB.out)) hb); clear HO785; clear HB; have HO785 := n0_; have HB := n1_; clear n0_ n1_; (try clear hb); (try clear hb2); (try clear hk); (try clear hi)) | (go_at_call 86; (with_reducible refine (span_Is.calls (⟨#[40]⟩ : ByteArray) true _ ?side1 A6.out).mono ?_); (case side1 => exact Glob.step HG.out (by repeat (first | (with_reducible first | exact HB.out | apply below_alloc | apply pw_below_drewN | apply below_drew1) | exact HB.out))); rintro e w' ⟨rfl, ⟨nd, rfl⟩⟩) | (go_at_call 59; (with_reducible refine (span_Text.calls k _ _ t782 t788 _ ?side1 ?side2 ?side3 A8.out).mono ?_); (case side1 => repeat (first | exact (Kd.R_reads' HO785.out).2.2 | (with_reducible refine Kd.C_alloc ?_ _) | (with_reducible refine Kd.C_drewN ?_ _) | (with_reducible refine Kd.C_drew ?_))); (case side2 => exact (Kd.R_reads' HO785.out).2.1); (case side3 => exact Glob.step HG.out (by repeat (first | (with_reducible first | exact HB.out | apply below_alloc | apply pw_below_drewN | apply below_drew1) | exact HB.out))); rintro e w12 ⟨rfl, hb⟩; have n0_ := Aside0.mk (Kd.R_below (by (with_reducible repeat (first | apply Kd.R_alloc | apply Kd.R_drewN | apply Kd.R_drew)); exact HO785.out) hb); have n1_ := Aside0.mk (below_step (by repeat (first | (with_reducible first | exact HB.out | apply below_alloc | apply pw_below_drewN | apply below_drew1) | exact HB.out)) hb); clear HO785; clear HB; have HO785 := n0_; have HB := n1_; clear n0_ n1_; (try clear hb); (try clear hb2); (try clear hk); (try clear hi)))
          go_ret
          exact ⟨by first | rfl | (simp [errW_none, errW_some] <;> rfl) | (simp [*, errW_none, errW_some] <;> rfl), by repeat (first | (with_reducible first | exact HB.out | apply below_alloc | apply pw_below_drewN | apply below_drew1) | exact HB.out)⟩
        · replace c7 := Bool.eq_false_iff.mpr c7
          subst c7
          have H1 : (some false) = some r := by rw [if_neg (show ¬ (false = true) by decide)] at H; exact H
          clear H
          have H := H1
          clear H1
          obtain rfl := Option.some.inj H
          go_enter Tryd.func57, Tryd.ntmps57
          go_wp2_with (first | ((with_reducible refine gate_callee (f := 56) rfl ?_); refine goesL_ (some 4) rfl rfl Tryd.func56 (by kernel_rfl) rfl #[.string (⟨#[91, 49, 44, 50, 41]⟩ : ByteArray)] rfl (by (try simp only [List.map_toArray, List.map_cons, List.map_nil]); first | done | rfl | (simp only [List.length_drop, List.length_take]; rfl)) ?_; (with_reducible refine (span_Parse.calls k (⟨#[91, 49, 44, 50, 41]⟩ : ByteArray) t782 t783 _ ?side1 A1.out).mono ?_); (case side1 => exact Glob.step HG.out (by repeat (first | (with_reducible first | exact HB.out | apply below_alloc | apply pw_below_drewN | apply below_drew1) | exact HB.out))); rintro e w13 ⟨v784, rfl, ho0, hb⟩; refine ⟨_, rfl, ?_⟩; have n0_ := Aside0.mk (Kd.R_lower ho0 (below_size (by repeat (first | (with_reducible first | exact HB.out | apply below_alloc | apply pw_below_drewN | apply below_drew1) | exact HB.out)))); have n1_ := Aside0.mk (below_step (by repeat (first | (with_reducible first | exact HB.out | apply below_alloc | apply pw_below_drewN | apply below_drew1) | exact HB.out)) hb); clear HB; have HO785 := n0_; have HB := n1_; clear n0_ n1_; (try clear hb); (try clear hb2); (try clear hk); (try clear hi); (try clear ho0); obtain ⟨Ao14, co14, eo14⟩ := Kd.R_slice HO785.out; subst eo14) | (go_at_call 58; (with_reducible refine (span_Holds.calls k _ _ t782 (⟨#[49, 46, 53]⟩ : ByteArray) true _ ?side1 ?side2 ?side3 A4.out).mono ?_); (case side1 => repeat (first | exact (Kd.R_reads' HO785.out).2.2 | (with_reducible refine Kd.C_alloc ?_ _) | (with_reducible refine Kd.C_drewN ?_ _) | (with_reducible refine Kd.C_drew ?_))); (case side2 => exact (Kd.R_reads' HO785.out).2.1); (case side3 => exact Glob.step HG.out (by repeat (first | (with_reducible first | exact HB.out | apply below_alloc | apply pw_below_drewN | apply below_drew1) | exact HB.out))); rintro e w15 ⟨rfl, hb⟩; have n0_ := Aside0.mk (Kd.R_below (by (with_reducible repeat (first | apply Kd.R_alloc | apply Kd.R_drewN | apply Kd.R_drew)); exact HO785.out) hb); have n1_ := Aside0.mk (below_step (by repeat (first | (with_reducible first | exact HB.out | apply below_alloc | apply pw_below_drewN | apply below_drew1) | exact HB.out)) hb); clear HO785; clear HB; have HO785 := n0_; have HB := n1_; clear n0_ n1_; (try clear hb); (try clear hb2); (try clear hk); (try clear hi)) | (go_at_call 86; (with_reducible refine (span_Is.calls (⟨#[40]⟩ : ByteArray) false _ ?side1 A6.out).mono ?_); (case side1 => exact Glob.step HG.out (by repeat (first | (with_reducible first | exact HB.out | apply below_alloc | apply pw_below_drewN | apply below_drew1) | exact HB.out))); rintro e w' ⟨rfl, ⟨nd, rfl⟩⟩))
          go_ret
          exact ⟨by first | rfl | (simp [errW_none, errW_some] <;> rfl) | (simp [*, errW_none, errW_some] <;> rfl), by repeat (first | (with_reducible first | exact HB.out | apply below_alloc | apply pw_below_drewN | apply below_drew1) | exact HB.out)⟩
      · replace c5 := Bool.eq_false_iff.mpr c5
        subst c5
        have H1 : (some false) = some r := by rw [if_neg (show ¬ (false = true) by decide)] at H; exact H
        clear H
        have H := H1
        clear H1
        obtain rfl := Option.some.inj H
        go_enter Tryd.func57, Tryd.ntmps57
        go_wp2_with (first | ((with_reducible refine gate_callee (f := 56) rfl ?_); refine goesL_ (some 4) rfl rfl Tryd.func56 (by kernel_rfl) rfl #[.string (⟨#[91, 49, 44, 50, 41]⟩ : ByteArray)] rfl (by (try simp only [List.map_toArray, List.map_cons, List.map_nil]); first | done | rfl | (simp only [List.length_drop, List.length_take]; rfl)) ?_; (with_reducible refine (span_Parse.calls k (⟨#[91, 49, 44, 50, 41]⟩ : ByteArray) t782 t783 _ ?side1 A1.out).mono ?_); (case side1 => exact Glob.step HG.out (by repeat (first | (with_reducible first | exact HB.out | apply below_alloc | apply pw_below_drewN | apply below_drew1) | exact HB.out))); rintro e w16 ⟨v784, rfl, ho0, hb⟩; refine ⟨_, rfl, ?_⟩; have n0_ := Aside0.mk (Kd.R_lower ho0 (below_size (by repeat (first | (with_reducible first | exact HB.out | apply below_alloc | apply pw_below_drewN | apply below_drew1) | exact HB.out)))); have n1_ := Aside0.mk (below_step (by repeat (first | (with_reducible first | exact HB.out | apply below_alloc | apply pw_below_drewN | apply below_drew1) | exact HB.out)) hb); clear HB; have HO785 := n0_; have HB := n1_; clear n0_ n1_; (try clear hb); (try clear hb2); (try clear hk); (try clear hi); (try clear ho0); obtain ⟨Ao17, co17, eo17⟩ := Kd.R_slice HO785.out; subst eo17) | (go_at_call 58; (with_reducible refine (span_Holds.calls k _ _ t782 (⟨#[49, 46, 53]⟩ : ByteArray) false _ ?side1 ?side2 ?side3 A4.out).mono ?_); (case side1 => repeat (first | exact (Kd.R_reads' HO785.out).2.2 | (with_reducible refine Kd.C_alloc ?_ _) | (with_reducible refine Kd.C_drewN ?_ _) | (with_reducible refine Kd.C_drew ?_))); (case side2 => exact (Kd.R_reads' HO785.out).2.1); (case side3 => exact Glob.step HG.out (by repeat (first | (with_reducible first | exact HB.out | apply below_alloc | apply pw_below_drewN | apply below_drew1) | exact HB.out))); rintro e w18 ⟨rfl, hb⟩; have n0_ := Aside0.mk (Kd.R_below (by (with_reducible repeat (first | apply Kd.R_alloc | apply Kd.R_drewN | apply Kd.R_drew)); exact HO785.out) hb); have n1_ := Aside0.mk (below_step (by repeat (first | (with_reducible first | exact HB.out | apply below_alloc | apply pw_below_drewN | apply below_drew1) | exact HB.out)) hb); clear HO785; clear HB; have HO785 := n0_; have HB := n1_; clear n0_ n1_; (try clear hb); (try clear hb2); (try clear hk); (try clear hi)))
        go_ret
        exact ⟨by first | rfl | (simp [errW_none, errW_some] <;> rfl) | (simp [*, errW_none, errW_some] <;> rfl), by repeat (first | (with_reducible first | exact HB.out | apply below_alloc | apply pw_below_drewN | apply below_drew1) | exact HB.out)⟩
    · rw [if_neg c3] at H
      have c3b0 : ((t782.length : Int) == 1) = false := beq_eq_false_iff_ne.mpr c3
      have c3b1 : ((t782.length : Int) != 1) = true := bne_iff_ne.mpr c3
      obtain rfl := Option.some.inj H
      go_enter Tryd.func57, Tryd.ntmps57
      go_wp2_with (first | ((with_reducible refine gate_callee (f := 56) rfl ?_); refine goesL_ (some 4) rfl rfl Tryd.func56 (by kernel_rfl) rfl #[.string (⟨#[91, 49, 44, 50, 41]⟩ : ByteArray)] rfl (by (try simp only [List.map_toArray, List.map_cons, List.map_nil]); first | done | rfl | (simp only [List.length_drop, List.length_take]; rfl)) ?_; (with_reducible refine (span_Parse.calls k (⟨#[91, 49, 44, 50, 41]⟩ : ByteArray) t782 t783 _ ?side1 A1.out).mono ?_); (case side1 => exact Glob.step HG.out (by repeat (first | (with_reducible first | exact HB.out | apply below_alloc | apply pw_below_drewN | apply below_drew1) | exact HB.out))); rintro e w19 ⟨v784, rfl, ho0, hb⟩; refine ⟨_, rfl, ?_⟩; have n0_ := Aside0.mk (Kd.R_lower ho0 (below_size (by repeat (first | (with_reducible first | exact HB.out | apply below_alloc | apply pw_below_drewN | apply below_drew1) | exact HB.out)))); have n1_ := Aside0.mk (below_step (by repeat (first | (with_reducible first | exact HB.out | apply below_alloc | apply pw_below_drewN | apply below_drew1) | exact HB.out)) hb); clear HB; have HO785 := n0_; have HB := n1_; clear n0_ n1_; (try clear hb); (try clear hb2); (try clear hk); (try clear hi); (try clear ho0); obtain ⟨Ao20, co20, eo20⟩ := Kd.R_slice HO785.out; subst eo20))
      go_ret
      exact ⟨by first | rfl | (simp [errW_none, errW_some] <;> rfl) | (simp [*, errW_none, errW_some] <;> rfl), by repeat (first | (with_reducible first | exact HB.out | apply below_alloc | apply pw_below_drewN | apply below_drew1) | exact HB.out)⟩
  · rw [if_neg c2] at H
    have c2b0 : (t783 == 0) = false := beq_eq_false_iff_ne.mpr c2
    have c2b1 : (t783 != 0) = true := bne_iff_ne.mpr c2
    obtain rfl := Option.some.inj H
    go_enter Tryd.func57, Tryd.ntmps57
    go_wp2_with (first | ((with_reducible refine gate_callee (f := 56) rfl ?_); refine goesL_ (some 4) rfl rfl Tryd.func56 (by kernel_rfl) rfl #[.string (⟨#[91, 49, 44, 50, 41]⟩ : ByteArray)] rfl (by (try simp only [List.map_toArray, List.map_cons, List.map_nil]); first | done | rfl | (simp only [List.length_drop, List.length_take]; rfl)) ?_; (with_reducible refine (span_Parse.calls k (⟨#[91, 49, 44, 50, 41]⟩ : ByteArray) t782 t783 _ ?side1 A1.out).mono ?_); (case side1 => exact Glob.step HG.out (by repeat (first | (with_reducible first | exact HB.out | apply below_alloc | apply pw_below_drewN | apply below_drew1) | exact HB.out))); rintro e w21 ⟨v784, rfl, ho0, hb⟩; refine ⟨_, rfl, ?_⟩; have n0_ := Aside0.mk (Kd.R_lower ho0 (below_size (by repeat (first | (with_reducible first | exact HB.out | apply below_alloc | apply pw_below_drewN | apply below_drew1) | exact HB.out)))); have n1_ := Aside0.mk (below_step (by repeat (first | (with_reducible first | exact HB.out | apply below_alloc | apply pw_below_drewN | apply below_drew1) | exact HB.out)) hb); clear HB; have HO785 := n0_; have HB := n1_; clear n0_ n1_; (try clear hb); (try clear hb2); (try clear hk); (try clear hi); (try clear ho0)))
    go_ret
    exact ⟨by first | rfl | (simp [errW_none, errW_some] <;> rfl) | (simp [*, errW_none, errW_some] <;> rfl), by repeat (first | (with_reducible first | exact HB.out | apply below_alloc | apply pw_below_drewN | apply below_drew1) | exact HB.out)⟩

end Go.Proofs.YtgdjfcmmpjcaaaaDoor.Q

-- Printed by this session's wip/np.py over the kit's print program. Not trusted: Lean checks it.
namespace Go.Proofs.YtgdjfcmmpjcaaaaDoor.Q
open Go.RowKit Go.Proofs.YtgdjfcmmpjcaaaaDoorW.PrintWords Go.Proofs.YtgdjfcmmpjcaaaaDoorW.PrintLast Go.Proofs.YtgdjfcmmpjcaaaaDoorW.Own Go.Proofs.YtgdjfcmmpjcaaaaDoorW.PrintMore
attribute [local go_sem] max2_int min2_int max_two min_two max_three min_three max_four min_four
set_option linter.unusedVariables false
set_option linter.unusedSimpArgs false

theorem eqA58 (d : Nat) (w : World) (x0 y0 : ByteArray) (x1 y1 : ByteArray) (x2 y2 : Bool) (x3 y3 : Bool) :
    (Op.equalIn (d + 2) 58 (.agg #[.string x0, .string x1, .bool x2, .bool x3]) (.agg #[.string y0, .string y1, .bool y2, .bool y3])).run Tryd.prog w = .ok (x0.toList == y0.toList && (x1.toList == y1.toList && (x2 == y2 && (x3 == y3)))) w := by
  refine eqA_of Tryd.underlying58 (by kernel_rfl) ?_
  refine eqf_cons (by rfl) (by go_simp; rfl) (by go_simp; rfl) (by go_simp) ?_
  refine eqf_cons (by rfl) (by go_simp; rfl) (by go_simp; rfl) (by go_simp) ?_
  refine eqf_cons (by rfl) (by go_simp; rfl) (by go_simp; rfl) (by go_simp) ?_
  exact eqf_last (by rfl) (by go_simp; rfl) (by go_simp; rfl) (by go_simp)
end Go.Proofs.YtgdjfcmmpjcaaaaDoor.Q

-- Printed by this session's wip/np.py over the kit's print program. Not trusted: Lean checks it.
namespace Go.Proofs.YtgdjfcmmpjcaaaaDoor.Q
open Go.RowKit Go.Proofs.YtgdjfcmmpjcaaaaDoorW.PrintWords Go.Proofs.YtgdjfcmmpjcaaaaDoorW.PrintLast Go.Proofs.YtgdjfcmmpjcaaaaDoorW.Own Go.Proofs.YtgdjfcmmpjcaaaaDoorW.PrintMore
attribute [local go_sem] max2_int min2_int max_two min_two max_three min_three max_four min_four
set_option linter.unusedVariables false
set_option linter.unusedSimpArgs false

attribute [local go_sem high] eqA58
/-! ### api_Span_1: function 101 -/
def api_Span_1.f (a0_0 : ByteArray) (a0_1 : ByteArray) (a0_2 : Bool) (a0_3 : Bool) (a1_0 : ByteArray) (a1_1 : ByteArray) (a1_2 : Bool) (a1_3 : Bool) : Option (Bool) := some (a0_0.toList == a1_0.toList && (a0_1.toList == a1_1.toList && (a0_2 == a1_2 && (a0_3 == a1_3))))
set_option maxHeartbeats 8000000 in
set_option maxRecDepth 100000 in
theorem api_Span_1.calls (a0_0 : ByteArray) (a0_1 : ByteArray) (a0_2 : Bool) (a0_3 : Bool) (a1_0 : ByteArray) (a1_1 : ByteArray) (a1_2 : Bool) (a1_3 : Bool) (r : Bool) (w : World) (hG : Glob w) (h : api_Span_1.f a0_0 a0_1 a0_2 a0_3 a1_0 a1_1 a1_2 a1_3 = some r) :
    Calls Tryd.prog 101 #[.agg #[.string a0_0, .string a0_1, .bool a0_2, .bool a0_3], .agg #[.string a1_0, .string a1_1, .bool a1_2, .bool a1_3]] w fun e w' => e = .returned (.bool r) ∧ Below w.heap.size w w' := by
  have hu58 := Tryd.underlying58
  have HG := Aside0.mk hG
  clear hG
  have HB := Aside0.mk (Below.refl w.heap.size w)
  have H : (some (a0_0.toList == a1_0.toList && (a0_1.toList == a1_1.toList && (a0_2 == a1_2 && (a0_3 == a1_3))))) = some r := h
  clear h
  obtain rfl := Option.some.inj H
  go_enter Tryd.func101, Tryd.ntmps101
  go_wp2_with (first | ((with_reducible refine gate_dst (N := 2) rfl ?_); refine box_event ?hg (N := 2) ?hd (cs := #[.string a0_0, .string a0_1, .bool a0_2, .bool a0_3]) (t := 58) ?hr ?_; (case hd => rfl); (case hg => rfl); (case hr => first | (go_simp; done) | (go_simp; rfl)); intro gb807 hg w3 hbox hb; have n0_ := Aside0.mk (below_step (by repeat (first | (with_reducible first | exact HB.out | apply below_alloc | apply pw_below_drewN | apply below_drew1) | exact HB.out)) hb); have n1_ := Aside0.mk (hbox); have n2_ := Aside0.mk ((by rw [hg]; exact (below_size (by repeat (first | (with_reducible first | exact HB.out | apply below_alloc | apply pw_below_drewN | apply below_drew1) | exact HB.out))) : w.heap.size ≤ gb807)); have n3_ := Aside0.mk ((by rw [hg]; exact (below_size (by repeat (first | (with_reducible first | exact HB.out | apply below_alloc | apply pw_below_drewN | apply below_drew1) | exact HB.out))) : w.heap.size ≤ gb807)); clear HB; have HB := n0_; have BK807 := n1_; have GW807 := n2_; have GE807 := n3_; clear n0_ n1_ n2_ n3_; clear hb hbox hg) | ((with_reducible refine gate_dst (N := 3) rfl ?_); refine box_event ?hg (N := 3) ?hd (cs := #[.string a1_0, .string a1_1, .bool a1_2, .bool a1_3]) (t := 58) ?hr ?_; (case hd => rfl); (case hg => rfl); (case hr => first | (go_simp; done) | (go_simp; rfl)); intro gb808 hg w4 hbox hb; have n0_ := Aside0.mk (blk_below (g := gb807) (o := .cells #[.string a0_0, .string a0_1, .bool a0_2, .bool a0_3] 58 (0, 0)) (by (with_reducible repeat (first | refine blk_drewN ?_ _ | refine blk_drew ?_ | refine blk_alloc ?_ _)); exact BK807.out) hb); have n1_ := Aside0.mk (below_step (by repeat (first | (with_reducible first | exact HB.out | apply below_alloc | apply pw_below_drewN | apply below_drew1 | refine below_set ?_ GE807.out) | exact HB.out)) hb); have n2_ := Aside0.mk (hbox); have n3_ := Aside0.mk ((by rw [hg]; exact (below_size (by repeat (first | (with_reducible first | exact HB.out | apply below_alloc | apply pw_below_drewN | apply below_drew1 | refine below_set ?_ GE807.out) | exact HB.out))) : w.heap.size ≤ gb808)); have n4_ := Aside0.mk ((by rw [hg]; exact (below_size (by repeat (first | (with_reducible first | exact HB.out | apply below_alloc | apply pw_below_drewN | apply below_drew1 | refine below_set ?_ GE807.out) | exact HB.out))) : w.heap.size ≤ gb808)); have n5_ := Aside0.mk ((by rw [hg]; exact Nat.ne_of_lt (blk_lt (g := gb807) (o := .cells #[.string a0_0, .string a0_1, .bool a0_2, .bool a0_3] 58 (0, 0)) (by (with_reducible repeat (first | refine blk_drewN ?_ _ | refine blk_drew ?_ | refine blk_alloc ?_ _)); exact BK807.out)) : gb807 ≠ gb808)); have n6_ := Aside0.mk ((by rw [hg]; exact Nat.ne_of_gt (blk_lt (g := gb807) (o := .cells #[.string a0_0, .string a0_1, .bool a0_2, .bool a0_3] 58 (0, 0)) (by (with_reducible repeat (first | refine blk_drewN ?_ _ | refine blk_drew ?_ | refine blk_alloc ?_ _)); exact BK807.out)) : gb808 ≠ gb807)); clear BK807; clear HB; have BK807 := n0_; have HB := n1_; have BK808 := n2_; have GW808 := n3_; have GE808 := n4_; have NB807_808 := n5_; have NB808_807 := n6_; clear n0_ n1_ n2_ n3_ n4_ n5_ n6_; clear hb hbox hg; have hnb5 := NB807_808.out; have hnc5 := NB808_807.out; have hcz6_0 : w4.cell? ⟨gb807, 0, none⟩ = some (.string a0_0) := (blk_cell BK807.out 0).trans rfl; have hcz6_1 : w4.cell? ⟨gb807, 1, none⟩ = some (.string a0_1) := (blk_cell BK807.out 1).trans rfl; have hcz6_2 : w4.cell? ⟨gb807, 2, none⟩ = some (.bool a0_2) := (blk_cell BK807.out 2).trans rfl; have hcz6_3 : w4.cell? ⟨gb807, 3, none⟩ = some (.bool a0_3) := (blk_cell BK807.out 3).trans rfl; have hfz6_0 := blk_frozen BK807.out 0; have hfz6_1 := blk_frozen BK807.out 1; have hfz6_2 := blk_frozen BK807.out 2; have hfz6_3 := blk_frozen BK807.out 3; have hcz7_0 : w4.cell? ⟨gb808, 0, none⟩ = some (.string a1_0) := (blk_cell BK808.out 0).trans rfl; have hcz7_1 : w4.cell? ⟨gb808, 1, none⟩ = some (.string a1_1) := (blk_cell BK808.out 1).trans rfl; have hcz7_2 : w4.cell? ⟨gb808, 2, none⟩ = some (.bool a1_2) := (blk_cell BK808.out 2).trans rfl; have hcz7_3 : w4.cell? ⟨gb808, 3, none⟩ = some (.bool a1_3) := (blk_cell BK808.out 3).trans rfl; have hfz7_0 := blk_frozen BK808.out 0; have hfz7_1 := blk_frozen BK808.out 1; have hfz7_2 := blk_frozen BK808.out 2; have hfz7_3 := blk_frozen BK808.out 3))
  go_ret
  exact ⟨by first | rfl | (simp [errW_none, errW_some] <;> rfl) | (simp [*, errW_none, errW_some] <;> rfl), by repeat (first | (with_reducible first | exact HB.out | apply below_alloc | apply pw_below_drewN | apply below_drew1 | refine below_set ?_ GE807.out | refine below_set ?_ GE808.out) | exact HB.out)⟩

end Go.Proofs.YtgdjfcmmpjcaaaaDoor.Q

-- Printed by this session's wip/np.py over the kit's print program. Not trusted: Lean checks it.
namespace Go.Proofs.YtgdjfcmmpjcaaaaDoor.Q
open Go.RowKit Go.Proofs.YtgdjfcmmpjcaaaaDoorW.PrintWords Go.Proofs.YtgdjfcmmpjcaaaaDoorW.PrintLast Go.Proofs.YtgdjfcmmpjcaaaaDoorW.Own Go.Proofs.YtgdjfcmmpjcaaaaDoorW.PrintMore
attribute [local go_sem] max2_int min2_int max_two min_two max_three min_three max_four min_four
set_option linter.unusedVariables false
set_option linter.unusedSimpArgs false

/-! ### api_Span_100: function 100 -/
def api_Span_100.l0 : Nat → List (S58) → List (S58) → Int → Option (Bool)
  | 0, _, _, _ => none
  | k + 1, x0, x1, x7 => if x7 < (x0.length : Int) then (if 0 ≤ x7 then (if x7 < (x1.length : Int) then ((api_Span_1.f ((rd_T58 x0 x7).f0) ((rd_T58 x0 x7).f1) ((rd_T58 x0 x7).f2) ((rd_T58 x0 x7).f3) ((rd_T58 x1 x7).f0) ((rd_T58 x1 x7).f1) ((rd_T58 x1 x7).f2) ((rd_T58 x1 x7).f3)).bind fun t811 => (if t811 = true then (api_Span_100.l0 k x0 x1 (wrap64 (x7 + 1))) else (some false))) else (none)) else (none)) else (some true)
def api_Span_100.f (k : Nat) (l0 : List (S58)) (l1 : List (S58))  : Option (Bool) := if (l0.length : Int) = (l1.length : Int) then (api_Span_100.l0 k l0 l1 0) else (some false)
theorem api_Span_100.mono_l : ∀ k, (∀ y0 y1 y2, LeO (api_Span_100.l0 k y0 y1 y2) (api_Span_100.l0 (k + 1) y0 y1 y2))
  | 0 => fun _ _ _ r h => by simp [api_Span_100.l0] at h
  | k + 1 => by
    have ih0 := api_Span_100.mono_l k
    · intro y0 y1 y2
      unfold api_Span_100.l0
      repeat' first
      | (with_reducible exact ih0 _ _ _)
      | (with_reducible exact LeO.refl _)
      | (with_reducible exact LeO.none _)
      | (with_reducible refine LeO.ite ?_ ?_)
      | (with_reducible refine LeO.bind ?_ (fun _ => ?_))
      | exact ih0 _ _ _
      | exact LeO.none _
      | refine LeO.ite ?_ ?_
      | refine LeO.bind ?_ (fun _ => ?_)
theorem api_Span_100.mono : ∀ a0 a1 k, LeO (api_Span_100.f k a0 a1) (api_Span_100.f (k + 1) a0 a1) := by
  intro a0 a1 k
  have ih0 := api_Span_100.mono_l k
  unfold api_Span_100.f
  repeat' first
      | (with_reducible exact ih0 _ _ _)
      | (with_reducible exact LeO.refl _)
      | (with_reducible exact LeO.none _)
      | (with_reducible refine LeO.ite ?_ ?_)
      | (with_reducible refine LeO.bind ?_ (fun _ => ?_))
      | exact ih0 _ _ _
      | exact LeO.none _
      | refine LeO.ite ?_ ?_
      | refine LeO.bind ?_ (fun _ => ?_)
def api_Span_100.T6 : Bool × List (List Nat × List Nat) := (true, [([], []), ([], []), ([], []), ([1, 2], [1, 2]), ([3], [3]), ([], []), ([], []), ([5, 6], [5, 6]), ([7], [7]), ([0, 4, 8], [0, 4, 8]), ([9], [9])])
def api_Span_100.B6 : List Nat := [0, 0, 0, 6, 14, 0, 0, 96, 224, 511, 1023]
theorem api_Span_100.tab6 : rtab .any (opsOf Tryd.f100 6) = api_Span_100.T6 := by kernel_rfl
theorem api_Span_100.bits6 : waitsOk api_Span_100.T6.2 api_Span_100.B6 = true := by kernel_rfl
set_option maxHeartbeats 8000000 in
set_option maxRecDepth 100000 in
theorem api_Span_100.calls (k : Nat) (A0 : Option Addr) (c0 : Nat) (l0 : List (S58)) (A1 : Option Addr) (c1 : Nat) (l1 : List (S58))  (r : Bool) (w : World) (hr0 : Kd.C k58 w A0 l0.length l0) (hc0 : l0.length ≤ c0) (hr1 : Kd.C k58 w A1 l1.length l1) (hc1 : l1.length ≤ c1) (hG : Glob w) (h : api_Span_100.f k l0 l1 = some r) :
    Calls Tryd.prog 100 #[.slice A0 l0.length c0, .slice A1 l1.length c1, .func (.func 101) #[] #[]] w fun e w' => e = .returned (.bool r) ∧ Below w.heap.size w w' := by
  have hu58 := Tryd.underlying58
  have HG := Aside0.mk hG
  clear hG
  have HR0 := Aside0.mk hr0
  have HC0 := Aside0.mk hc0
  clear hr0 hc0
  have HR1 := Aside0.mk hr1
  have HC1 := Aside0.mk hc1
  clear hr1 hc1
  have HB := Aside0.mk (Below.refl w.heap.size w)
  have H : (if (l0.length : Int) = (l1.length : Int) then (api_Span_100.l0 k l0 l1 0) else (some false)) = some r := h
  clear h
  by_cases c4 : (l0.length : Int) = (l1.length : Int)
  · rw [if_pos c4] at H
    have c4b0 : ((l0.length : Int) == (l1.length : Int)) = true := beq_iff_eq.mpr c4
    have c4b1 : ((l0.length : Int) != (l1.length : Int)) = false := bne_eq_false_iff_eq.mpr c4
    have c4b2 : (l0.length == l1.length) = true := by first | simpa using c4 | (simp at c4 ⊢; omega)
    clear c4
    have H' := Aside0.mk H
    clear H
    go_enter Tryd.func100, Tryd.ntmps100
    go_wp2
    go_loopg [7] k (fun kq v7 w' => ∃ (x7_1 : Int), v7 = .int .i64 x7_1 ∧ Aside0 (api_Span_100.l0 kq l0 l1 x7_1 = some r) ∧ Aside0 (kq ≤ k) ∧ Aside0 (Below w.heap.size w w'))
    case atStart => exact ⟨(0), (by first | rfl | (simp; done) | (simp [*]; done) | (simp; exact isEmpty_bne _)), H', ⟨Nat.le_refl _⟩, ⟨by repeat (first | (with_reducible first | exact HB.out | apply below_alloc | apply pw_below_drewN | apply below_drew1) | exact HB.out)⟩⟩
    case round =>
      clear H'
      try clear c1
      try clear p2
      try clear c4
      try clear c4b0
      try clear c4b1
      try clear c4b2
      obtain ⟨x7_1, rfl, HA, HK1, HB⟩ := hrel
      cases gk with
      | zero => exact absurd HA.out (by simp [api_Span_100.l0])
      | succ k1 =>
        have H := HA.out
        clear HA
        simp only [api_Span_100.l0] at H
        by_cases c5 : x7_1 < (l0.length : Int)
        · rw [if_pos c5] at H
          have c5b0 : decide (x7_1 < (l0.length : Int)) = true := decide_eq_true c5
          clear c5
          by_cases c6 : 0 ≤ x7_1
          · rw [if_pos c6] at H
            have c6b0 : decide (0 ≤ x7_1) = true := decide_eq_true c6
            clear c6
            by_cases c7 : x7_1 < (l1.length : Int)
            · rw [if_pos c7] at H
              have c7b0 : decide (x7_1 < (l1.length : Int)) = true := decide_eq_true c7
              clear c7
              replace H := Option.bind_eq_some_iff.mp H
              obtain ⟨t811, A80, H⟩ := H
              replace H : (if t811 = true then (api_Span_100.l0 k1 l0 l1 (wrap64 (x7_1 + 1))) else (some false)) = some r := H
              have A8 := Aside0.mk A80
              clear A80
              by_cases c9 : t811 = true
              · subst c9
                have H1 : (api_Span_100.l0 k1 l0 l1 (wrap64 (x7_1 + 1))) = some r := by rw [if_pos rfl] at H; exact H
                clear H
                have H := H1
                clear H1
                have H' := Aside0.mk H
                clear H
                try go_wp2
                have n0_ := Aside0.mk (below_drew1 HB.out)
                clear HB
                have HB := n0_
                clear n0_
                have p809 : 0 ≤ (x7_1 : Int) := of_decide_eq_true (by first | (with_reducible assumption) | assumption)
                have q809 : x7_1 < (l0.length : Int) := of_decide_eq_true (by first | (with_reducible assumption) | assumption)
                obtain ⟨ad809, e809, hx809_0, hx809_1, hx809_2, hx809_3⟩ := at_T58 HR0.out x7_1 p809 q809
                have hw809_3 := hx809_3
                have hw809_2 := hx809_2
                have hw809_1 := hx809_1
                have hw809_0 := hx809_0
                cases e809
                replace hx809_0 := (HB.out.cell (World.block_lt_of_cell? w _ hx809_0)).trans hx809_0
                replace hx809_1 := (HB.out.cell (World.block_lt_of_cell? w _ hx809_1)).trans hx809_1
                replace hx809_2 := (HB.out.cell (World.block_lt_of_cell? w _ hx809_2)).trans hx809_2
                replace hx809_3 := (HB.out.cell (World.block_lt_of_cell? w _ hx809_3)).trans hx809_3
                replace p809 := eq_true p809
                replace q809 := eq_true q809
                have p810 : 0 ≤ (x7_1 : Int) := of_decide_eq_true (by first | (with_reducible assumption) | assumption)
                have q810 : x7_1 < (l1.length : Int) := of_decide_eq_true (by first | (with_reducible assumption) | assumption)
                obtain ⟨ad810, e810, hx810_0, hx810_1, hx810_2, hx810_3⟩ := at_T58 HR1.out x7_1 p810 q810
                have hw810_3 := hx810_3
                have hw810_2 := hx810_2
                have hw810_1 := hx810_1
                have hw810_0 := hx810_0
                cases e810
                replace hx810_0 := (HB.out.cell (World.block_lt_of_cell? w _ hx810_0)).trans hx810_0
                replace hx810_1 := (HB.out.cell (World.block_lt_of_cell? w _ hx810_1)).trans hx810_1
                replace hx810_2 := (HB.out.cell (World.block_lt_of_cell? w _ hx810_2)).trans hx810_2
                replace hx810_3 := (HB.out.cell (World.block_lt_of_cell? w _ hx810_3)).trans hx810_3
                replace p810 := eq_true p810
                replace q810 := eq_true q810
                refine start_ (n := 11) (S := fun w' => w'.cell? (ad809.add ((x7_1).toNat * 4)) = some (.string ((rd_T58 l0 x7_1).f0)) ∧ w'.cell? ⟨(ad809.add ((x7_1).toNat * 4)).block, (ad809.add ((x7_1).toNat * 4)).off + 1, none⟩ = some (.string ((rd_T58 l0 x7_1).f1)) ∧ w'.cell? ⟨(ad809.add ((x7_1).toNat * 4)).block, (ad809.add ((x7_1).toNat * 4)).off + 2, none⟩ = some (.bool ((rd_T58 l0 x7_1).f2)) ∧ w'.cell? ⟨(ad809.add ((x7_1).toNat * 4)).block, (ad809.add ((x7_1).toNat * 4)).off + 3, none⟩ = some (.bool ((rd_T58 l0 x7_1).f3)) ∧ w'.cell? (ad810.add ((x7_1).toNat * 4)) = some (.string ((rd_T58 l1 x7_1).f0)) ∧ w'.cell? ⟨(ad810.add ((x7_1).toNat * 4)).block, (ad810.add ((x7_1).toNat * 4)).off + 1, none⟩ = some (.string ((rd_T58 l1 x7_1).f1)) ∧ w'.cell? ⟨(ad810.add ((x7_1).toNat * 4)).block, (ad810.add ((x7_1).toNat * 4)).off + 2, none⟩ = some (.bool ((rd_T58 l1 x7_1).f2)) ∧ w'.cell? ⟨(ad810.add ((x7_1).toNat * 4)).block, (ad810.add ((x7_1).toNat * 4)).off + 3, none⟩ = some (.bool ((rd_T58 l1 x7_1).f3))) (ds := []) #[false, false, false, false, false, false, false, false, false, false, false] (by kernel_rfl) rfl rfl ⟨((HB.out.cell (World.block_lt_of_cell? w _ hw809_0)).trans hw809_0), ((HB.out.cell (World.block_lt_of_cell? w _ hw809_1)).trans hw809_1), ((HB.out.cell (World.block_lt_of_cell? w _ hw809_2)).trans hw809_2), ((HB.out.cell (World.block_lt_of_cell? w _ hw809_3)).trans hw809_3), ((HB.out.cell (World.block_lt_of_cell? w _ hw810_0)).trans hw810_0), ((HB.out.cell (World.block_lt_of_cell? w _ hw810_1)).trans hw810_1), ((HB.out.cell (World.block_lt_of_cell? w _ hw810_2)).trans hw810_2), ((HB.out.cell (World.block_lt_of_cell? w _ hw810_3)).trans hw810_3)⟩ (fun hHeld => ?_); refine with_tabW api_Span_100.tab6 api_Span_100.bits6 (fun HT_ HW_ => ?_)
                generalize wr.drew = w10 at HB hx809_0 hx809_1 hx809_2 hx809_3 hx810_0 hx810_1 hx810_2 hx810_3 hHeld ⊢
                refine pure_ (i := 0) (N := some 19) (v := ?_) (a' := ?_) #[true, false, false, false, false, false, false, false, false, false, false] rfl rfl (any_of HT_.out (by kernel_rfl)) (fun _ _ _ h => h) (Or.inl ⟨by rfl, ?_⟩) ?_ ?_
                rotate_left
                · intro w'
                  go_simp
                  with_reducible rfl
                rotate_left
                · simp only [Act.put, List.setIfInBounds_toArray, List.set_cons_zero, List.set_cons_succ, i64_w, i32_w]
                  rfl
                refine pure_ (i := 1) (N := some 20) (v := ?_) (a' := ?_) #[true, true, false, false, false, false, false, false, false, false, false] rfl rfl (any_of HT_.out (by kernel_rfl)) (fun _ _ _ h => h) (Or.inl ⟨by rfl, ?_⟩) ?_ ?_
                rotate_left
                · intro w'
                  go_simp
                  with_reducible rfl
                rotate_left
                · simp only [Act.put, List.setIfInBounds_toArray, List.set_cons_zero, List.set_cons_succ, i64_w, i32_w]
                  rfl
                refine pure_ (i := 2) (N := some 21) (v := ?_) (a' := ?_) #[true, true, true, false, false, false, false, false, false, false, false] rfl rfl (any_of HT_.out (by kernel_rfl)) (fun _ _ _ h => h) (Or.inl ⟨by rfl, ?_⟩) ?_ ?_
                rotate_left
                · intro w'
                  go_simp
                  with_reducible rfl
                rotate_left
                · simp only [Act.put, List.setIfInBounds_toArray, List.set_cons_zero, List.set_cons_succ, i64_w, i32_w]
                  rfl
                refine pure_ (i := 3) (N := some 22) (v := ?_) (a' := ?_) #[true, true, true, true, false, false, false, false, false, false, false] rfl rfl (any_of HT_.out (by kernel_rfl)) (fun _ _ _ h => h) (Or.inl ⟨by rfl, ?_⟩) ?_ ?_
                rotate_left
                · intro w'
                  go_simp
                  with_reducible rfl
                rotate_left
                · simp only [Act.put, List.setIfInBounds_toArray, List.set_cons_zero, List.set_cons_succ, i64_w, i32_w]
                  rfl
                refine pure_ (i := 5) (N := some 24) (v := ?_) (a' := ?_) #[true, true, true, true, false, true, false, false, false, false, false] rfl rfl (any_of HT_.out (by kernel_rfl)) (fun _ _ _ h => h) (Or.inl ⟨by rfl, ?_⟩) ?_ ?_
                rotate_left
                · intro w'
                  go_simp
                  with_reducible rfl
                rotate_left
                · simp only [Act.put, List.setIfInBounds_toArray, List.set_cons_zero, List.set_cons_succ, i64_w, i32_w]
                  rfl
                refine pure_ (i := 6) (N := some 25) (v := ?_) (a' := ?_) #[true, true, true, true, false, true, true, false, false, false, false] rfl rfl (any_of HT_.out (by kernel_rfl)) (fun _ _ _ h => h) (Or.inl ⟨by rfl, ?_⟩) ?_ ?_
                rotate_left
                · intro w'
                  go_simp
                  with_reducible rfl
                rotate_left
                · simp only [Act.put, List.setIfInBounds_toArray, List.set_cons_zero, List.set_cons_succ, i64_w, i32_w]
                  rfl
                refine pure_ (i := 7) (N := some 26) (v := ?_) (a' := ?_) #[true, true, true, true, false, true, true, true, false, false, false] rfl rfl (any_of HT_.out (by kernel_rfl)) (fun _ _ _ h => h) (Or.inl ⟨by rfl, ?_⟩) ?_ ?_
                rotate_left
                · intro w'
                  go_simp
                  with_reducible rfl
                rotate_left
                · simp only [Act.put, List.setIfInBounds_toArray, List.set_cons_zero, List.set_cons_succ, i64_w, i32_w]
                  rfl
                refine take_ (i := 4) (N := some 23) (v := ?_) (a' := ?_) #[true, true, true, true, true, true, true, true, false, false, false] rfl rfl (take_ofW HT_.out HW_.out (by kernel_rfl)) (fun _ _ _ h => h) (Or.inl ⟨by rfl, ?_⟩) hHeld ?_ ?_
                rotate_left
                · rintro w' ⟨s0, s1, s2, s3, s4, s5, s6, s7⟩
                  go_simp
                  with_reducible rfl
                rotate_left
                · simp only [Act.put, List.setIfInBounds_toArray, List.set_cons_zero, List.set_cons_succ, i64_w, i32_w]
                  rfl
                refine take_ (i := 8) (N := some 27) (v := ?_) (a' := ?_) #[true, true, true, true, true, true, true, true, true, false, false] rfl rfl (take_ofW HT_.out HW_.out (by kernel_rfl)) (fun _ _ _ h => h) (Or.inl ⟨by rfl, ?_⟩) hHeld ?_ ?_
                rotate_left
                · rintro w' ⟨s0, s1, s2, s3, s4, s5, s6, s7⟩
                  go_simp
                  with_reducible rfl
                rotate_left
                · simp only [Act.put, List.setIfInBounds_toArray, List.set_cons_zero, List.set_cons_succ, i64_w, i32_w]
                  rfl
                refine one_ (i := 9) (N := some 28) #[true, true, true, true, true, true, true, true, true, true, false] rfl rfl (one_of HT_.out (by kernel_rfl)) (by decide) (fun K hK => ?_)
                first | (refine goes_ Tryd.func101 (by kernel_rfl) rfl #[.agg #[.string ((rd_T58 l0 x7_1).f0), .string ((rd_T58 l0 x7_1).f1), .bool ((rd_T58 l0 x7_1).f2), .bool ((rd_T58 l0 x7_1).f3)], .agg #[.string ((rd_T58 l1 x7_1).f0), .string ((rd_T58 l1 x7_1).f1), .bool ((rd_T58 l1 x7_1).f2), .bool ((rd_T58 l1 x7_1).f3)]] (by rfl) rfl rfl (by (try simp only [List.map_toArray, List.map_cons, List.map_nil]); first | done | rfl | (simp only [List.length_drop, List.length_take]; rfl)) ?_) | (refine goesV_ Tryd.func101 (by kernel_rfl) rfl #[.agg #[.string ((rd_T58 l0 x7_1).f0), .string ((rd_T58 l0 x7_1).f1), .bool ((rd_T58 l0 x7_1).f2), .bool ((rd_T58 l0 x7_1).f3)], .agg #[.string ((rd_T58 l1 x7_1).f0), .string ((rd_T58 l1 x7_1).f1), .bool ((rd_T58 l1 x7_1).f2), .bool ((rd_T58 l1 x7_1).f3)]] (by rfl) rfl rfl rfl (by (try simp only [List.map_toArray, List.map_cons, List.map_nil]); first | done | rfl | (simp only [List.length_drop, List.length_take]; rfl)) ?_)
                with_reducible refine (api_Span_1.calls ((rd_T58 l0 x7_1).f0) ((rd_T58 l0 x7_1).f1) ((rd_T58 l0 x7_1).f2) ((rd_T58 l0 x7_1).f3) ((rd_T58 l1 x7_1).f0) ((rd_T58 l1 x7_1).f1) ((rd_T58 l1 x7_1).f2) ((rd_T58 l1 x7_1).f3) true _ ?side1 A8.out).mono ?_
                (case side1 => exact Glob.step HG.out (by repeat (first | (with_reducible first | exact HB.out | apply below_alloc | apply pw_below_drewN | apply below_drew1) | exact HB.out)))
                rintro e w11 ⟨rfl, hb⟩
                refine ⟨_, rfl, ?_⟩
                have n0_ := Aside0.mk (below_step (by repeat (first | (with_reducible first | exact HB.out | apply below_alloc | apply pw_below_drewN | apply below_drew1) | exact HB.out)) hb)
                clear HB
                have HB := n0_
                clear n0_
                (try clear hb)
                (try clear hb2)
                (try clear hk)
                (try clear hi)
                refine hK.out _ _ ⟨((HB.out.cell (World.block_lt_of_cell? w _ hw809_0)).trans hw809_0), ((HB.out.cell (World.block_lt_of_cell? w _ hw809_1)).trans hw809_1), ((HB.out.cell (World.block_lt_of_cell? w _ hw809_2)).trans hw809_2), ((HB.out.cell (World.block_lt_of_cell? w _ hw809_3)).trans hw809_3), ((HB.out.cell (World.block_lt_of_cell? w _ hw810_0)).trans hw810_0), ((HB.out.cell (World.block_lt_of_cell? w _ hw810_1)).trans hw810_1), ((HB.out.cell (World.block_lt_of_cell? w _ hw810_2)).trans hw810_2), ((HB.out.cell (World.block_lt_of_cell? w _ hw810_3)).trans hw810_3)⟩ (fun hHeld => ?_)
                clear hK K
                refine norm_ (a' := ?_) ?_ ?_
                rotate_left
                · show Act.put _ (some 28) _ = _
                  simp only [Act.put, List.setIfInBounds_toArray, List.set_cons_zero, List.set_cons_succ, i64_w, i32_w]
                  rfl
                refine pure_ (i := 10) (N := some 29) (v := ?_) (a' := ?_) #[true, true, true, true, true, true, true, true, true, true, true] rfl rfl (any_of HT_.out (by kernel_rfl)) (fun _ _ _ h => h) (Or.inl ⟨by rfl, ?_⟩) ?_ ?_
                rotate_left
                · intro w'
                  go_simp
                  with_reducible rfl
                rotate_left
                · simp only [Act.put, List.setIfInBounds_toArray, List.set_cons_zero, List.set_cons_succ, i64_w, i32_w]
                  rfl
                refine done_ (done_of HT_.out (by kernel_rfl)) ?_
                try go_wp2
                go_roundg k1
                case measure => have := HK1.out; omega
                case rel => exact ⟨(wrap64 (x7_1 + 1)), (by first | rfl | (simp; done) | (simp [*]; done) | (simp; exact isEmpty_bne _)), H', ⟨by have := HK1.out; omega⟩, ⟨by repeat (first | (with_reducible first | exact HB.out | apply below_alloc | apply pw_below_drewN | apply below_drew1) | exact HB.out)⟩⟩
              · replace c9 := Bool.eq_false_iff.mpr c9
                subst c9
                have H1 : (some false) = some r := by rw [if_neg (show ¬ (false = true) by decide)] at H; exact H
                clear H
                have H := H1
                clear H1
                obtain rfl := Option.some.inj H
                try go_wp2
                have n0_ := Aside0.mk (below_drew1 HB.out)
                clear HB
                have HB := n0_
                clear n0_
                have p809 : 0 ≤ (x7_1 : Int) := of_decide_eq_true (by first | (with_reducible assumption) | assumption)
                have q809 : x7_1 < (l0.length : Int) := of_decide_eq_true (by first | (with_reducible assumption) | assumption)
                obtain ⟨ad809, e809, hx809_0, hx809_1, hx809_2, hx809_3⟩ := at_T58 HR0.out x7_1 p809 q809
                have hw809_3 := hx809_3
                have hw809_2 := hx809_2
                have hw809_1 := hx809_1
                have hw809_0 := hx809_0
                cases e809
                replace hx809_0 := (HB.out.cell (World.block_lt_of_cell? w _ hx809_0)).trans hx809_0
                replace hx809_1 := (HB.out.cell (World.block_lt_of_cell? w _ hx809_1)).trans hx809_1
                replace hx809_2 := (HB.out.cell (World.block_lt_of_cell? w _ hx809_2)).trans hx809_2
                replace hx809_3 := (HB.out.cell (World.block_lt_of_cell? w _ hx809_3)).trans hx809_3
                replace p809 := eq_true p809
                replace q809 := eq_true q809
                have p810 : 0 ≤ (x7_1 : Int) := of_decide_eq_true (by first | (with_reducible assumption) | assumption)
                have q810 : x7_1 < (l1.length : Int) := of_decide_eq_true (by first | (with_reducible assumption) | assumption)
                obtain ⟨ad810, e810, hx810_0, hx810_1, hx810_2, hx810_3⟩ := at_T58 HR1.out x7_1 p810 q810
                have hw810_3 := hx810_3
                have hw810_2 := hx810_2
                have hw810_1 := hx810_1
                have hw810_0 := hx810_0
                cases e810
                replace hx810_0 := (HB.out.cell (World.block_lt_of_cell? w _ hx810_0)).trans hx810_0
                replace hx810_1 := (HB.out.cell (World.block_lt_of_cell? w _ hx810_1)).trans hx810_1
                replace hx810_2 := (HB.out.cell (World.block_lt_of_cell? w _ hx810_2)).trans hx810_2
                replace hx810_3 := (HB.out.cell (World.block_lt_of_cell? w _ hx810_3)).trans hx810_3
                replace p810 := eq_true p810
                replace q810 := eq_true q810
                refine start_ (n := 11) (S := fun w' => w'.cell? (ad809.add ((x7_1).toNat * 4)) = some (.string ((rd_T58 l0 x7_1).f0)) ∧ w'.cell? ⟨(ad809.add ((x7_1).toNat * 4)).block, (ad809.add ((x7_1).toNat * 4)).off + 1, none⟩ = some (.string ((rd_T58 l0 x7_1).f1)) ∧ w'.cell? ⟨(ad809.add ((x7_1).toNat * 4)).block, (ad809.add ((x7_1).toNat * 4)).off + 2, none⟩ = some (.bool ((rd_T58 l0 x7_1).f2)) ∧ w'.cell? ⟨(ad809.add ((x7_1).toNat * 4)).block, (ad809.add ((x7_1).toNat * 4)).off + 3, none⟩ = some (.bool ((rd_T58 l0 x7_1).f3)) ∧ w'.cell? (ad810.add ((x7_1).toNat * 4)) = some (.string ((rd_T58 l1 x7_1).f0)) ∧ w'.cell? ⟨(ad810.add ((x7_1).toNat * 4)).block, (ad810.add ((x7_1).toNat * 4)).off + 1, none⟩ = some (.string ((rd_T58 l1 x7_1).f1)) ∧ w'.cell? ⟨(ad810.add ((x7_1).toNat * 4)).block, (ad810.add ((x7_1).toNat * 4)).off + 2, none⟩ = some (.bool ((rd_T58 l1 x7_1).f2)) ∧ w'.cell? ⟨(ad810.add ((x7_1).toNat * 4)).block, (ad810.add ((x7_1).toNat * 4)).off + 3, none⟩ = some (.bool ((rd_T58 l1 x7_1).f3))) (ds := []) #[false, false, false, false, false, false, false, false, false, false, false] (by kernel_rfl) rfl rfl ⟨((HB.out.cell (World.block_lt_of_cell? w _ hw809_0)).trans hw809_0), ((HB.out.cell (World.block_lt_of_cell? w _ hw809_1)).trans hw809_1), ((HB.out.cell (World.block_lt_of_cell? w _ hw809_2)).trans hw809_2), ((HB.out.cell (World.block_lt_of_cell? w _ hw809_3)).trans hw809_3), ((HB.out.cell (World.block_lt_of_cell? w _ hw810_0)).trans hw810_0), ((HB.out.cell (World.block_lt_of_cell? w _ hw810_1)).trans hw810_1), ((HB.out.cell (World.block_lt_of_cell? w _ hw810_2)).trans hw810_2), ((HB.out.cell (World.block_lt_of_cell? w _ hw810_3)).trans hw810_3)⟩ (fun hHeld => ?_); refine with_tabW api_Span_100.tab6 api_Span_100.bits6 (fun HT_ HW_ => ?_)
                generalize wr.drew = w12 at HB hx809_0 hx809_1 hx809_2 hx809_3 hx810_0 hx810_1 hx810_2 hx810_3 hHeld ⊢
                refine pure_ (i := 0) (N := some 19) (v := ?_) (a' := ?_) #[true, false, false, false, false, false, false, false, false, false, false] rfl rfl (any_of HT_.out (by kernel_rfl)) (fun _ _ _ h => h) (Or.inl ⟨by rfl, ?_⟩) ?_ ?_
                rotate_left
                · intro w'
                  go_simp
                  with_reducible rfl
                rotate_left
                · simp only [Act.put, List.setIfInBounds_toArray, List.set_cons_zero, List.set_cons_succ, i64_w, i32_w]
                  rfl
                refine pure_ (i := 1) (N := some 20) (v := ?_) (a' := ?_) #[true, true, false, false, false, false, false, false, false, false, false] rfl rfl (any_of HT_.out (by kernel_rfl)) (fun _ _ _ h => h) (Or.inl ⟨by rfl, ?_⟩) ?_ ?_
                rotate_left
                · intro w'
                  go_simp
                  with_reducible rfl
                rotate_left
                · simp only [Act.put, List.setIfInBounds_toArray, List.set_cons_zero, List.set_cons_succ, i64_w, i32_w]
                  rfl
                refine pure_ (i := 2) (N := some 21) (v := ?_) (a' := ?_) #[true, true, true, false, false, false, false, false, false, false, false] rfl rfl (any_of HT_.out (by kernel_rfl)) (fun _ _ _ h => h) (Or.inl ⟨by rfl, ?_⟩) ?_ ?_
                rotate_left
                · intro w'
                  go_simp
                  with_reducible rfl
                rotate_left
                · simp only [Act.put, List.setIfInBounds_toArray, List.set_cons_zero, List.set_cons_succ, i64_w, i32_w]
                  rfl
                refine pure_ (i := 3) (N := some 22) (v := ?_) (a' := ?_) #[true, true, true, true, false, false, false, false, false, false, false] rfl rfl (any_of HT_.out (by kernel_rfl)) (fun _ _ _ h => h) (Or.inl ⟨by rfl, ?_⟩) ?_ ?_
                rotate_left
                · intro w'
                  go_simp
                  with_reducible rfl
                rotate_left
                · simp only [Act.put, List.setIfInBounds_toArray, List.set_cons_zero, List.set_cons_succ, i64_w, i32_w]
                  rfl
                refine pure_ (i := 5) (N := some 24) (v := ?_) (a' := ?_) #[true, true, true, true, false, true, false, false, false, false, false] rfl rfl (any_of HT_.out (by kernel_rfl)) (fun _ _ _ h => h) (Or.inl ⟨by rfl, ?_⟩) ?_ ?_
                rotate_left
                · intro w'
                  go_simp
                  with_reducible rfl
                rotate_left
                · simp only [Act.put, List.setIfInBounds_toArray, List.set_cons_zero, List.set_cons_succ, i64_w, i32_w]
                  rfl
                refine pure_ (i := 6) (N := some 25) (v := ?_) (a' := ?_) #[true, true, true, true, false, true, true, false, false, false, false] rfl rfl (any_of HT_.out (by kernel_rfl)) (fun _ _ _ h => h) (Or.inl ⟨by rfl, ?_⟩) ?_ ?_
                rotate_left
                · intro w'
                  go_simp
                  with_reducible rfl
                rotate_left
                · simp only [Act.put, List.setIfInBounds_toArray, List.set_cons_zero, List.set_cons_succ, i64_w, i32_w]
                  rfl
                refine pure_ (i := 7) (N := some 26) (v := ?_) (a' := ?_) #[true, true, true, true, false, true, true, true, false, false, false] rfl rfl (any_of HT_.out (by kernel_rfl)) (fun _ _ _ h => h) (Or.inl ⟨by rfl, ?_⟩) ?_ ?_
                rotate_left
                · intro w'
                  go_simp
                  with_reducible rfl
                rotate_left
                · simp only [Act.put, List.setIfInBounds_toArray, List.set_cons_zero, List.set_cons_succ, i64_w, i32_w]
                  rfl
                refine take_ (i := 4) (N := some 23) (v := ?_) (a' := ?_) #[true, true, true, true, true, true, true, true, false, false, false] rfl rfl (take_ofW HT_.out HW_.out (by kernel_rfl)) (fun _ _ _ h => h) (Or.inl ⟨by rfl, ?_⟩) hHeld ?_ ?_
                rotate_left
                · rintro w' ⟨s0, s1, s2, s3, s4, s5, s6, s7⟩
                  go_simp
                  with_reducible rfl
                rotate_left
                · simp only [Act.put, List.setIfInBounds_toArray, List.set_cons_zero, List.set_cons_succ, i64_w, i32_w]
                  rfl
                refine take_ (i := 8) (N := some 27) (v := ?_) (a' := ?_) #[true, true, true, true, true, true, true, true, true, false, false] rfl rfl (take_ofW HT_.out HW_.out (by kernel_rfl)) (fun _ _ _ h => h) (Or.inl ⟨by rfl, ?_⟩) hHeld ?_ ?_
                rotate_left
                · rintro w' ⟨s0, s1, s2, s3, s4, s5, s6, s7⟩
                  go_simp
                  with_reducible rfl
                rotate_left
                · simp only [Act.put, List.setIfInBounds_toArray, List.set_cons_zero, List.set_cons_succ, i64_w, i32_w]
                  rfl
                refine one_ (i := 9) (N := some 28) #[true, true, true, true, true, true, true, true, true, true, false] rfl rfl (one_of HT_.out (by kernel_rfl)) (by decide) (fun K hK => ?_)
                first | (refine goes_ Tryd.func101 (by kernel_rfl) rfl #[.agg #[.string ((rd_T58 l0 x7_1).f0), .string ((rd_T58 l0 x7_1).f1), .bool ((rd_T58 l0 x7_1).f2), .bool ((rd_T58 l0 x7_1).f3)], .agg #[.string ((rd_T58 l1 x7_1).f0), .string ((rd_T58 l1 x7_1).f1), .bool ((rd_T58 l1 x7_1).f2), .bool ((rd_T58 l1 x7_1).f3)]] (by rfl) rfl rfl (by (try simp only [List.map_toArray, List.map_cons, List.map_nil]); first | done | rfl | (simp only [List.length_drop, List.length_take]; rfl)) ?_) | (refine goesV_ Tryd.func101 (by kernel_rfl) rfl #[.agg #[.string ((rd_T58 l0 x7_1).f0), .string ((rd_T58 l0 x7_1).f1), .bool ((rd_T58 l0 x7_1).f2), .bool ((rd_T58 l0 x7_1).f3)], .agg #[.string ((rd_T58 l1 x7_1).f0), .string ((rd_T58 l1 x7_1).f1), .bool ((rd_T58 l1 x7_1).f2), .bool ((rd_T58 l1 x7_1).f3)]] (by rfl) rfl rfl rfl (by (try simp only [List.map_toArray, List.map_cons, List.map_nil]); first | done | rfl | (simp only [List.length_drop, List.length_take]; rfl)) ?_)
                with_reducible refine (api_Span_1.calls ((rd_T58 l0 x7_1).f0) ((rd_T58 l0 x7_1).f1) ((rd_T58 l0 x7_1).f2) ((rd_T58 l0 x7_1).f3) ((rd_T58 l1 x7_1).f0) ((rd_T58 l1 x7_1).f1) ((rd_T58 l1 x7_1).f2) ((rd_T58 l1 x7_1).f3) false _ ?side1 A8.out).mono ?_
                (case side1 => exact Glob.step HG.out (by repeat (first | (with_reducible first | exact HB.out | apply below_alloc | apply pw_below_drewN | apply below_drew1) | exact HB.out)))
                rintro e w13 ⟨rfl, hb⟩
                refine ⟨_, rfl, ?_⟩
                have n0_ := Aside0.mk (below_step (by repeat (first | (with_reducible first | exact HB.out | apply below_alloc | apply pw_below_drewN | apply below_drew1) | exact HB.out)) hb)
                clear HB
                have HB := n0_
                clear n0_
                (try clear hb)
                (try clear hb2)
                (try clear hk)
                (try clear hi)
                refine hK.out _ _ ⟨((HB.out.cell (World.block_lt_of_cell? w _ hw809_0)).trans hw809_0), ((HB.out.cell (World.block_lt_of_cell? w _ hw809_1)).trans hw809_1), ((HB.out.cell (World.block_lt_of_cell? w _ hw809_2)).trans hw809_2), ((HB.out.cell (World.block_lt_of_cell? w _ hw809_3)).trans hw809_3), ((HB.out.cell (World.block_lt_of_cell? w _ hw810_0)).trans hw810_0), ((HB.out.cell (World.block_lt_of_cell? w _ hw810_1)).trans hw810_1), ((HB.out.cell (World.block_lt_of_cell? w _ hw810_2)).trans hw810_2), ((HB.out.cell (World.block_lt_of_cell? w _ hw810_3)).trans hw810_3)⟩ (fun hHeld => ?_)
                clear hK K
                refine norm_ (a' := ?_) ?_ ?_
                rotate_left
                · show Act.put _ (some 28) _ = _
                  simp only [Act.put, List.setIfInBounds_toArray, List.set_cons_zero, List.set_cons_succ, i64_w, i32_w]
                  rfl
                refine pure_ (i := 10) (N := some 29) (v := ?_) (a' := ?_) #[true, true, true, true, true, true, true, true, true, true, true] rfl rfl (any_of HT_.out (by kernel_rfl)) (fun _ _ _ h => h) (Or.inl ⟨by rfl, ?_⟩) ?_ ?_
                rotate_left
                · intro w'
                  go_simp
                  with_reducible rfl
                rotate_left
                · simp only [Act.put, List.setIfInBounds_toArray, List.set_cons_zero, List.set_cons_succ, i64_w, i32_w]
                  rfl
                refine done_ (done_of HT_.out (by kernel_rfl)) ?_
                try go_wp2
                go_ret
                exact ⟨by first | rfl | (simp [errW_none, errW_some] <;> rfl) | (simp [*, errW_none, errW_some] <;> rfl), by repeat (first | (with_reducible first | exact HB.out | apply below_alloc | apply pw_below_drewN | apply below_drew1) | exact HB.out)⟩
            · rw [if_neg c7] at H
              exact absurd H (by simp)
          · rw [if_neg c6] at H
            exact absurd H (by simp)
        · rw [if_neg c5] at H
          have c5b0 : decide (x7_1 < (l0.length : Int)) = false := decide_eq_false c5
          clear c5
          obtain rfl := Option.some.inj H
          go_wp2
          go_ret
          exact ⟨by first | rfl | (simp [errW_none, errW_some] <;> rfl) | (simp [*, errW_none, errW_some] <;> rfl), by repeat (first | (with_reducible first | exact HB.out | apply below_alloc | apply pw_below_drewN | apply below_drew1) | exact HB.out)⟩
  · rw [if_neg c4] at H
    have c4b0 : ((l0.length : Int) == (l1.length : Int)) = false := beq_eq_false_iff_ne.mpr c4
    have c4b1 : ((l0.length : Int) != (l1.length : Int)) = true := bne_iff_ne.mpr c4
    have c4b2 : (l0.length == l1.length) = false := by first | simpa using c4 | (simp at c4 ⊢; omega)
    obtain rfl := Option.some.inj H
    go_enter Tryd.func100, Tryd.ntmps100
    go_wp2
    go_ret
    exact ⟨by first | rfl | (simp [errW_none, errW_some] <;> rfl) | (simp [*, errW_none, errW_some] <;> rfl), by repeat (first | (with_reducible first | exact HB.out | apply below_alloc | apply pw_below_drewN | apply below_drew1) | exact HB.out)⟩

end Go.Proofs.YtgdjfcmmpjcaaaaDoor.Q

-- Printed by this session's wip/np.py over the kit's print program. Not trusted: Lean checks it.
namespace Go.Proofs.YtgdjfcmmpjcaaaaDoor.Q
open Go.RowKit Go.Proofs.YtgdjfcmmpjcaaaaDoorW.PrintWords Go.Proofs.YtgdjfcmmpjcaaaaDoorW.PrintLast Go.Proofs.YtgdjfcmmpjcaaaaDoorW.Own Go.Proofs.YtgdjfcmmpjcaaaaDoorW.PrintMore
attribute [local go_sem] max2_int min2_int max_two min_two max_three min_three max_four min_four
set_option linter.unusedVariables false
set_option linter.unusedSimpArgs false

/-! ### api_Span_60: function 60 -/
def api_Span_60.f (k : Nat) (l0 : List (S58)) (l1 : List (S58)) : Option (Bool) := (api_Span_100.f k l0 l1).bind fun t812 => (some t812)
theorem api_Span_60.mono : ∀ a0 a1 k, LeO (api_Span_60.f k a0 a1) (api_Span_60.f (k + 1) a0 a1) := by
  intro a0 a1 k
  unfold api_Span_60.f
  repeat' first
      | (with_reducible exact api_Span_100.mono _ _ _)
      | (with_reducible exact LeO.refl _)
      | (with_reducible exact LeO.none _)
      | (with_reducible refine LeO.ite ?_ ?_)
      | (with_reducible refine LeO.bind ?_ (fun _ => ?_))
      | exact api_Span_100.mono _ _ _
      | exact LeO.none _
      | refine LeO.ite ?_ ?_
      | refine LeO.bind ?_ (fun _ => ?_)
set_option maxHeartbeats 8000000 in
set_option maxRecDepth 100000 in
theorem api_Span_60.calls (k : Nat) (A0 : Option Addr) (c0 : Nat) (l0 : List (S58)) (A1 : Option Addr) (c1 : Nat) (l1 : List (S58)) (r : Bool) (w : World) (hr0 : Kd.C k58 w A0 l0.length l0) (hc0 : l0.length ≤ c0) (hr1 : Kd.C k58 w A1 l1.length l1) (hc1 : l1.length ≤ c1) (hG : Glob w) (h : api_Span_60.f k l0 l1 = some r) :
    Calls Tryd.prog 60 #[.slice A0 l0.length c0, .slice A1 l1.length c1] w fun e w' => e = .returned (.bool r) ∧ Below w.heap.size w w' := by
  have HG := Aside0.mk hG
  clear hG
  have HR0 := Aside0.mk hr0
  have HC0 := Aside0.mk hc0
  clear hr0 hc0
  have HR1 := Aside0.mk hr1
  have HC1 := Aside0.mk hc1
  clear hr1 hc1
  have HB := Aside0.mk (Below.refl w.heap.size w)
  have H : ((api_Span_100.f k l0 l1).bind fun t812 => (some t812)) = some r := h
  clear h
  replace H := Option.bind_eq_some_iff.mp H
  obtain ⟨t812, A30, H⟩ := H
  replace H : (some t812) = some r := H
  have A3 := Aside0.mk A30
  clear A30
  obtain rfl := Option.some.inj H
  go_enter Tryd.func60, Tryd.ntmps60
  go_wp2_with (first | ((with_reducible refine gate_callee (f := 100) rfl ?_); refine goesL_ (some 7) rfl rfl Tryd.func100 (by kernel_rfl) rfl #[.slice A0 l0.length c0, .slice A1 l1.length c1, .func (.func 101) #[] #[]] rfl (by (try simp only [List.map_toArray, List.map_cons, List.map_nil]); first | done | rfl | (simp only [List.length_drop, List.length_take]; rfl)) ?_; (with_reducible refine (api_Span_100.calls k _ _ l0 _ _ l1  t812 _ ?side1 ?side2 ?side3 ?side4 ?side5 A3.out).mono ?_); (case side1 => repeat (first | exact HR0.out | (with_reducible refine Kd.C_alloc ?_ _) | (with_reducible refine Kd.C_drewN ?_ _) | (with_reducible refine Kd.C_drew ?_))); (case side2 => exact HC0.out); (case side3 => repeat (first | exact HR1.out | (with_reducible refine Kd.C_alloc ?_ _) | (with_reducible refine Kd.C_drewN ?_ _) | (with_reducible refine Kd.C_drew ?_))); (case side4 => exact HC1.out); (case side5 => exact Glob.step HG.out (by repeat (first | (with_reducible first | exact HB.out | apply below_alloc | apply pw_below_drewN | apply below_drew1) | exact HB.out))); rintro e w4 ⟨rfl, hb⟩; refine ⟨_, rfl, ?_⟩; have n0_ := Aside0.mk (below_step (by repeat (first | (with_reducible first | exact HB.out | apply below_alloc | apply pw_below_drewN | apply below_drew1) | exact HB.out)) hb); clear HB; have HB := n0_; clear n0_; (try clear hb); (try clear hb2); (try clear hk); (try clear hi)))
  go_ret
  exact ⟨by first | rfl | (simp [errW_none, errW_some] <;> rfl) | (simp [*, errW_none, errW_some] <;> rfl), by repeat (first | (with_reducible first | exact HB.out | apply below_alloc | apply pw_below_drewN | apply below_drew1) | exact HB.out)⟩

end Go.Proofs.YtgdjfcmmpjcaaaaDoor.Q

-- Printed by this session's wip/np.py over the kit's print program. Not trusted: Lean checks it.
namespace Go.Proofs.YtgdjfcmmpjcaaaaDoor.Q
open Go.RowKit Go.Proofs.YtgdjfcmmpjcaaaaDoorW.PrintWords Go.Proofs.YtgdjfcmmpjcaaaaDoorW.PrintLast Go.Proofs.YtgdjfcmmpjcaaaaDoorW.Own Go.Proofs.YtgdjfcmmpjcaaaaDoorW.PrintMore
attribute [local go_sem] max2_int min2_int max_two min_two max_three min_three max_four min_four
set_option linter.unusedVariables false
set_option linter.unusedSimpArgs false

/-! ### newellaw07_SpanRefuses: function 19 -/
def newellaw07_SpanRefuses.f (k : Nat) (a0 : Int) : Option (Bool) := (some (([(⟨#[]⟩ : ByteArray), (⟨#[49]⟩ : ByteArray), (⟨#[91, 49]⟩ : ByteArray), (⟨#[40, 49, 41]⟩ : ByteArray), (⟨#[91, 49, 41]⟩ : ByteArray), (⟨#[91, 44, 49, 93]⟩ : ByteArray), (⟨#[91, 49, 44, 93]⟩ : ByteArray), (⟨#[91, 50, 44, 49, 93]⟩ : ByteArray), (⟨#[40, 49, 44, 49, 41]⟩ : ByteArray), (⟨#[91, 49, 44, 50, 93, 44, 91, 50, 44, 51, 93]⟩ : ByteArray), (⟨#[91, 49, 44, 50, 41, 44]⟩ : ByteArray), (⟨#[91, 49, 44, 50, 41, 40, 51, 44, 52, 41]⟩ : ByteArray), (⟨#[91, 49, 44, 50, 41, 44, 91, 49, 44, 51, 41]⟩ : ByteArray), (⟨#[40, 44, 41, 44, 40, 49, 44, 50, 41]⟩ : ByteArray), (⟨#[91, 93]⟩ : ByteArray), (⟨#[91, 49, 32, 50, 93]⟩ : ByteArray), (⟨#[91, 49, 44, 50, 44, 51, 93]⟩ : ByteArray)] : List ByteArray) : List ByteArray)).bind fun y813 => ((some (([(⟨#[40, 44, 41]⟩ : ByteArray), (⟨#[91, 49, 93]⟩ : ByteArray), (⟨#[91, 49, 44, 50, 41]⟩ : ByteArray), (⟨#[40, 49, 44, 50, 41]⟩ : ByteArray), (⟨#[91, 49, 44, 49, 93]⟩ : ByteArray), (⟨#[40, 44, 49, 93]⟩ : ByteArray), (⟨#[91, 49, 44, 41]⟩ : ByteArray), (⟨#[91, 49, 44, 50, 93]⟩ : ByteArray), (⟨#[91, 49, 44, 49, 46, 48, 93]⟩ : ByteArray), (⟨#[91, 49, 44, 50, 41, 44, 91, 50, 44, 51, 93]⟩ : ByteArray), (⟨#[91, 49, 44, 50, 41, 44, 40, 50, 44, 51, 41]⟩ : ByteArray), (⟨#[91, 49, 44, 50, 41, 44, 40, 51, 44, 52, 41]⟩ : ByteArray), (⟨#[91, 49, 44, 50, 41, 44, 91, 50, 44, 51, 41]⟩ : ByteArray), (⟨#[40, 44, 49, 41, 44, 40, 49, 44, 50, 41]⟩ : ByteArray), (⟨#[91, 32, 49, 32, 93]⟩ : ByteArray), (⟨#[91, 49, 45, 50, 93]⟩ : ByteArray), (⟨#[91, 49, 44, 50, 46, 51, 93]⟩ : ByteArray)] : List ByteArray) : List ByteArray)).bind fun y816 => (if 0 ≤ (wrap64 (Int.tmod (IntKind.u64.wrap (a0)) 17)) then (if (wrap64 (Int.tmod (IntKind.u64.wrap (a0)) 17)) < (y813.length : Int) then ((span_Parse.f k (rdOf ByteArray.empty y813 (wrap64 (Int.tmod (IntKind.u64.wrap (a0)) 17)))).bind fun bt820 => (if (wrap64 (Int.tmod (IntKind.u64.wrap (a0)) 17)) < (y816.length : Int) then ((span_Parse.f k (rdOf ByteArray.empty y816 (wrap64 (Int.tmod (IntKind.u64.wrap (a0)) 17)))).bind fun bt825 => ((span_Text.f k bt825.1).bind fun t829 => ((span_Parse.f k t829).bind fun bt830 => ((newellaw07_awake.f k).bind fun t834 => (if t834 = true then (if bt820.2 = 12 then (if bt825.2 = 0 then (if bt830.2 = 0 then ((api_Span_60.f k bt825.1 bt830.1).bind fun t835 => (some t835)) else (some false)) else (some false)) else (some false)) else (some false)))))) else (none))) else (none)) else (none)))
theorem newellaw07_SpanRefuses.mono : ∀ a0 k, LeO (newellaw07_SpanRefuses.f k a0) (newellaw07_SpanRefuses.f (k + 1) a0) := by
  intro a0 k
  unfold newellaw07_SpanRefuses.f
  repeat' first
      | (with_reducible exact api_Span_60.mono _ _ _)
      | (with_reducible exact newellaw07_awake.mono _)
      | (with_reducible exact span_Parse.mono _ _)
      | (with_reducible exact span_Text.mono _ _)
      | (with_reducible exact LeO.refl _)
      | (with_reducible exact LeO.none _)
      | (with_reducible refine LeO.ite ?_ ?_)
      | (with_reducible refine LeO.bind ?_ (fun _ => ?_))
      | exact api_Span_60.mono _ _ _
      | exact newellaw07_awake.mono _
      | exact span_Parse.mono _ _
      | exact span_Text.mono _ _
      | exact LeO.none _
      | refine LeO.ite ?_ ?_
      | refine LeO.bind ?_ (fun _ => ?_)
set_option maxHeartbeats 8000000 in
set_option maxRecDepth 100000 in
theorem newellaw07_SpanRefuses.calls (k : Nat) (a0 : Int) (r : Bool) (w : World) (hG : Glob w) (h : newellaw07_SpanRefuses.f k a0 = some r) (hr_ : r = true) :
    Calls Tryd.prog 19 #[.int .i64 a0] w fun e w' => e = .returned (.bool r) ∧ Below w.heap.size w w' := by
  have HG := Aside0.mk hG
  clear hG
  have HB := Aside0.mk (Below.refl w.heap.size w)
  have H : ((some (([(⟨#[]⟩ : ByteArray), (⟨#[49]⟩ : ByteArray), (⟨#[91, 49]⟩ : ByteArray), (⟨#[40, 49, 41]⟩ : ByteArray), (⟨#[91, 49, 41]⟩ : ByteArray), (⟨#[91, 44, 49, 93]⟩ : ByteArray), (⟨#[91, 49, 44, 93]⟩ : ByteArray), (⟨#[91, 50, 44, 49, 93]⟩ : ByteArray), (⟨#[40, 49, 44, 49, 41]⟩ : ByteArray), (⟨#[91, 49, 44, 50, 93, 44, 91, 50, 44, 51, 93]⟩ : ByteArray), (⟨#[91, 49, 44, 50, 41, 44]⟩ : ByteArray), (⟨#[91, 49, 44, 50, 41, 40, 51, 44, 52, 41]⟩ : ByteArray), (⟨#[91, 49, 44, 50, 41, 44, 91, 49, 44, 51, 41]⟩ : ByteArray), (⟨#[40, 44, 41, 44, 40, 49, 44, 50, 41]⟩ : ByteArray), (⟨#[91, 93]⟩ : ByteArray), (⟨#[91, 49, 32, 50, 93]⟩ : ByteArray), (⟨#[91, 49, 44, 50, 44, 51, 93]⟩ : ByteArray)] : List ByteArray) : List ByteArray)).bind fun y813 => ((some (([(⟨#[40, 44, 41]⟩ : ByteArray), (⟨#[91, 49, 93]⟩ : ByteArray), (⟨#[91, 49, 44, 50, 41]⟩ : ByteArray), (⟨#[40, 49, 44, 50, 41]⟩ : ByteArray), (⟨#[91, 49, 44, 49, 93]⟩ : ByteArray), (⟨#[40, 44, 49, 93]⟩ : ByteArray), (⟨#[91, 49, 44, 41]⟩ : ByteArray), (⟨#[91, 49, 44, 50, 93]⟩ : ByteArray), (⟨#[91, 49, 44, 49, 46, 48, 93]⟩ : ByteArray), (⟨#[91, 49, 44, 50, 41, 44, 91, 50, 44, 51, 93]⟩ : ByteArray), (⟨#[91, 49, 44, 50, 41, 44, 40, 50, 44, 51, 41]⟩ : ByteArray), (⟨#[91, 49, 44, 50, 41, 44, 40, 51, 44, 52, 41]⟩ : ByteArray), (⟨#[91, 49, 44, 50, 41, 44, 91, 50, 44, 51, 41]⟩ : ByteArray), (⟨#[40, 44, 49, 41, 44, 40, 49, 44, 50, 41]⟩ : ByteArray), (⟨#[91, 32, 49, 32, 93]⟩ : ByteArray), (⟨#[91, 49, 45, 50, 93]⟩ : ByteArray), (⟨#[91, 49, 44, 50, 46, 51, 93]⟩ : ByteArray)] : List ByteArray) : List ByteArray)).bind fun y816 => (if 0 ≤ (wrap64 (Int.tmod (IntKind.u64.wrap (a0)) 17)) then (if (wrap64 (Int.tmod (IntKind.u64.wrap (a0)) 17)) < (y813.length : Int) then ((span_Parse.f k (rdOf ByteArray.empty y813 (wrap64 (Int.tmod (IntKind.u64.wrap (a0)) 17)))).bind fun bt820 => (if (wrap64 (Int.tmod (IntKind.u64.wrap (a0)) 17)) < (y816.length : Int) then ((span_Parse.f k (rdOf ByteArray.empty y816 (wrap64 (Int.tmod (IntKind.u64.wrap (a0)) 17)))).bind fun bt825 => ((span_Text.f k bt825.1).bind fun t829 => ((span_Parse.f k t829).bind fun bt830 => ((newellaw07_awake.f k).bind fun t834 => (if t834 = true then (if bt820.2 = 12 then (if bt825.2 = 0 then (if bt830.2 = 0 then ((api_Span_60.f k bt825.1 bt830.1).bind fun t835 => (some t835)) else (some false)) else (some false)) else (some false)) else (some false)))))) else (none))) else (none)) else (none)))) = some r := h
  clear h
  obtain ⟨y813, hy813⟩ : ∃ y_ : List ByteArray, y_ = (([(⟨#[]⟩ : ByteArray), (⟨#[49]⟩ : ByteArray), (⟨#[91, 49]⟩ : ByteArray), (⟨#[40, 49, 41]⟩ : ByteArray), (⟨#[91, 49, 41]⟩ : ByteArray), (⟨#[91, 44, 49, 93]⟩ : ByteArray), (⟨#[91, 49, 44, 93]⟩ : ByteArray), (⟨#[91, 50, 44, 49, 93]⟩ : ByteArray), (⟨#[40, 49, 44, 49, 41]⟩ : ByteArray), (⟨#[91, 49, 44, 50, 93, 44, 91, 50, 44, 51, 93]⟩ : ByteArray), (⟨#[91, 49, 44, 50, 41, 44]⟩ : ByteArray), (⟨#[91, 49, 44, 50, 41, 40, 51, 44, 52, 41]⟩ : ByteArray), (⟨#[91, 49, 44, 50, 41, 44, 91, 49, 44, 51, 41]⟩ : ByteArray), (⟨#[40, 44, 41, 44, 40, 49, 44, 50, 41]⟩ : ByteArray), (⟨#[91, 93]⟩ : ByteArray), (⟨#[91, 49, 32, 50, 93]⟩ : ByteArray), (⟨#[91, 49, 44, 50, 44, 51, 93]⟩ : ByteArray)] : List ByteArray)) := ⟨_, rfl⟩
  replace H : ((some (([(⟨#[40, 44, 41]⟩ : ByteArray), (⟨#[91, 49, 93]⟩ : ByteArray), (⟨#[91, 49, 44, 50, 41]⟩ : ByteArray), (⟨#[40, 49, 44, 50, 41]⟩ : ByteArray), (⟨#[91, 49, 44, 49, 93]⟩ : ByteArray), (⟨#[40, 44, 49, 93]⟩ : ByteArray), (⟨#[91, 49, 44, 41]⟩ : ByteArray), (⟨#[91, 49, 44, 50, 93]⟩ : ByteArray), (⟨#[91, 49, 44, 49, 46, 48, 93]⟩ : ByteArray), (⟨#[91, 49, 44, 50, 41, 44, 91, 50, 44, 51, 93]⟩ : ByteArray), (⟨#[91, 49, 44, 50, 41, 44, 40, 50, 44, 51, 41]⟩ : ByteArray), (⟨#[91, 49, 44, 50, 41, 44, 40, 51, 44, 52, 41]⟩ : ByteArray), (⟨#[91, 49, 44, 50, 41, 44, 91, 50, 44, 51, 41]⟩ : ByteArray), (⟨#[40, 44, 49, 41, 44, 40, 49, 44, 50, 41]⟩ : ByteArray), (⟨#[91, 32, 49, 32, 93]⟩ : ByteArray), (⟨#[91, 49, 45, 50, 93]⟩ : ByteArray), (⟨#[91, 49, 44, 50, 46, 51, 93]⟩ : ByteArray)] : List ByteArray) : List ByteArray)).bind fun y816 => (if 0 ≤ (wrap64 (Int.tmod (IntKind.u64.wrap (a0)) 17)) then (if (wrap64 (Int.tmod (IntKind.u64.wrap (a0)) 17)) < (y813.length : Int) then ((span_Parse.f k (rdOf ByteArray.empty y813 (wrap64 (Int.tmod (IntKind.u64.wrap (a0)) 17)))).bind fun bt820 => (if (wrap64 (Int.tmod (IntKind.u64.wrap (a0)) 17)) < (y816.length : Int) then ((span_Parse.f k (rdOf ByteArray.empty y816 (wrap64 (Int.tmod (IntKind.u64.wrap (a0)) 17)))).bind fun bt825 => ((span_Text.f k bt825.1).bind fun t829 => ((span_Parse.f k t829).bind fun bt830 => ((newellaw07_awake.f k).bind fun t834 => (if t834 = true then (if bt820.2 = 12 then (if bt825.2 = 0 then (if bt830.2 = 0 then ((api_Span_60.f k bt825.1 bt830.1).bind fun t835 => (some t835)) else (some false)) else (some false)) else (some false)) else (some false)))))) else (none))) else (none)) else (none))) = some r := by first | (rw [hy813]; with_reducible exact H) | (have H2_ := (Option.bind_some _ _).symm.trans H; rw [hy813]; with_reducible exact H2_) | (have H2_ := (Option.bind_some _ _).symm.trans H; with_reducible exact H2_) | with_reducible exact H | (rw [hy813]; exact H) | exact H
  have Ny813 := Aside0.mk hy813
  clear hy813
  obtain ⟨y816, hy816⟩ : ∃ y_ : List ByteArray, y_ = (([(⟨#[40, 44, 41]⟩ : ByteArray), (⟨#[91, 49, 93]⟩ : ByteArray), (⟨#[91, 49, 44, 50, 41]⟩ : ByteArray), (⟨#[40, 49, 44, 50, 41]⟩ : ByteArray), (⟨#[91, 49, 44, 49, 93]⟩ : ByteArray), (⟨#[40, 44, 49, 93]⟩ : ByteArray), (⟨#[91, 49, 44, 41]⟩ : ByteArray), (⟨#[91, 49, 44, 50, 93]⟩ : ByteArray), (⟨#[91, 49, 44, 49, 46, 48, 93]⟩ : ByteArray), (⟨#[91, 49, 44, 50, 41, 44, 91, 50, 44, 51, 93]⟩ : ByteArray), (⟨#[91, 49, 44, 50, 41, 44, 40, 50, 44, 51, 41]⟩ : ByteArray), (⟨#[91, 49, 44, 50, 41, 44, 40, 51, 44, 52, 41]⟩ : ByteArray), (⟨#[91, 49, 44, 50, 41, 44, 91, 50, 44, 51, 41]⟩ : ByteArray), (⟨#[40, 44, 49, 41, 44, 40, 49, 44, 50, 41]⟩ : ByteArray), (⟨#[91, 32, 49, 32, 93]⟩ : ByteArray), (⟨#[91, 49, 45, 50, 93]⟩ : ByteArray), (⟨#[91, 49, 44, 50, 46, 51, 93]⟩ : ByteArray)] : List ByteArray)) := ⟨_, rfl⟩
  replace H : (if 0 ≤ (wrap64 (Int.tmod (IntKind.u64.wrap (a0)) 17)) then (if (wrap64 (Int.tmod (IntKind.u64.wrap (a0)) 17)) < (y813.length : Int) then ((span_Parse.f k (rdOf ByteArray.empty y813 (wrap64 (Int.tmod (IntKind.u64.wrap (a0)) 17)))).bind fun bt820 => (if (wrap64 (Int.tmod (IntKind.u64.wrap (a0)) 17)) < (y816.length : Int) then ((span_Parse.f k (rdOf ByteArray.empty y816 (wrap64 (Int.tmod (IntKind.u64.wrap (a0)) 17)))).bind fun bt825 => ((span_Text.f k bt825.1).bind fun t829 => ((span_Parse.f k t829).bind fun bt830 => ((newellaw07_awake.f k).bind fun t834 => (if t834 = true then (if bt820.2 = 12 then (if bt825.2 = 0 then (if bt830.2 = 0 then ((api_Span_60.f k bt825.1 bt830.1).bind fun t835 => (some t835)) else (some false)) else (some false)) else (some false)) else (some false)))))) else (none))) else (none)) else (none)) = some r := by first | (rw [hy816]; with_reducible exact H) | (have H2_ := (Option.bind_some _ _).symm.trans H; rw [hy816]; with_reducible exact H2_) | (have H2_ := (Option.bind_some _ _).symm.trans H; with_reducible exact H2_) | with_reducible exact H | (rw [hy816]; exact H) | exact H
  have Ny816 := Aside0.mk hy816
  clear hy816
  obtain ⟨ji2, hji2⟩ : ∃ j_ : Int, (wrap64 (Int.tmod (IntKind.u64.wrap (a0)) 17)) = j_ := ⟨_, rfl⟩
  replace H : (if 0 ≤ (ji2) then (if (ji2) < (y813.length : Int) then ((span_Parse.f k (rdOf ByteArray.empty y813 (ji2))).bind fun bt820 => (if (ji2) < (y816.length : Int) then ((span_Parse.f k (rdOf ByteArray.empty y816 (ji2))).bind fun bt825 => ((span_Text.f k bt825.1).bind fun t829 => ((span_Parse.f k t829).bind fun bt830 => ((newellaw07_awake.f k).bind fun t834 => (if t834 = true then (if bt820.2 = 12 then (if bt825.2 = 0 then (if bt830.2 = 0 then ((api_Span_60.f k bt825.1 bt830.1).bind fun t835 => (some t835)) else (some false)) else (some false)) else (some false)) else (some false)))))) else (none))) else (none)) else (none)) = some r := by first | (rw [hji2] at H; exact H) | (simp only [hji2] at H ⊢; exact H)
  have hji2w : (IntKind.i64.wrap (Int.tmod (IntKind.u64.wrap (a0)) 17)) = ji2 := (i64_w _).trans hji2
  by_cases c3 : 0 ≤ (ji2)
  · rw [if_pos c3] at H
    have c3b0 : decide (0 ≤ (ji2)) = true := decide_eq_true c3
    clear c3
    by_cases c4 : (ji2) < (y813.length : Int)
    · rw [if_pos c4] at H
      have c4b0 : decide ((ji2) < (y813.length : Int)) = true := decide_eq_true c4
      clear c4
      replace H := Option.bind_eq_some_iff.mp H
      obtain ⟨⟨t820, t821⟩, A50, H⟩ := H
      replace H : (if (ji2) < (y816.length : Int) then ((span_Parse.f k (rdOf ByteArray.empty y816 (ji2))).bind fun bt825 => ((span_Text.f k bt825.1).bind fun t829 => ((span_Parse.f k t829).bind fun bt830 => ((newellaw07_awake.f k).bind fun t834 => (if t834 = true then (if t821 = 12 then (if bt825.2 = 0 then (if bt830.2 = 0 then ((api_Span_60.f k bt825.1 bt830.1).bind fun t835 => (some t835)) else (some false)) else (some false)) else (some false)) else (some false)))))) else (none)) = some r := H
      have A5 := Aside0.mk A50
      clear A50
      by_cases c6 : (ji2) < (y816.length : Int)
      · rw [if_pos c6] at H
        have c6b0 : decide ((ji2) < (y816.length : Int)) = true := decide_eq_true c6
        clear c6
        replace H := Option.bind_eq_some_iff.mp H
        obtain ⟨⟨t825, t826⟩, A70, H⟩ := H
        replace H : ((span_Text.f k t825).bind fun t829 => ((span_Parse.f k t829).bind fun bt830 => ((newellaw07_awake.f k).bind fun t834 => (if t834 = true then (if t821 = 12 then (if t826 = 0 then (if bt830.2 = 0 then ((api_Span_60.f k t825 bt830.1).bind fun t835 => (some t835)) else (some false)) else (some false)) else (some false)) else (some false))))) = some r := H
        have A7 := Aside0.mk A70
        clear A70
        replace H := Option.bind_eq_some_iff.mp H
        obtain ⟨t829, A80, H⟩ := H
        replace H : ((span_Parse.f k t829).bind fun bt830 => ((newellaw07_awake.f k).bind fun t834 => (if t834 = true then (if t821 = 12 then (if t826 = 0 then (if bt830.2 = 0 then ((api_Span_60.f k t825 bt830.1).bind fun t835 => (some t835)) else (some false)) else (some false)) else (some false)) else (some false)))) = some r := H
        have A8 := Aside0.mk A80
        clear A80
        replace H := Option.bind_eq_some_iff.mp H
        obtain ⟨⟨t830, t831⟩, A90, H⟩ := H
        replace H : ((newellaw07_awake.f k).bind fun t834 => (if t834 = true then (if t821 = 12 then (if t826 = 0 then (if t831 = 0 then ((api_Span_60.f k t825 t830).bind fun t835 => (some t835)) else (some false)) else (some false)) else (some false)) else (some false))) = some r := H
        have A9 := Aside0.mk A90
        clear A90
        replace H := Option.bind_eq_some_iff.mp H
        obtain ⟨t834, A100, H⟩ := H
        replace H : (if t834 = true then (if t821 = 12 then (if t826 = 0 then (if t831 = 0 then ((api_Span_60.f k t825 t830).bind fun t835 => (some t835)) else (some false)) else (some false)) else (some false)) else (some false)) = some r := H
        have A10 := Aside0.mk A100
        clear A100
        by_cases c11 : t834 = true
        · subst c11
          have H1 : (if t821 = 12 then (if t826 = 0 then (if t831 = 0 then ((api_Span_60.f k t825 t830).bind fun t835 => (some t835)) else (some false)) else (some false)) else (some false)) = some r := by rw [if_pos rfl] at H; exact H
          clear H
          have H := H1
          clear H1
          by_cases c12 : t821 = 12
          · rw [if_pos c12] at H
            have c12b0 : (t821 == 12) = true := beq_iff_eq.mpr c12
            have c12b1 : (t821 != 12) = false := bne_eq_false_iff_eq.mpr c12
            clear c12
            by_cases c13 : t826 = 0
            · rw [if_pos c13] at H
              have c13b0 : (t826 == 0) = true := beq_iff_eq.mpr c13
              have c13b1 : (t826 != 0) = false := bne_eq_false_iff_eq.mpr c13
              clear c13
              by_cases c14 : t831 = 0
              · rw [if_pos c14] at H
                have c14b0 : (t831 == 0) = true := beq_iff_eq.mpr c14
                have c14b1 : (t831 != 0) = false := bne_eq_false_iff_eq.mpr c14
                clear c14
                replace H := Option.bind_eq_some_iff.mp H
                obtain ⟨t835, A150, H⟩ := H
                replace H : (some t835) = some r := H
                have A15 := Aside0.mk A150
                clear A150
                obtain rfl := Option.some.inj H
                go_enter Tryd.func19, Tryd.ntmps19
                go_wp2_with (first | ((with_reducible refine gate_dst (N := 12) rfl ?_); refine Kd.R_lit Kd.string _ 9 ?hg (N := 12) ?hd (xs := ([(⟨#[]⟩ : ByteArray), (⟨#[49]⟩ : ByteArray), (⟨#[91, 49]⟩ : ByteArray), (⟨#[40, 49, 41]⟩ : ByteArray), (⟨#[91, 49, 41]⟩ : ByteArray), (⟨#[91, 44, 49, 93]⟩ : ByteArray), (⟨#[91, 49, 44, 93]⟩ : ByteArray), (⟨#[91, 50, 44, 49, 93]⟩ : ByteArray), (⟨#[40, 49, 44, 49, 41]⟩ : ByteArray), (⟨#[91, 49, 44, 50, 93, 44, 91, 50, 44, 51, 93]⟩ : ByteArray), (⟨#[91, 49, 44, 50, 41, 44]⟩ : ByteArray), (⟨#[91, 49, 44, 50, 41, 40, 51, 44, 52, 41]⟩ : ByteArray), (⟨#[91, 49, 44, 50, 41, 44, 91, 49, 44, 51, 41]⟩ : ByteArray), (⟨#[40, 44, 41, 44, 40, 49, 44, 50, 41]⟩ : ByteArray), (⟨#[91, 93]⟩ : ByteArray), (⟨#[91, 49, 32, 50, 93]⟩ : ByteArray), (⟨#[91, 49, 44, 50, 44, 51, 93]⟩ : ByteArray)] : List ByteArray)) (inner := [.string (⟨#[]⟩ : ByteArray), .string (⟨#[49]⟩ : ByteArray), .string (⟨#[91, 49]⟩ : ByteArray), .string (⟨#[40, 49, 41]⟩ : ByteArray), .string (⟨#[91, 49, 41]⟩ : ByteArray), .string (⟨#[91, 44, 49, 93]⟩ : ByteArray), .string (⟨#[91, 49, 44, 93]⟩ : ByteArray), .string (⟨#[91, 50, 44, 49, 93]⟩ : ByteArray), .string (⟨#[40, 49, 44, 49, 41]⟩ : ByteArray), .string (⟨#[91, 49, 44, 50, 93, 44, 91, 50, 44, 51, 93]⟩ : ByteArray), .string (⟨#[91, 49, 44, 50, 41, 44]⟩ : ByteArray), .string (⟨#[91, 49, 44, 50, 41, 40, 51, 44, 52, 41]⟩ : ByteArray), .string (⟨#[91, 49, 44, 50, 41, 44, 91, 49, 44, 51, 41]⟩ : ByteArray), .string (⟨#[40, 44, 41, 44, 40, 49, 44, 50, 41]⟩ : ByteArray), .string (⟨#[91, 93]⟩ : ByteArray), .string (⟨#[91, 49, 32, 50, 93]⟩ : ByteArray), .string (⟨#[91, 49, 44, 50, 44, 51, 93]⟩ : ByteArray)]) (ok := fun _ => True) (okp := fun _ => True) ?hr ?hp (fun _ hk => hk) trivial (Below.refl _ _) (Nat.le_refl _) (by simp) ?_; (case hd => rfl); (case hg => rfl); (case hr => first | (go_simp; done) | (go_simp; rfl)); (case hp => exact (Reps.one (show Kd.M Kd.string _ _ _ (⟨#[]⟩ : ByteArray) [.string (⟨#[]⟩ : ByteArray)] from rfl) (Reps.one (show Kd.M Kd.string _ _ _ (⟨#[49]⟩ : ByteArray) [.string (⟨#[49]⟩ : ByteArray)] from rfl) (Reps.one (show Kd.M Kd.string _ _ _ (⟨#[91, 49]⟩ : ByteArray) [.string (⟨#[91, 49]⟩ : ByteArray)] from rfl) (Reps.one (show Kd.M Kd.string _ _ _ (⟨#[40, 49, 41]⟩ : ByteArray) [.string (⟨#[40, 49, 41]⟩ : ByteArray)] from rfl) (Reps.one (show Kd.M Kd.string _ _ _ (⟨#[91, 49, 41]⟩ : ByteArray) [.string (⟨#[91, 49, 41]⟩ : ByteArray)] from rfl) (Reps.one (show Kd.M Kd.string _ _ _ (⟨#[91, 44, 49, 93]⟩ : ByteArray) [.string (⟨#[91, 44, 49, 93]⟩ : ByteArray)] from rfl) (Reps.one (show Kd.M Kd.string _ _ _ (⟨#[91, 49, 44, 93]⟩ : ByteArray) [.string (⟨#[91, 49, 44, 93]⟩ : ByteArray)] from rfl) (Reps.one (show Kd.M Kd.string _ _ _ (⟨#[91, 50, 44, 49, 93]⟩ : ByteArray) [.string (⟨#[91, 50, 44, 49, 93]⟩ : ByteArray)] from rfl) (Reps.one (show Kd.M Kd.string _ _ _ (⟨#[40, 49, 44, 49, 41]⟩ : ByteArray) [.string (⟨#[40, 49, 44, 49, 41]⟩ : ByteArray)] from rfl) (Reps.one (show Kd.M Kd.string _ _ _ (⟨#[91, 49, 44, 50, 93, 44, 91, 50, 44, 51, 93]⟩ : ByteArray) [.string (⟨#[91, 49, 44, 50, 93, 44, 91, 50, 44, 51, 93]⟩ : ByteArray)] from rfl) (Reps.one (show Kd.M Kd.string _ _ _ (⟨#[91, 49, 44, 50, 41, 44]⟩ : ByteArray) [.string (⟨#[91, 49, 44, 50, 41, 44]⟩ : ByteArray)] from rfl) (Reps.one (show Kd.M Kd.string _ _ _ (⟨#[91, 49, 44, 50, 41, 40, 51, 44, 52, 41]⟩ : ByteArray) [.string (⟨#[91, 49, 44, 50, 41, 40, 51, 44, 52, 41]⟩ : ByteArray)] from rfl) (Reps.one (show Kd.M Kd.string _ _ _ (⟨#[91, 49, 44, 50, 41, 44, 91, 49, 44, 51, 41]⟩ : ByteArray) [.string (⟨#[91, 49, 44, 50, 41, 44, 91, 49, 44, 51, 41]⟩ : ByteArray)] from rfl) (Reps.one (show Kd.M Kd.string _ _ _ (⟨#[40, 44, 41, 44, 40, 49, 44, 50, 41]⟩ : ByteArray) [.string (⟨#[40, 44, 41, 44, 40, 49, 44, 50, 41]⟩ : ByteArray)] from rfl) (Reps.one (show Kd.M Kd.string _ _ _ (⟨#[91, 93]⟩ : ByteArray) [.string (⟨#[91, 93]⟩ : ByteArray)] from rfl) (Reps.one (show Kd.M Kd.string _ _ _ (⟨#[91, 49, 32, 50, 93]⟩ : ByteArray) [.string (⟨#[91, 49, 32, 50, 93]⟩ : ByteArray)] from rfl) (Reps.one (show Kd.M Kd.string _ _ _ (⟨#[91, 49, 44, 50, 44, 51, 93]⟩ : ByteArray) [.string (⟨#[91, 49, 44, 50, 44, 51, 93]⟩ : ByteArray)] from rfl) (Reps.none _ _))))))))))))))))))); intro v814 w16 ho17 hb hg_ hnew_; clear hg_ hnew_; (first | rw [← Ny813.out] at ho17 | (simp only [Int.reduceToNat] at ho17; rw [← Ny813.out] at ho17)); have n0_ := Aside0.mk (Kd.R_lower ho17 (below_size (by repeat (first | (with_reducible first | exact HB.out | apply below_alloc | apply pw_below_drewN | apply below_drew1) | exact HB.out)))); have n1_ := Aside0.mk (below_step (by repeat (first | (with_reducible first | exact HB.out | apply below_alloc | apply pw_below_drewN | apply below_drew1) | exact HB.out)) hb); clear HB; have HO815 := n0_; have HB := n1_; clear n0_ n1_; clear hb ho17) | ((with_reducible refine gate_dst (N := 13) rfl ?_); refine Kd.R_lit Kd.string _ 9 ?hg (N := 13) ?hd (xs := ([(⟨#[40, 44, 41]⟩ : ByteArray), (⟨#[91, 49, 93]⟩ : ByteArray), (⟨#[91, 49, 44, 50, 41]⟩ : ByteArray), (⟨#[40, 49, 44, 50, 41]⟩ : ByteArray), (⟨#[91, 49, 44, 49, 93]⟩ : ByteArray), (⟨#[40, 44, 49, 93]⟩ : ByteArray), (⟨#[91, 49, 44, 41]⟩ : ByteArray), (⟨#[91, 49, 44, 50, 93]⟩ : ByteArray), (⟨#[91, 49, 44, 49, 46, 48, 93]⟩ : ByteArray), (⟨#[91, 49, 44, 50, 41, 44, 91, 50, 44, 51, 93]⟩ : ByteArray), (⟨#[91, 49, 44, 50, 41, 44, 40, 50, 44, 51, 41]⟩ : ByteArray), (⟨#[91, 49, 44, 50, 41, 44, 40, 51, 44, 52, 41]⟩ : ByteArray), (⟨#[91, 49, 44, 50, 41, 44, 91, 50, 44, 51, 41]⟩ : ByteArray), (⟨#[40, 44, 49, 41, 44, 40, 49, 44, 50, 41]⟩ : ByteArray), (⟨#[91, 32, 49, 32, 93]⟩ : ByteArray), (⟨#[91, 49, 45, 50, 93]⟩ : ByteArray), (⟨#[91, 49, 44, 50, 46, 51, 93]⟩ : ByteArray)] : List ByteArray)) (inner := [.string (⟨#[40, 44, 41]⟩ : ByteArray), .string (⟨#[91, 49, 93]⟩ : ByteArray), .string (⟨#[91, 49, 44, 50, 41]⟩ : ByteArray), .string (⟨#[40, 49, 44, 50, 41]⟩ : ByteArray), .string (⟨#[91, 49, 44, 49, 93]⟩ : ByteArray), .string (⟨#[40, 44, 49, 93]⟩ : ByteArray), .string (⟨#[91, 49, 44, 41]⟩ : ByteArray), .string (⟨#[91, 49, 44, 50, 93]⟩ : ByteArray), .string (⟨#[91, 49, 44, 49, 46, 48, 93]⟩ : ByteArray), .string (⟨#[91, 49, 44, 50, 41, 44, 91, 50, 44, 51, 93]⟩ : ByteArray), .string (⟨#[91, 49, 44, 50, 41, 44, 40, 50, 44, 51, 41]⟩ : ByteArray), .string (⟨#[91, 49, 44, 50, 41, 44, 40, 51, 44, 52, 41]⟩ : ByteArray), .string (⟨#[91, 49, 44, 50, 41, 44, 91, 50, 44, 51, 41]⟩ : ByteArray), .string (⟨#[40, 44, 49, 41, 44, 40, 49, 44, 50, 41]⟩ : ByteArray), .string (⟨#[91, 32, 49, 32, 93]⟩ : ByteArray), .string (⟨#[91, 49, 45, 50, 93]⟩ : ByteArray), .string (⟨#[91, 49, 44, 50, 46, 51, 93]⟩ : ByteArray)]) (ok := fun _ => True) (okp := fun _ => True) ?hr ?hp (fun _ hk => hk) trivial (Below.refl _ _) (Nat.le_refl _) (by simp) ?_; (case hd => rfl); (case hg => rfl); (case hr => first | (go_simp; done) | (go_simp; rfl)); (case hp => exact (Reps.one (show Kd.M Kd.string _ _ _ (⟨#[40, 44, 41]⟩ : ByteArray) [.string (⟨#[40, 44, 41]⟩ : ByteArray)] from rfl) (Reps.one (show Kd.M Kd.string _ _ _ (⟨#[91, 49, 93]⟩ : ByteArray) [.string (⟨#[91, 49, 93]⟩ : ByteArray)] from rfl) (Reps.one (show Kd.M Kd.string _ _ _ (⟨#[91, 49, 44, 50, 41]⟩ : ByteArray) [.string (⟨#[91, 49, 44, 50, 41]⟩ : ByteArray)] from rfl) (Reps.one (show Kd.M Kd.string _ _ _ (⟨#[40, 49, 44, 50, 41]⟩ : ByteArray) [.string (⟨#[40, 49, 44, 50, 41]⟩ : ByteArray)] from rfl) (Reps.one (show Kd.M Kd.string _ _ _ (⟨#[91, 49, 44, 49, 93]⟩ : ByteArray) [.string (⟨#[91, 49, 44, 49, 93]⟩ : ByteArray)] from rfl) (Reps.one (show Kd.M Kd.string _ _ _ (⟨#[40, 44, 49, 93]⟩ : ByteArray) [.string (⟨#[40, 44, 49, 93]⟩ : ByteArray)] from rfl) (Reps.one (show Kd.M Kd.string _ _ _ (⟨#[91, 49, 44, 41]⟩ : ByteArray) [.string (⟨#[91, 49, 44, 41]⟩ : ByteArray)] from rfl) (Reps.one (show Kd.M Kd.string _ _ _ (⟨#[91, 49, 44, 50, 93]⟩ : ByteArray) [.string (⟨#[91, 49, 44, 50, 93]⟩ : ByteArray)] from rfl) (Reps.one (show Kd.M Kd.string _ _ _ (⟨#[91, 49, 44, 49, 46, 48, 93]⟩ : ByteArray) [.string (⟨#[91, 49, 44, 49, 46, 48, 93]⟩ : ByteArray)] from rfl) (Reps.one (show Kd.M Kd.string _ _ _ (⟨#[91, 49, 44, 50, 41, 44, 91, 50, 44, 51, 93]⟩ : ByteArray) [.string (⟨#[91, 49, 44, 50, 41, 44, 91, 50, 44, 51, 93]⟩ : ByteArray)] from rfl) (Reps.one (show Kd.M Kd.string _ _ _ (⟨#[91, 49, 44, 50, 41, 44, 40, 50, 44, 51, 41]⟩ : ByteArray) [.string (⟨#[91, 49, 44, 50, 41, 44, 40, 50, 44, 51, 41]⟩ : ByteArray)] from rfl) (Reps.one (show Kd.M Kd.string _ _ _ (⟨#[91, 49, 44, 50, 41, 44, 40, 51, 44, 52, 41]⟩ : ByteArray) [.string (⟨#[91, 49, 44, 50, 41, 44, 40, 51, 44, 52, 41]⟩ : ByteArray)] from rfl) (Reps.one (show Kd.M Kd.string _ _ _ (⟨#[91, 49, 44, 50, 41, 44, 91, 50, 44, 51, 41]⟩ : ByteArray) [.string (⟨#[91, 49, 44, 50, 41, 44, 91, 50, 44, 51, 41]⟩ : ByteArray)] from rfl) (Reps.one (show Kd.M Kd.string _ _ _ (⟨#[40, 44, 49, 41, 44, 40, 49, 44, 50, 41]⟩ : ByteArray) [.string (⟨#[40, 44, 49, 41, 44, 40, 49, 44, 50, 41]⟩ : ByteArray)] from rfl) (Reps.one (show Kd.M Kd.string _ _ _ (⟨#[91, 32, 49, 32, 93]⟩ : ByteArray) [.string (⟨#[91, 32, 49, 32, 93]⟩ : ByteArray)] from rfl) (Reps.one (show Kd.M Kd.string _ _ _ (⟨#[91, 49, 45, 50, 93]⟩ : ByteArray) [.string (⟨#[91, 49, 45, 50, 93]⟩ : ByteArray)] from rfl) (Reps.one (show Kd.M Kd.string _ _ _ (⟨#[91, 49, 44, 50, 46, 51, 93]⟩ : ByteArray) [.string (⟨#[91, 49, 44, 50, 46, 51, 93]⟩ : ByteArray)] from rfl) (Reps.none _ _))))))))))))))))))); intro v817 w18 ho19 hb hg_ hnew_; clear hg_ hnew_; (first | rw [← Ny816.out] at ho19 | (simp only [Int.reduceToNat] at ho19; rw [← Ny816.out] at ho19)); have n0_ := Aside0.mk (Kd.R_elder' (by (with_reducible repeat (first | apply Kd.R_alloc | apply Kd.R_drewN | apply Kd.R_drew)); exact HO815.out) (Kd.R_base ho19) hb); have n1_ := Aside0.mk (Kd.R_lower (Kd.R_new' ho19 (Kd.R_lt (by (with_reducible repeat (first | apply Kd.R_alloc | apply Kd.R_drewN | apply Kd.R_drew)); exact HO815.out))) (below_size (by repeat (first | (with_reducible first | exact HB.out | apply below_alloc | apply pw_below_drewN | apply below_drew1) | exact HB.out)))); have n2_ := Aside0.mk (below_step (by repeat (first | (with_reducible first | exact HB.out | apply below_alloc | apply pw_below_drewN | apply below_drew1) | exact HB.out)) hb); clear HO815; clear HB; have HO815 := n0_; have HO818 := n1_; have HB := n2_; clear n0_ n1_ n2_; clear hb ho19; obtain ⟨Ao20, co20, eo20⟩ := Kd.R_slice HO815.out; subst eo20; have p819 : 0 ≤ ((ji2) : Int) := of_decide_eq_true (by first | (with_reducible assumption) | assumption); have q819 : (ji2) < (y813.length : Int) := of_decide_eq_true (by first | (with_reducible assumption) | assumption); obtain ⟨ad819, e819, hx819_0⟩ := Kd.at_string (Kd.R_reads' HO815.out).2.2 (ji2) p819 q819; cases e819; replace p819 := eq_true p819; replace q819 := eq_true q819) | ((with_reducible refine gate_callee (f := 56) rfl ?_); refine goesL_ (some 23) rfl rfl Tryd.func56 (by kernel_rfl) rfl #[.string (rdOf ByteArray.empty y813 (ji2))] rfl (by (try simp only [List.map_toArray, List.map_cons, List.map_nil]); first | done | (simp only [hji2]; rfl) | rfl | (simp only [List.length_drop, List.length_take]; rfl)) ?_; (with_reducible refine (span_Parse.calls k (rdOf ByteArray.empty y813 (ji2)) t820 t821 _ ?side1 A5.out).mono ?_); (case side1 => exact Glob.step HG.out (by repeat (first | (with_reducible first | exact HB.out | apply below_alloc | apply pw_below_drewN | apply below_drew1) | exact HB.out))); rintro e w21 ⟨v822, rfl, ho0, hb⟩; refine ⟨_, rfl, ?_⟩; have n0_ := Aside0.mk (Kd.R_below (by (with_reducible repeat (first | apply Kd.R_alloc | apply Kd.R_drewN | apply Kd.R_drew)); exact HO815.out) hb); have n1_ := Aside0.mk (Kd.R_below (by (with_reducible repeat (first | apply Kd.R_alloc | apply Kd.R_drewN | apply Kd.R_drew)); exact HO818.out) hb); have n2_ := Aside0.mk (Kd.R_lower ho0 (below_size (by repeat (first | (with_reducible first | exact HB.out | apply below_alloc | apply pw_below_drewN | apply below_drew1) | exact HB.out)))); have n3_ := Aside0.mk (below_step (by repeat (first | (with_reducible first | exact HB.out | apply below_alloc | apply pw_below_drewN | apply below_drew1) | exact HB.out)) hb); clear HO815; clear HO818; clear HB; have HO815 := n0_; have HO818 := n1_; have HO823 := n2_; have HB := n3_; clear n0_ n1_ n2_ n3_; (try clear hb); (try clear hb2); (try clear hk); (try clear hi); (try clear ho0); obtain ⟨Ao22, co22, eo22⟩ := Kd.R_slice HO818.out; subst eo22; have p824 : 0 ≤ ((ji2) : Int) := of_decide_eq_true (by first | (with_reducible assumption) | assumption); have q824 : (ji2) < (y816.length : Int) := of_decide_eq_true (by first | (with_reducible assumption) | assumption); obtain ⟨ad824, e824, hx824_0⟩ := Kd.at_string (Kd.R_reads' HO818.out).2.2 (ji2) p824 q824; cases e824; replace p824 := eq_true p824; replace q824 := eq_true q824) | ((with_reducible refine gate_callee (f := 56) rfl ?_); refine goesL_ (some 31) rfl rfl Tryd.func56 (by kernel_rfl) rfl #[.string (rdOf ByteArray.empty y816 (ji2))] rfl (by (try simp only [List.map_toArray, List.map_cons, List.map_nil]); first | done | (simp only [hji2]; rfl) | rfl | (simp only [List.length_drop, List.length_take]; rfl)) ?_; (with_reducible refine (span_Parse.calls k (rdOf ByteArray.empty y816 (ji2)) t825 t826 _ ?side1 A7.out).mono ?_); (case side1 => exact Glob.step HG.out (by repeat (first | (with_reducible first | exact HB.out | apply below_alloc | apply pw_below_drewN | apply below_drew1) | exact HB.out))); rintro e w23 ⟨v827, rfl, ho0, hb⟩; refine ⟨_, rfl, ?_⟩; have n0_ := Aside0.mk (Kd.R_below (by (with_reducible repeat (first | apply Kd.R_alloc | apply Kd.R_drewN | apply Kd.R_drew)); exact HO815.out) hb); have n1_ := Aside0.mk (Kd.R_below (by (with_reducible repeat (first | apply Kd.R_alloc | apply Kd.R_drewN | apply Kd.R_drew)); exact HO818.out) hb); have n2_ := Aside0.mk (Kd.R_elder' (by (with_reducible repeat (first | apply Kd.R_alloc | apply Kd.R_drewN | apply Kd.R_drew)); exact HO823.out) (Kd.R_base ho0) hb); have n3_ := Aside0.mk (Kd.R_lower (Kd.R_new' ho0 (Kd.R_lt (by (with_reducible repeat (first | apply Kd.R_alloc | apply Kd.R_drewN | apply Kd.R_drew)); exact HO823.out))) (below_size (by repeat (first | (with_reducible first | exact HB.out | apply below_alloc | apply pw_below_drewN | apply below_drew1) | exact HB.out)))); have n4_ := Aside0.mk (below_step (by repeat (first | (with_reducible first | exact HB.out | apply below_alloc | apply pw_below_drewN | apply below_drew1) | exact HB.out)) hb); clear HO815; clear HO818; clear HO823; clear HB; have HO815 := n0_; have HO818 := n1_; have HO823 := n2_; have HO828 := n3_; have HB := n4_; clear n0_ n1_ n2_ n3_ n4_; (try clear hb); (try clear hb2); (try clear hk); (try clear hi); (try clear ho0); obtain ⟨Ao24, co24, eo24⟩ := Kd.R_slice HO828.out; subst eo24) | ((with_reducible refine gate_callee (f := 59) rfl ?_); refine goesL_ (some 36) rfl rfl Tryd.func59 (by kernel_rfl) rfl #[.slice Ao24 t825.length co24] rfl (by (try simp only [List.map_toArray, List.map_cons, List.map_nil]); first | done | rfl | (simp only [List.length_drop, List.length_take]; rfl)) ?_; (with_reducible refine (span_Text.calls k _ _ t825 t829 _ ?side1 ?side2 ?side3 A8.out).mono ?_); (case side1 => repeat (first | exact (Kd.R_reads' HO828.out).2.2 | (with_reducible refine Kd.C_alloc ?_ _) | (with_reducible refine Kd.C_drewN ?_ _) | (with_reducible refine Kd.C_drew ?_))); (case side2 => exact (Kd.R_reads' HO828.out).2.1); (case side3 => exact Glob.step HG.out (by repeat (first | (with_reducible first | exact HB.out | apply below_alloc | apply pw_below_drewN | apply below_drew1) | exact HB.out))); rintro e w25 ⟨rfl, hb⟩; refine ⟨_, rfl, ?_⟩; have n0_ := Aside0.mk (Kd.R_below (by (with_reducible repeat (first | apply Kd.R_alloc | apply Kd.R_drewN | apply Kd.R_drew)); exact HO815.out) hb); have n1_ := Aside0.mk (Kd.R_below (by (with_reducible repeat (first | apply Kd.R_alloc | apply Kd.R_drewN | apply Kd.R_drew)); exact HO818.out) hb); have n2_ := Aside0.mk (Kd.R_below (by (with_reducible repeat (first | apply Kd.R_alloc | apply Kd.R_drewN | apply Kd.R_drew)); exact HO823.out) hb); have n3_ := Aside0.mk (Kd.R_below (by (with_reducible repeat (first | apply Kd.R_alloc | apply Kd.R_drewN | apply Kd.R_drew)); exact HO828.out) hb); have n4_ := Aside0.mk (below_step (by repeat (first | (with_reducible first | exact HB.out | apply below_alloc | apply pw_below_drewN | apply below_drew1) | exact HB.out)) hb); clear HO815; clear HO818; clear HO823; clear HO828; clear HB; have HO815 := n0_; have HO818 := n1_; have HO823 := n2_; have HO828 := n3_; have HB := n4_; clear n0_ n1_ n2_ n3_ n4_; (try clear hb); (try clear hb2); (try clear hk); (try clear hi)) | ((with_reducible refine gate_callee (f := 56) rfl ?_); refine goesL_ (some 37) rfl rfl Tryd.func56 (by kernel_rfl) rfl #[.string t829] rfl (by (try simp only [List.map_toArray, List.map_cons, List.map_nil]); first | done | rfl | (simp only [List.length_drop, List.length_take]; rfl)) ?_; (with_reducible refine (span_Parse.calls k t829 t830 t831 _ ?side1 A9.out).mono ?_); (case side1 => exact Glob.step HG.out (by repeat (first | (with_reducible first | exact HB.out | apply below_alloc | apply pw_below_drewN | apply below_drew1) | exact HB.out))); rintro e w26 ⟨v832, rfl, ho0, hb⟩; refine ⟨_, rfl, ?_⟩; have n0_ := Aside0.mk (Kd.R_below (by (with_reducible repeat (first | apply Kd.R_alloc | apply Kd.R_drewN | apply Kd.R_drew)); exact HO815.out) hb); have n1_ := Aside0.mk (Kd.R_below (by (with_reducible repeat (first | apply Kd.R_alloc | apply Kd.R_drewN | apply Kd.R_drew)); exact HO818.out) hb); have n2_ := Aside0.mk (Kd.R_elder' (by (with_reducible repeat (first | apply Kd.R_alloc | apply Kd.R_drewN | apply Kd.R_drew)); exact HO823.out) (Kd.R_base ho0) hb); have n3_ := Aside0.mk (Kd.R_elder' (by (with_reducible repeat (first | apply Kd.R_alloc | apply Kd.R_drewN | apply Kd.R_drew)); exact HO828.out) (Kd.R_base ho0) hb); have n4_ := Aside0.mk (Kd.R_lower (Kd.R_new' (Kd.R_new' ho0 (Kd.R_lt (by (with_reducible repeat (first | apply Kd.R_alloc | apply Kd.R_drewN | apply Kd.R_drew)); exact HO823.out))) (Kd.R_lt (by (with_reducible repeat (first | apply Kd.R_alloc | apply Kd.R_drewN | apply Kd.R_drew)); exact HO828.out))) (below_size (by repeat (first | (with_reducible first | exact HB.out | apply below_alloc | apply pw_below_drewN | apply below_drew1) | exact HB.out)))); have n5_ := Aside0.mk (below_step (by repeat (first | (with_reducible first | exact HB.out | apply below_alloc | apply pw_below_drewN | apply below_drew1) | exact HB.out)) hb); clear HO815; clear HO818; clear HO823; clear HO828; clear HB; have HO815 := n0_; have HO818 := n1_; have HO823 := n2_; have HO828 := n3_; have HO833 := n4_; have HB := n5_; clear n0_ n1_ n2_ n3_ n4_ n5_; (try clear hb); (try clear hb2); (try clear hk); (try clear hi); (try clear ho0)) | ((with_reducible refine gate_callee (f := 57) rfl ?_); refine goesL_ (some 40) rfl rfl Tryd.func57 (by kernel_rfl) rfl #[] rfl (by (try simp only [List.map_toArray, List.map_cons, List.map_nil]); first | done | rfl | (simp only [List.length_drop, List.length_take]; rfl)) ?_; (with_reducible refine (newellaw07_awake.calls k  true _ ?side1 A10.out).mono ?_); (case side1 => exact Glob.step HG.out (by repeat (first | (with_reducible first | exact HB.out | apply below_alloc | apply pw_below_drewN | apply below_drew1) | exact HB.out))); rintro e w27 ⟨rfl, hb⟩; refine ⟨_, rfl, ?_⟩; have n0_ := Aside0.mk (Kd.R_below (by (with_reducible repeat (first | apply Kd.R_alloc | apply Kd.R_drewN | apply Kd.R_drew)); exact HO815.out) hb); have n1_ := Aside0.mk (Kd.R_below (by (with_reducible repeat (first | apply Kd.R_alloc | apply Kd.R_drewN | apply Kd.R_drew)); exact HO818.out) hb); have n2_ := Aside0.mk (Kd.R_below (by (with_reducible repeat (first | apply Kd.R_alloc | apply Kd.R_drewN | apply Kd.R_drew)); exact HO823.out) hb); have n3_ := Aside0.mk (Kd.R_below (by (with_reducible repeat (first | apply Kd.R_alloc | apply Kd.R_drewN | apply Kd.R_drew)); exact HO828.out) hb); have n4_ := Aside0.mk (Kd.R_below (by (with_reducible repeat (first | apply Kd.R_alloc | apply Kd.R_drewN | apply Kd.R_drew)); exact HO833.out) hb); have n5_ := Aside0.mk (below_step (by repeat (first | (with_reducible first | exact HB.out | apply below_alloc | apply pw_below_drewN | apply below_drew1) | exact HB.out)) hb); clear HO815; clear HO818; clear HO823; clear HO828; clear HO833; clear HB; have HO815 := n0_; have HO818 := n1_; have HO823 := n2_; have HO828 := n3_; have HO833 := n4_; have HB := n5_; clear n0_ n1_ n2_ n3_ n4_ n5_; (try clear hb); (try clear hb2); (try clear hk); (try clear hi); obtain ⟨Ao28, co28, eo28⟩ := Kd.R_slice HO833.out; subst eo28) | (go_at_call 60; (with_reducible refine (api_Span_60.calls k _ _ t825 _ _ t830 t835 _ ?side1 ?side2 ?side3 ?side4 ?side5 A15.out).mono ?_); (case side1 => repeat (first | exact (Kd.R_reads' HO828.out).2.2 | (with_reducible refine Kd.C_alloc ?_ _) | (with_reducible refine Kd.C_drewN ?_ _) | (with_reducible refine Kd.C_drew ?_))); (case side2 => exact (Kd.R_reads' HO828.out).2.1); (case side3 => repeat (first | exact (Kd.R_reads' HO833.out).2.2 | (with_reducible refine Kd.C_alloc ?_ _) | (with_reducible refine Kd.C_drewN ?_ _) | (with_reducible refine Kd.C_drew ?_))); (case side4 => exact (Kd.R_reads' HO833.out).2.1); (case side5 => exact Glob.step HG.out (by repeat (first | (with_reducible first | exact HB.out | apply below_alloc | apply pw_below_drewN | apply below_drew1) | exact HB.out))); rintro e w29 ⟨rfl, hb⟩; have n0_ := Aside0.mk (Kd.R_below (by (with_reducible repeat (first | apply Kd.R_alloc | apply Kd.R_drewN | apply Kd.R_drew)); exact HO815.out) hb); have n1_ := Aside0.mk (Kd.R_below (by (with_reducible repeat (first | apply Kd.R_alloc | apply Kd.R_drewN | apply Kd.R_drew)); exact HO818.out) hb); have n2_ := Aside0.mk (Kd.R_below (by (with_reducible repeat (first | apply Kd.R_alloc | apply Kd.R_drewN | apply Kd.R_drew)); exact HO823.out) hb); have n3_ := Aside0.mk (Kd.R_below (by (with_reducible repeat (first | apply Kd.R_alloc | apply Kd.R_drewN | apply Kd.R_drew)); exact HO828.out) hb); have n4_ := Aside0.mk (Kd.R_below (by (with_reducible repeat (first | apply Kd.R_alloc | apply Kd.R_drewN | apply Kd.R_drew)); exact HO833.out) hb); have n5_ := Aside0.mk (below_step (by repeat (first | (with_reducible first | exact HB.out | apply below_alloc | apply pw_below_drewN | apply below_drew1) | exact HB.out)) hb); clear HO815; clear HO818; clear HO823; clear HO828; clear HO833; clear HB; have HO815 := n0_; have HO818 := n1_; have HO823 := n2_; have HO828 := n3_; have HO833 := n4_; have HB := n5_; clear n0_ n1_ n2_ n3_ n4_ n5_; (try clear hb); (try clear hb2); (try clear hk); (try clear hi)))
                go_ret
                exact ⟨by first | rfl | (simp [errW_none, errW_some] <;> rfl) | (simp only [← hji2]; first | rfl | (simp [errW_none, errW_some] <;> rfl)) | (simp [*, errW_none, errW_some] <;> rfl), by repeat (first | (with_reducible first | exact HB.out | apply below_alloc | apply pw_below_drewN | apply below_drew1) | exact HB.out)⟩
              · rw [if_neg c14] at H
                have c14b0 : (t831 == 0) = false := beq_eq_false_iff_ne.mpr c14
                have c14b1 : (t831 != 0) = true := bne_iff_ne.mpr c14
                exfalso
                obtain rfl := Option.some.inj H
                exact absurd hr_ (by decide)
            · rw [if_neg c13] at H
              have c13b0 : (t826 == 0) = false := beq_eq_false_iff_ne.mpr c13
              have c13b1 : (t826 != 0) = true := bne_iff_ne.mpr c13
              exfalso
              obtain rfl := Option.some.inj H
              exact absurd hr_ (by decide)
          · rw [if_neg c12] at H
            have c12b0 : (t821 == 12) = false := beq_eq_false_iff_ne.mpr c12
            have c12b1 : (t821 != 12) = true := bne_iff_ne.mpr c12
            exfalso
            obtain rfl := Option.some.inj H
            exact absurd hr_ (by decide)
        · replace c11 := Bool.eq_false_iff.mpr c11
          subst c11
          have H1 : (some false) = some r := by rw [if_neg (show ¬ (false = true) by decide)] at H; exact H
          clear H
          have H := H1
          clear H1
          exfalso
          obtain rfl := Option.some.inj H
          exact absurd hr_ (by decide)
      · rw [if_neg c6] at H
        exact absurd H (by simp)
    · rw [if_neg c4] at H
      exact absurd H (by simp)
  · rw [if_neg c3] at H
    exact absurd H (by simp)

end Go.Proofs.YtgdjfcmmpjcaaaaDoor.Q

namespace Go.Proofs.YtgdjfcmmpjcaaaaDoor.Q
open Go.RowKit Go.Proofs.YtgdjfcmmpjcaaaaDoorW.PrintWords Go.Proofs.YtgdjfcmmpjcaaaaDoorW.PrintLast Go.Proofs.YtgdjfcmmpjcaaaaDoorW.Own Go.Proofs.YtgdjfcmmpjcaaaaDoorW.PrintMore
set_option linter.unusedVariables false
set_option linter.unusedSimpArgs false
namespace Rd
open Go Go.RowKit
def Opens {α : Type} (t : TypeId) (d : Kd α) (wf : α → Prop) (bulk : α → Nat) : Prop :=
  Tryd.prog.cellsOf t = d.sz ∧ ∀ (H : Type) (enc : TypeId × Value → H) (W : World) (fuel : Nat) (cs : List Value) (dd : DataW H) (ps : List MemPlace),
    DataW.trod enc Tryd.prog W 0 (fun _ => true) true fuel t cs = some (dd, ps) → ∃ x, d.K W x cs ∧ wf x ∧ bulk x ≤ Rows.uptoBulk dd
def OpensF {β : Type} (fs : List Field) (off : Nat) (d : Kd β) (wf : β → Prop) (bulk : β → Nat) : Prop :=
  ∀ (H : Type) (enc : TypeId × Value → H) (W : World) (n : Nat) (cs : List Value) (xs : List (DataW H × List MemPlace)), xs.length = fs.length →
    (∀ (i : Nat) (f : Field), fs[i]? = some f → DataW.trod enc Tryd.prog W 0 (fun _ => true) true n f.type ((cs.drop f.offset).take (Tryd.prog.cellsOf f.type)) = xs[i]?) → cs.length = off + d.sz →
    ∃ x, d.K W x (cs.drop off) ∧ wf x ∧ bulk x ≤ Rows.uptoBulkAll (xs.map (·.1))
theorem OpensF.cons {α β : Type} {f : Field} {fs : List Field} {off off' : Nat} {a : Kd α} {b : Kd β} {wf : α → Prop} {bulk : α → Nat} {wf' : β → Prop} {bulk' : β → Nat} (ho : f.offset = off) (ho' : off' = off + a.sz) (h : Opens f.type a wf bulk) (hr : OpensF fs off' b wf' bulk') :
    OpensF (f :: fs) off (Kd.pair a b) (fun x => wf x.1 ∧ wf' x.2) (fun x => bulk x.1 + bulk' x.2) := by
  intro H enc W n cs xs hl ht hc
  subst ho'
  obtain ⟨hsz, hop⟩ := h
  obtain ⟨x0, xs', rfl⟩ : ∃ x0 xs', xs = x0 :: xs' := by
    match xs, hl with
    | x0 :: xs', _ => exact ⟨x0, xs', rfl⟩
  have h0 := ht 0 f rfl
  rw [ho, hsz] at h0
  obtain ⟨x, hk, hw, hb⟩ := hop H enc W n _ _ _ h0
  have hc' : cs.length = off + a.sz + b.sz := by
    have e : (Kd.pair a b).sz = a.sz + b.sz := rfl
    rw [e] at hc
    omega
  obtain ⟨y, hk', hw', hb'⟩ := hr H enc W n cs xs' (by simpa using hl) (fun i g hg => by have := ht (i + 1) g (by simpa using hg); simpa using this) hc'
  refine ⟨(x, y), ⟨(cs.drop off).take a.sz, cs.drop (off + a.sz), ?_, hk, hk'⟩, ⟨hw, hw'⟩, ?_⟩
  · rw [← List.drop_drop, List.take_append_drop]
  · simp only [List.map_cons, Rows.uptoBulkAll]
    omega
theorem glob {W : World} (h : W.ShapedOpen Tryd.prog) : Glob W :=
  cell_of_shapedOpen_int (g := 0) (t := 3) (zero := #[.int .i64 0]) (k := .i64) h (of_decide_eq_true (by kernel_rfl)) (by kernel_rfl) rfl (by kernel_rfl) (by kernel_rfl) Tryd.underlying3
end Rd
end Go.Proofs.YtgdjfcmmpjcaaaaDoor.Q

-- Printed by this session's wip/np.py over the kit's print program. Not trusted: Lean checks it.
namespace Go.Proofs.YtgdjfcmmpjcaaaaDoor.Q
open Go.RowKit Go.Proofs.YtgdjfcmmpjcaaaaDoorW.PrintWords Go.Proofs.YtgdjfcmmpjcaaaaDoorW.PrintLast Go.Proofs.YtgdjfcmmpjcaaaaDoorW.Own Go.Proofs.YtgdjfcmmpjcaaaaDoorW.PrintMore
set_option linter.unusedVariables false
set_option linter.unusedSimpArgs false

/-- The pure statement of newellaw07_SpanRefuses. -/
def newellaw07_SpanRefuses.Pure : Prop := ∀ (a0 : Int), ((Lit.int .i64 a0).wf = true) → ∃ k, newellaw07_SpanRefuses.f k a0 = some true
end Go.Proofs.YtgdjfcmmpjcaaaaDoor.Q

/- The plain law of SpanRefuses, about the functions that the walks compute: seventeen inputs, each reckoned. -/
namespace Go.Proofs.YtgdjfcmmpjcaaaaDoor.Pure
open Go Go.RowKit Go.Proofs.YtgdjfcmmpjcaaaaDoor.Q Go.Proofs.YtgdjfcmmpjcaaaaDoorW.PrintWords
theorem refuses_all : (List.range 17).all (fun n => newellaw07_SpanRefuses.f 60 (n : Int) == some true && wrap64 (Int.tmod (IntKind.u64.wrap (n : Int)) 17) == (n : Int)) = true := by kernel_rfl
theorem SpanRefuses : newellaw07_SpanRefuses.Pure := by
  intro a0 _
  have h0 : 0 ≤ IntKind.u64.wrap a0 := by rw [IntKind.wrap_u64]; omega
  have h1 := Int.tmod_nonneg 17 h0
  have h2 := Int.tmod_lt_of_pos (IntKind.u64.wrap a0) (show (0 : Int) < 17 by decide)
  obtain ⟨n, hn⟩ := Int.eq_ofNat_of_zero_le h1
  have e : wrap64 (Int.tmod (IntKind.u64.wrap a0) 17) = (n : Int) := by rw [hn]; unfold wrap64; omega
  have all := List.all_eq_true.1 refuses_all n (by simp; omega)
  rw [Bool.and_eq_true, beq_iff_eq, beq_iff_eq] at all
  refine ⟨60, ?_⟩
  rw [← all.1]
  unfold newellaw07_SpanRefuses.f
  rw [e, all.2]
end Go.Proofs.YtgdjfcmmpjcaaaaDoor.Pure
