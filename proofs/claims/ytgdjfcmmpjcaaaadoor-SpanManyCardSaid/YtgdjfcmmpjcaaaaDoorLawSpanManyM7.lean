/- Texts put together: what functions of the program compute, and plain words about them. -/
import Derived.Test.YtgdjfcmmpjcaaaaDoorLawSpanManyM1
import Derived.Test.YtgdjfcmmpjcaaaaDoorLawSpanManyM6
import Derived.Test.YtgdjfcmmpjcaaaaDoorLawSpanManyM4
import Derived.Test.YtgdjfcmmpjcaaaaDoorLawSpanManyM2
import Derived.Test.YtgdjfcmmpjcaaaaDoorProg
import Derived.Test.YtgdjfcmmpjcaaaaDoorRows
import Derived.ChangeArms
import Derived.Deep.DeepHandedRow
import Derived.Shelf.Vars
import Derived.Below
import Derived.Deep.Draws
import Derived.Deep.AppendLies
import Derived.Maps.AppendAt
import Derived.OwnWalk
import Derived.Laws.BytesArg
import Derived.Laws.MakeOwn
import Derived.Laws.OwnMore
import Derived.Deep.OwnRows
import Derived.Tactics
import Derived.Lib.ConvBytes
import Derived.Laws.Slices
import Derived.WalkKit
import Derived.KernelRfl
import Derived.RowKit3
import Derived.Deep.LoopGhost
import Derived.Deep.QuietTactic
import Derived.BigQuiet
import Derived.WideLaws
import Derived.Deep.DeepCutAuto
import Derived.Deep.CutBlock
import Derived.Deep.RegionHeld3
import Derived.Laws.Rows
import Derived.Lib.AppendStr
import Derived.ArgAppend
import Derived.Laws.IdiomCopy
import Derived.OrdersHeld
import Derived.Laws.BitsLemmas
import Derived.RowKit
import Derived.Lib.IndexMore
import Derived.Lib.IndexAny
import Derived.Test.YtgdjfcmmpjcaaaaDoorLawSpanManyM3

-- Printed by this session's wip/np.py over the kit's print program. Not trusted: Lean checks it.
namespace Go.Proofs.YtgdjfcmmpjcaaaaDoor.Q
open Go.RowKit Go.Proofs.YtgdjfcmmpjcaaaaDoorW.PrintWords Go.Proofs.YtgdjfcmmpjcaaaaDoorW.PrintLast Go.Proofs.YtgdjfcmmpjcaaaaDoorW.Own Go.Proofs.YtgdjfcmmpjcaaaaDoorW.PrintMore
attribute [local go_sem] max2_int min2_int max_two min_two max_three min_three max_four min_four
set_option linter.unusedVariables false
set_option linter.unusedSimpArgs false

/-! ### span_Text: function 59 -/
def span_Text.l0 : Nat → List ByteArray → List (S58) → Int → Int → Option (ByteArray)
 | 0, _, _, _, _ => none
 | k + 1, x3, x7, x8, x9 => if x9 < x8 then (if 0 ≤ x9 then (if x9 < (x7.length : Int) then (if ((rd_T58 x7 x9).f0).size + 1 ≤ 9223372036854775807 then (if (((rd_T58 x7 x9).f0) ++ (⟨#[44]⟩ : ByteArray)).size + ((rd_T58 x7 x9).f1).size ≤ 9223372036854775807 then (if ((rd_T58 x7 x9).f0).toList = ((rd_T58 x7 x9).f1).toList then (if (rd_T58 x7 x9).f2 = true then (if (rd_T58 x7 x9).f3 = true then ((span_mark.f ((rd_T58 x7 x9).f2) (⟨#[91]⟩ : ByteArray) (⟨#[40]⟩ : ByteArray)).bind fun t843 => (if t843.size + ((rd_T58 x7 x9).f0).size ≤ 9223372036854775807 then ((span_mark.f ((rd_T58 x7 x9).f3) (⟨#[93]⟩ : ByteArray) (⟨#[41]⟩ : ByteArray)).bind fun t844 => (if (t843 ++ ((rd_T58 x7 x9).f0)).size + t844.size ≤ 9223372036854775807 then (if x3.length < 8796093022208 then (span_Text.l0 k (x3 ++ [(t843 ++ ((rd_T58 x7 x9).f0)) ++ t844]) x7 x8 (wrap64 (x9 + 1))) else (none)) else (none))) else (none))) else ((span_mark.f ((rd_T58 x7 x9).f2) (⟨#[91]⟩ : ByteArray) (⟨#[40]⟩ : ByteArray)).bind fun t848 => (if t848.size + ((((rd_T58 x7 x9).f0) ++ (⟨#[44]⟩ : ByteArray)) ++ ((rd_T58 x7 x9).f1)).size ≤ 9223372036854775807 then ((span_mark.f ((rd_T58 x7 x9).f3) (⟨#[93]⟩ : ByteArray) (⟨#[41]⟩ : ByteArray)).bind fun t849 => (if (t848 ++ ((((rd_T58 x7 x9).f0) ++ (⟨#[44]⟩ : ByteArray)) ++ ((rd_T58 x7 x9).f1))).size + t849.size ≤ 9223372036854775807 then (if x3.length < 8796093022208 then (span_Text.l0 k (x3 ++ [(t848 ++ ((((rd_T58 x7 x9).f0) ++ (⟨#[44]⟩ : ByteArray)) ++ ((rd_T58 x7 x9).f1))) ++ t849]) x7 x8 (wrap64 (x9 + 1))) else (none)) else (none))) else (none)))) else ((span_mark.f ((rd_T58 x7 x9).f2) (⟨#[91]⟩ : ByteArray) (⟨#[40]⟩ : ByteArray)).bind fun t853 => (if t853.size + ((((rd_T58 x7 x9).f0) ++ (⟨#[44]⟩ : ByteArray)) ++ ((rd_T58 x7 x9).f1)).size ≤ 9223372036854775807 then ((span_mark.f ((rd_T58 x7 x9).f3) (⟨#[93]⟩ : ByteArray) (⟨#[41]⟩ : ByteArray)).bind fun t854 => (if (t853 ++ ((((rd_T58 x7 x9).f0) ++ (⟨#[44]⟩ : ByteArray)) ++ ((rd_T58 x7 x9).f1))).size + t854.size ≤ 9223372036854775807 then (if x3.length < 8796093022208 then (span_Text.l0 k (x3 ++ [(t853 ++ ((((rd_T58 x7 x9).f0) ++ (⟨#[44]⟩ : ByteArray)) ++ ((rd_T58 x7 x9).f1))) ++ t854]) x7 x8 (wrap64 (x9 + 1))) else (none)) else (none))) else (none)))) else ((span_mark.f ((rd_T58 x7 x9).f2) (⟨#[91]⟩ : ByteArray) (⟨#[40]⟩ : ByteArray)).bind fun t858 => (if t858.size + ((((rd_T58 x7 x9).f0) ++ (⟨#[44]⟩ : ByteArray)) ++ ((rd_T58 x7 x9).f1)).size ≤ 9223372036854775807 then ((span_mark.f ((rd_T58 x7 x9).f3) (⟨#[93]⟩ : ByteArray) (⟨#[41]⟩ : ByteArray)).bind fun t859 => (if (t858 ++ ((((rd_T58 x7 x9).f0) ++ (⟨#[44]⟩ : ByteArray)) ++ ((rd_T58 x7 x9).f1))).size + t859.size ≤ 9223372036854775807 then (if x3.length < 8796093022208 then (span_Text.l0 k (x3 ++ [(t858 ++ ((((rd_T58 x7 x9).f0) ++ (⟨#[44]⟩ : ByteArray)) ++ ((rd_T58 x7 x9).f1))) ++ t859]) x7 x8 (wrap64 (x9 + 1))) else (none)) else (none))) else (none)))) else (none)) else (none)) else (none)) else (none)) else ((strings_Join.f x3 (⟨#[44]⟩ : ByteArray)).bind fun t863 => (some t863))
def span_Text.f (k : Nat) (l0 : List (S58)) : Option (ByteArray) := span_Text.l0 k ([] : List ByteArray) l0 (l0.length : Int) 0
theorem span_Text.mono_l : ∀ k, (∀ y0 y1 y2 y3, LeO (span_Text.l0 k y0 y1 y2 y3) (span_Text.l0 (k + 1) y0 y1 y2 y3))
 | 0 => fun _ _ _ _ r h => by simp [span_Text.l0] at h
 | k + 1 => by
  have ih0 := span_Text.mono_l k
  ·intro y0 y1 y2 y3
   unfold span_Text.l0
   repeat' first
   | (with_reducible exact ih0 _ _ _ _)
   | (with_reducible exact LeO.refl _)
   | (with_reducible exact LeO.none _)
   | (with_reducible refine LeO.ite ?_ ?_)
   | (with_reducible refine LeO.bind ?_ (fun _ => ?_))
   | exact ih0 _ _ _ _
   | exact LeO.none _
   | refine LeO.ite ?_ ?_
   | refine LeO.bind ?_ (fun _ => ?_)
theorem span_Text.mono : ∀ a0 k, LeO (span_Text.f k a0) (span_Text.f (k + 1) a0) := by
 intro a0 k
 have ih0 := span_Text.mono_l k
 unfold span_Text.f
 repeat' first
  | (with_reducible exact ih0 _ _ _ _)
  | (with_reducible exact LeO.refl _)
  | (with_reducible exact LeO.none _)
  | (with_reducible refine LeO.ite ?_ ?_)
  | (with_reducible refine LeO.bind ?_ (fun _ => ?_))
  | exact ih0 _ _ _ _
  | exact LeO.none _
  | refine LeO.ite ?_ ?_
  | refine LeO.bind ?_ (fun _ => ?_)
def span_Text.T8 : Bool × List (List Nat × List Nat) := (true, [([], []), ([], []), ([1], [1]), ([2], [2]), ([], []), ([3, 4], [3, 4]), ([], []), ([6], [6]), ([7, 3], [7]), ([5, 8], [5, 8]), ([9], [9]), ([0, 10, 8], [0, 10]), ([11, 11, 0, 1, 2, 3, 4, 5, 6, 7, 8, 9, 10, 11], [0, 11])])
def span_Text.B8 : List Nat := [0, 0, 2, 6, 0, 30, 0, 64, 206, 510, 1022, 2047, 4095]
theorem span_Text.tab8 : rtab .any (opsOf Tryd.f59 8) = span_Text.T8 := by kernel_rfl
theorem span_Text.bits8 : waitsOk span_Text.T8.2 span_Text.B8 = true := by kernel_rfl
set_option maxHeartbeats 8000000 in
set_option maxRecDepth 100000 in
theorem span_Text.calls (k : Nat) (A0 : Option Addr) (c0 : Nat) (l0 : List (S58)) (r : ByteArray) (w : World) (hr0 : Kd.C k58 w A0 l0.length l0) (hc0 : l0.length ≤ c0) (hG : Glob w) (h : span_Text.f k l0 = some r) :
 Calls Tryd.prog 59 #[.slice A0 l0.length c0] w fun e w' => e = .returned (.string r) ∧ Below w.heap.size w w' := by
 have hu58 := Tryd.underlying58
 have HG := Aside0.mk hG
 clear hG
 have HR0 := Aside0.mk hr0
 have HC0 := Aside0.mk hc0
 clear hr0 hc0
 have HB := Aside0.mk (Below.refl w.heap.size w)
 have H : (span_Text.l0 k ([] : List ByteArray) l0 (l0.length : Int) 0) = some r := h
 clear h
 have H' := Aside0.mk H
 clear H
 go_enter Tryd.func59, Tryd.ntmps59
 go_wp2
 go_loopg [3, 9] k (fun kq v3 v9 w' => ∃ (x3_1 : List ByteArray) (x9_1 : Int), v9 = .int .i64 x9_1 ∧ Aside0 (span_Text.l0 kq x3_1 l0 (l0.length : Int) x9_1 = some r) ∧ Aside0 (kq ≤ k) ∧ Aside0 (Kd.R Kd.string 9 w' w.heap.size (fun _ => True) v3 x3_1) ∧ Aside0 (Below w.heap.size w w'))
 case atStart => exact ⟨(([] : List ByteArray)), (0), (by first | rfl | (simp; done) | (simp [*]; done) | (simp; exact isEmpty_bne _)), H', ⟨Nat.le_refl _⟩, ⟨by first | exact Kd.R_nil _ _ _ _ _ | exact Kd.N_nil _ _ _ _ _ | exact Kd.V_nil _ _ _ _ _ | exact Kd.Q_nil _ _ _ _ _ | exact Kd.S_nil _ _ _ _ _⟩, ⟨by repeat (first | (with_reducible first | exact HB.out | apply below_alloc | apply pw_below_drewN | apply below_drew1) | exact HB.out)⟩⟩
 case round =>
  clear H'
  obtain ⟨x3_1, x9_1, rfl, HA, HK1, HO_3, HB⟩ := hrel
  cases gk with
  | zero => exact absurd HA.out (by simp [span_Text.l0])
  | succ k1 =>
   have H := HA.out
   clear HA
   simp only [span_Text.l0] at H
   (try simp only [toList_lit] at H)
   by_cases c2 : x9_1 < (l0.length : Int)
   ·rw [if_pos c2] at H
    have c2b0 : decide (x9_1 < (l0.length : Int)) = true := decide_eq_true c2
    clear c2
    by_cases c3 : 0 ≤ x9_1
    ·rw [if_pos c3] at H
     have c3b0 : decide (0 ≤ x9_1) = true := decide_eq_true c3
     clear c3
     by_cases c4 : x9_1 < (l0.length : Int)
     ·rw [if_pos c4] at H
      have c4b0 : decide (x9_1 < (l0.length : Int)) = true := decide_eq_true c4
      clear c4
      by_cases c5 : ((rd_T58 l0 x9_1).f0).size + 1 ≤ 9223372036854775807
      ·rw [if_pos c5] at H
       have c5b0 := eq_true c5
       have c5b1 : decide (((rd_T58 l0 x9_1).f0).size + 1 ≤ 9223372036854775807) = true := decide_eq_true c5
       try have c5b2 : (9223372036854775807 < ((rd_T58 l0 x9_1).f0).size + 1) = False := eq_false (Nat.not_lt.2 c5)
       by_cases c6 : (((rd_T58 l0 x9_1).f0) ++ (⟨#[44]⟩ : ByteArray)).size + ((rd_T58 l0 x9_1).f1).size ≤ 9223372036854775807
       ·rw [if_pos c6] at H
        have c6b0 := eq_true c6
        have c6b1 : decide ((((rd_T58 l0 x9_1).f0) ++ (⟨#[44]⟩ : ByteArray)).size + ((rd_T58 l0 x9_1).f1).size ≤ 9223372036854775807) = true := decide_eq_true c6
        try have c6b2 : (9223372036854775807 < (((rd_T58 l0 x9_1).f0) ++ (⟨#[44]⟩ : ByteArray)).size + ((rd_T58 l0 x9_1).f1).size) = False := eq_false (Nat.not_lt.2 c6)
        have c6n : (((rd_T58 l0 x9_1).f0).size + 1) + ((rd_T58 l0 x9_1).f1).size ≤ 9223372036854775807 := by have z_ := c6; simp only [ByteArray.size_append] at z_; exact z_
        have c6m : (9223372036854775807 < (((rd_T58 l0 x9_1).f0).size + 1) + ((rd_T58 l0 x9_1).f1).size) = False := eq_false (Nat.not_lt.2 c6n)
        clear c6 c6b0 c6b1
        try clear c6b2
        by_cases c7 : ((rd_T58 l0 x9_1).f0).toList = ((rd_T58 l0 x9_1).f1).toList
        ·rw [if_pos c7] at H
         have c7b0 : (((rd_T58 l0 x9_1).f0).toList == ((rd_T58 l0 x9_1).f1).toList) = true := beq_iff_eq.mpr c7
         have c7b1 : (((rd_T58 l0 x9_1).f0).toList != ((rd_T58 l0 x9_1).f1).toList) = false := bne_eq_false_iff_eq.mpr c7
         clear c7
         obtain ⟨bq8, hbq8⟩ : ∃ b_ : Bool, b_ = ((rd_T58 l0 x9_1).f2) := ⟨_, rfl⟩
         replace H : (if bq8 = true then (if (rd_T58 l0 x9_1).f3 = true then ((span_mark.f (bq8) (⟨#[91]⟩ : ByteArray) (⟨#[40]⟩ : ByteArray)).bind fun t843 => (if t843.size + ((rd_T58 l0 x9_1).f0).size ≤ 9223372036854775807 then ((span_mark.f ((rd_T58 l0 x9_1).f3) (⟨#[93]⟩ : ByteArray) (⟨#[41]⟩ : ByteArray)).bind fun t844 => (if (t843 ++ ((rd_T58 l0 x9_1).f0)).size + t844.size ≤ 9223372036854775807 then (if x3_1.length < 8796093022208 then (span_Text.l0 k1 (x3_1 ++ [(t843 ++ ((rd_T58 l0 x9_1).f0)) ++ t844]) l0 (l0.length : Int) (wrap64 (x9_1 + 1))) else (none)) else (none))) else (none))) else ((span_mark.f (bq8) (⟨#[91]⟩ : ByteArray) (⟨#[40]⟩ : ByteArray)).bind fun t848 => (if t848.size + ((((rd_T58 l0 x9_1).f0) ++ (⟨#[44]⟩ : ByteArray)) ++ ((rd_T58 l0 x9_1).f1)).size ≤ 9223372036854775807 then ((span_mark.f ((rd_T58 l0 x9_1).f3) (⟨#[93]⟩ : ByteArray) (⟨#[41]⟩ : ByteArray)).bind fun t849 => (if (t848 ++ ((((rd_T58 l0 x9_1).f0) ++ (⟨#[44]⟩ : ByteArray)) ++ ((rd_T58 l0 x9_1).f1))).size + t849.size ≤ 9223372036854775807 then (if x3_1.length < 8796093022208 then (span_Text.l0 k1 (x3_1 ++ [(t848 ++ ((((rd_T58 l0 x9_1).f0) ++ (⟨#[44]⟩ : ByteArray)) ++ ((rd_T58 l0 x9_1).f1))) ++ t849]) l0 (l0.length : Int) (wrap64 (x9_1 + 1))) else (none)) else (none))) else (none)))) else ((span_mark.f (bq8) (⟨#[91]⟩ : ByteArray) (⟨#[40]⟩ : ByteArray)).bind fun t853 => (if t853.size + ((((rd_T58 l0 x9_1).f0) ++ (⟨#[44]⟩ : ByteArray)) ++ ((rd_T58 l0 x9_1).f1)).size ≤ 9223372036854775807 then ((span_mark.f ((rd_T58 l0 x9_1).f3) (⟨#[93]⟩ : ByteArray) (⟨#[41]⟩ : ByteArray)).bind fun t854 => (if (t853 ++ ((((rd_T58 l0 x9_1).f0) ++ (⟨#[44]⟩ : ByteArray)) ++ ((rd_T58 l0 x9_1).f1))).size + t854.size ≤ 9223372036854775807 then (if x3_1.length < 8796093022208 then (span_Text.l0 k1 (x3_1 ++ [(t853 ++ ((((rd_T58 l0 x9_1).f0) ++ (⟨#[44]⟩ : ByteArray)) ++ ((rd_T58 l0 x9_1).f1))) ++ t854]) l0 (l0.length : Int) (wrap64 (x9_1 + 1))) else (none)) else (none))) else (none)))) = some r := by rw [← hbq8] at H; exact H
         have Nbq8 := Aside0.mk hbq8
         clear hbq8
         by_cases c9 : bq8 = true
         ·subst c9
          have H1 : (if (rd_T58 l0 x9_1).f3 = true then ((span_mark.f (true) (⟨#[91]⟩ : ByteArray) (⟨#[40]⟩ : ByteArray)).bind fun t843 => (if t843.size + ((rd_T58 l0 x9_1).f0).size ≤ 9223372036854775807 then ((span_mark.f ((rd_T58 l0 x9_1).f3) (⟨#[93]⟩ : ByteArray) (⟨#[41]⟩ : ByteArray)).bind fun t844 => (if (t843 ++ ((rd_T58 l0 x9_1).f0)).size + t844.size ≤ 9223372036854775807 then (if x3_1.length < 8796093022208 then (span_Text.l0 k1 (x3_1 ++ [(t843 ++ ((rd_T58 l0 x9_1).f0)) ++ t844]) l0 (l0.length : Int) (wrap64 (x9_1 + 1))) else (none)) else (none))) else (none))) else ((span_mark.f (true) (⟨#[91]⟩ : ByteArray) (⟨#[40]⟩ : ByteArray)).bind fun t848 => (if t848.size + ((((rd_T58 l0 x9_1).f0) ++ (⟨#[44]⟩ : ByteArray)) ++ ((rd_T58 l0 x9_1).f1)).size ≤ 9223372036854775807 then ((span_mark.f ((rd_T58 l0 x9_1).f3) (⟨#[93]⟩ : ByteArray) (⟨#[41]⟩ : ByteArray)).bind fun t849 => (if (t848 ++ ((((rd_T58 l0 x9_1).f0) ++ (⟨#[44]⟩ : ByteArray)) ++ ((rd_T58 l0 x9_1).f1))).size + t849.size ≤ 9223372036854775807 then (if x3_1.length < 8796093022208 then (span_Text.l0 k1 (x3_1 ++ [(t848 ++ ((((rd_T58 l0 x9_1).f0) ++ (⟨#[44]⟩ : ByteArray)) ++ ((rd_T58 l0 x9_1).f1))) ++ t849]) l0 (l0.length : Int) (wrap64 (x9_1 + 1))) else (none)) else (none))) else (none)))) = some r := by rw [if_pos rfl] at H; exact H
          clear H
          have H := H1
          clear H1
          obtain ⟨bq10, hbq10⟩ : ∃ b_ : Bool, b_ = ((rd_T58 l0 x9_1).f3) := ⟨_, rfl⟩
          replace H : (if bq10 = true then ((span_mark.f (true) (⟨#[91]⟩ : ByteArray) (⟨#[40]⟩ : ByteArray)).bind fun t843 => (if t843.size + ((rd_T58 l0 x9_1).f0).size ≤ 9223372036854775807 then ((span_mark.f (bq10) (⟨#[93]⟩ : ByteArray) (⟨#[41]⟩ : ByteArray)).bind fun t844 => (if (t843 ++ ((rd_T58 l0 x9_1).f0)).size + t844.size ≤ 9223372036854775807 then (if x3_1.length < 8796093022208 then (span_Text.l0 k1 (x3_1 ++ [(t843 ++ ((rd_T58 l0 x9_1).f0)) ++ t844]) l0 (l0.length : Int) (wrap64 (x9_1 + 1))) else (none)) else (none))) else (none))) else ((span_mark.f (true) (⟨#[91]⟩ : ByteArray) (⟨#[40]⟩ : ByteArray)).bind fun t848 => (if t848.size + ((((rd_T58 l0 x9_1).f0) ++ (⟨#[44]⟩ : ByteArray)) ++ ((rd_T58 l0 x9_1).f1)).size ≤ 9223372036854775807 then ((span_mark.f (bq10) (⟨#[93]⟩ : ByteArray) (⟨#[41]⟩ : ByteArray)).bind fun t849 => (if (t848 ++ ((((rd_T58 l0 x9_1).f0) ++ (⟨#[44]⟩ : ByteArray)) ++ ((rd_T58 l0 x9_1).f1))).size + t849.size ≤ 9223372036854775807 then (if x3_1.length < 8796093022208 then (span_Text.l0 k1 (x3_1 ++ [(t848 ++ ((((rd_T58 l0 x9_1).f0) ++ (⟨#[44]⟩ : ByteArray)) ++ ((rd_T58 l0 x9_1).f1))) ++ t849]) l0 (l0.length : Int) (wrap64 (x9_1 + 1))) else (none)) else (none))) else (none)))) = some r := by rw [← hbq10] at H; exact H
          have Nbq10 := Aside0.mk hbq10
          clear hbq10
          by_cases c11 : bq10 = true
          ·subst c11
           have H1 : ((span_mark.f (true) (⟨#[91]⟩ : ByteArray) (⟨#[40]⟩ : ByteArray)).bind fun t843 => (if t843.size + ((rd_T58 l0 x9_1).f0).size ≤ 9223372036854775807 then ((span_mark.f (true) (⟨#[93]⟩ : ByteArray) (⟨#[41]⟩ : ByteArray)).bind fun t844 => (if (t843 ++ ((rd_T58 l0 x9_1).f0)).size + t844.size ≤ 9223372036854775807 then (if x3_1.length < 8796093022208 then (span_Text.l0 k1 (x3_1 ++ [(t843 ++ ((rd_T58 l0 x9_1).f0)) ++ t844]) l0 (l0.length : Int) (wrap64 (x9_1 + 1))) else (none)) else (none))) else (none))) = some r := by rw [if_pos rfl] at H; exact H
           clear H
           have H := H1
           clear H1
           replace H := Option.bind_eq_some_iff.mp H
           obtain ⟨t843, A120, H⟩ := H
           replace H : (if t843.size + ((rd_T58 l0 x9_1).f0).size ≤ 9223372036854775807 then ((span_mark.f (true) (⟨#[93]⟩ : ByteArray) (⟨#[41]⟩ : ByteArray)).bind fun t844 => (if (t843 ++ ((rd_T58 l0 x9_1).f0)).size + t844.size ≤ 9223372036854775807 then (if x3_1.length < 8796093022208 then (span_Text.l0 k1 (x3_1 ++ [(t843 ++ ((rd_T58 l0 x9_1).f0)) ++ t844]) l0 (l0.length : Int) (wrap64 (x9_1 + 1))) else (none)) else (none))) else (none)) = some r := H
           have A12 := Aside0.mk A120
           clear A120
           by_cases c13 : t843.size + ((rd_T58 l0 x9_1).f0).size ≤ 9223372036854775807
           ·rw [if_pos c13] at H
            have c13b0 := eq_true c13
            have c13b1 : decide (t843.size + ((rd_T58 l0 x9_1).f0).size ≤ 9223372036854775807) = true := decide_eq_true c13
            try have c13b2 : (9223372036854775807 < t843.size + ((rd_T58 l0 x9_1).f0).size) = False := eq_false (Nat.not_lt.2 c13)
            replace H := Option.bind_eq_some_iff.mp H
            obtain ⟨t844, A140, H⟩ := H
            replace H : (if (t843 ++ ((rd_T58 l0 x9_1).f0)).size + t844.size ≤ 9223372036854775807 then (if x3_1.length < 8796093022208 then (span_Text.l0 k1 (x3_1 ++ [(t843 ++ ((rd_T58 l0 x9_1).f0)) ++ t844]) l0 (l0.length : Int) (wrap64 (x9_1 + 1))) else (none)) else (none)) = some r := H
            have A14 := Aside0.mk A140
            clear A140
            by_cases c15 : (t843 ++ ((rd_T58 l0 x9_1).f0)).size + t844.size ≤ 9223372036854775807
            ·rw [if_pos c15] at H
             have c15b0 := eq_true c15
             have c15b1 : decide ((t843 ++ ((rd_T58 l0 x9_1).f0)).size + t844.size ≤ 9223372036854775807) = true := decide_eq_true c15
             try have c15b2 : (9223372036854775807 < (t843 ++ ((rd_T58 l0 x9_1).f0)).size + t844.size) = False := eq_false (Nat.not_lt.2 c15)
             have c15n : (t843.size + ((rd_T58 l0 x9_1).f0).size) + t844.size ≤ 9223372036854775807 := by have z_ := c15; simp only [ByteArray.size_append] at z_; exact z_
             have c15m : (9223372036854775807 < (t843.size + ((rd_T58 l0 x9_1).f0).size) + t844.size) = False := eq_false (Nat.not_lt.2 c15n)
             clear c15 c15b0 c15b1
             try clear c15b2
             by_cases c16 : x3_1.length < 8796093022208
             ·rw [if_pos c16] at H
              have LMc16 := Aside0.mk c16
              clear c16
              obtain ⟨y845, hy845⟩ : ∃ y_ : List ByteArray, y_ = (x3_1 ++ [(t843 ++ ((rd_T58 l0 x9_1).f0)) ++ t844]) := ⟨_, rfl⟩
              replace H : (span_Text.l0 k1 y845 l0 (l0.length : Int) (wrap64 (x9_1 + 1))) = some r := by first | (rw [hy845]; with_reducible exact H) | (have H2_ := (Option.bind_some _ _).symm.trans H; rw [hy845]; with_reducible exact H2_) | (have H2_ := (Option.bind_some _ _).symm.trans H; with_reducible exact H2_) | with_reducible exact H | (rw [hy845]; exact H) | exact H
              have Ny845 := Aside0.mk hy845
              clear hy845
              have H' := Aside0.mk H
              clear H
              have p841 : 0 ≤ (x9_1 : Int) := of_decide_eq_true (by first | (with_reducible assumption) | assumption)
              have q841 : x9_1 < (l0.length : Int) := of_decide_eq_true (by first | (with_reducible assumption) | assumption)
              obtain ⟨ad841, e841, hx841_0, hx841_1, hx841_2, hx841_3⟩ := at_T58 HR0.out x9_1 p841 q841
              (try rw [← Nbq8.out] at hx841_2)
              (try rw [← Nbq10.out] at hx841_2)
              (try rw [← Nbq8.out] at hx841_3)
              (try rw [← Nbq10.out] at hx841_3)
              cases e841
              replace hx841_0 := (HB.out.cell (World.block_lt_of_cell? w _ hx841_0)).trans hx841_0
              replace hx841_1 := (HB.out.cell (World.block_lt_of_cell? w _ hx841_1)).trans hx841_1
              replace hx841_2 := (HB.out.cell (World.block_lt_of_cell? w _ hx841_2)).trans hx841_2
              replace hx841_3 := (HB.out.cell (World.block_lt_of_cell? w _ hx841_3)).trans hx841_3
              replace p841 := eq_true p841
              replace q841 := eq_true q841
              try go_wp2_with (first | ((with_reducible refine gate_dst (N := 5) rfl ?_); refine box_event ?hg (N := 5) ?hd (cs := #[.string (⟨#[]⟩ : ByteArray), .string (⟨#[]⟩ : ByteArray), .bool false, .bool false]) (t := 58) ?hr ?_; (case hd => rfl); (case hg => rfl); (case hr => first | (go_simp; done) | (go_simp; rfl)); intro gb842 hg w17 hbox hb; have n0_ := Aside0.mk (Kd.R_below (by (with_reducible repeat (first | apply Kd.R_alloc | apply Kd.R_drewN | apply Kd.R_drew)); exact HO_3.out) hb); have n1_ := Aside0.mk (below_step (by repeat (first | (with_reducible first | exact HB.out | apply below_alloc | apply pw_below_drewN | apply below_drew1) | exact HB.out)) hb); have n2_ := Aside0.mk (hbox); have n3_ := Aside0.mk ((by rw [hg]; exact (below_size (by repeat (first | (with_reducible first | exact HB.out | apply below_alloc | apply pw_below_drewN | apply below_drew1) | exact HB.out))) : w.heap.size ≤ gb842)); have n4_ := Aside0.mk ((by rw [hg]; exact (below_size (by repeat (first | (with_reducible first | exact HB.out | apply below_alloc | apply pw_below_drewN | apply below_drew1) | exact HB.out))) : w.heap.size ≤ gb842)); clear HO_3; clear HB; have HO_3 := n0_; have HB := n1_; have BK842 := n2_; have GW842 := n3_; have GE842 := n4_; clear n0_ n1_ n2_ n3_ n4_; clear hb hbox hg; have hcz18_0 : w17.cell? ⟨gb842, 0, none⟩ = some (.string (⟨#[]⟩ : ByteArray)) := (blk_cell BK842.out 0).trans rfl; have hcz18_1 : w17.cell? ⟨gb842, 1, none⟩ = some (.string (⟨#[]⟩ : ByteArray)) := (blk_cell BK842.out 1).trans rfl; have hcz18_2 : w17.cell? ⟨gb842, 2, none⟩ = some (.bool false) := (blk_cell BK842.out 2).trans rfl; have hcz18_3 : w17.cell? ⟨gb842, 3, none⟩ = some (.bool false) := (blk_cell BK842.out 3).trans rfl; have hfz18_0 := blk_frozen BK842.out 0; have hfz18_1 := blk_frozen BK842.out 1; have hfz18_2 := blk_frozen BK842.out 2; have hfz18_3 := blk_frozen BK842.out 3))
              have n0_ : Aside0 (Kd.R Kd.string 9 ((((w17.setCell ⟨gb842, 0, none⟩ (.string ((rd_T58 l0 x9_1).f0))).setCell ⟨gb842, 1, none⟩ (.string ((rd_T58 l0 x9_1).f1))).setCell ⟨gb842, 2, none⟩ (.bool true)).setCell ⟨gb842, 3, none⟩ (.bool true)) w.heap.size (fun _ => True) u3 x3_1) := ⟨by (with_reducible repeat (first | apply Kd.R_alloc | apply Kd.R_drewN | apply Kd.R_drew)); exact Kd.R_mono (Kd.R_far (p := ⟨gb842, 3, none⟩) (Kd.R_far (p := ⟨gb842, 2, none⟩) (Kd.R_far (p := ⟨gb842, 1, none⟩) (Kd.R_far (p := ⟨gb842, 0, none⟩) (Kd.R_types HO_3.out BK842.out (by decide)) (fun _ hk => hk.2) (.string ((rd_T58 l0 x9_1).f0))) (fun _ hk => hk.2) (.string ((rd_T58 l0 x9_1).f1))) (fun _ hk => hk.2) (.bool true)) (fun _ hk => hk.2) (.bool true)) (fun _ hk => trivial)⟩
              have n1_ : Aside0 (((((w17.setCell ⟨gb842, 0, none⟩ (.string ((rd_T58 l0 x9_1).f0))).setCell ⟨gb842, 1, none⟩ (.string ((rd_T58 l0 x9_1).f1))).setCell ⟨gb842, 2, none⟩ (.bool true)).setCell ⟨gb842, 3, none⟩ (.bool true)).heap[gb842]? = some (.cells #[.string ((rd_T58 l0 x9_1).f0), .string ((rd_T58 l0 x9_1).f1), .bool true, .bool true] 58 (0, 0))) := ⟨by (with_reducible repeat (first | refine blk_drewN ?_ _ | refine blk_drew ?_ | refine blk_alloc ?_ _)); refine blk_put (cs := #[.string ((rd_T58 l0 x9_1).f0), .string ((rd_T58 l0 x9_1).f1), .bool true, .bool false]) ?_ 3 _ rfl; (with_reducible repeat (first | refine blk_drewN ?_ _ | refine blk_drew ?_ | refine blk_alloc ?_ _)); refine blk_put (cs := #[.string ((rd_T58 l0 x9_1).f0), .string ((rd_T58 l0 x9_1).f1), .bool false, .bool false]) ?_ 2 _ rfl; (with_reducible repeat (first | refine blk_drewN ?_ _ | refine blk_drew ?_ | refine blk_alloc ?_ _)); refine blk_put (cs := #[.string ((rd_T58 l0 x9_1).f0), .string (⟨#[]⟩ : ByteArray), .bool false, .bool false]) ?_ 1 _ rfl; (with_reducible repeat (first | refine blk_drewN ?_ _ | refine blk_drew ?_ | refine blk_alloc ?_ _)); refine blk_put (cs := #[.string (⟨#[]⟩ : ByteArray), .string (⟨#[]⟩ : ByteArray), .bool false, .bool false]) ?_ 0 _ rfl; (with_reducible repeat (first | refine blk_drewN ?_ _ | refine blk_drew ?_ | refine blk_alloc ?_ _)); exact BK842.out⟩
              have n2_ : Aside0 (Below w.heap.size w ((((w17.setCell ⟨gb842, 0, none⟩ (.string ((rd_T58 l0 x9_1).f0))).setCell ⟨gb842, 1, none⟩ (.string ((rd_T58 l0 x9_1).f1))).setCell ⟨gb842, 2, none⟩ (.bool true)).setCell ⟨gb842, 3, none⟩ (.bool true))) := ⟨by repeat (first | (with_reducible first | exact HB.out | apply below_alloc | apply pw_below_drewN | apply below_drew1 | refine below_set ?_ GE842.out) | exact HB.out)⟩
              (try clear HO_3)
              (try clear BK842)
              (try clear HB)
              generalize ((((w17.setCell ⟨gb842, 0, none⟩ (.string ((rd_T58 l0 x9_1).f0))).setCell ⟨gb842, 1, none⟩ (.string ((rd_T58 l0 x9_1).f1))).setCell ⟨gb842, 2, none⟩ (.bool true)).setCell ⟨gb842, 3, none⟩ (.bool true)) = w19 at n0_ n1_ n2_ ⊢
              have HO_3 := n0_
              have BK842 := n1_
              have HB := n2_
              clear n0_ n1_ n2_
              have n0_ := Aside0.mk (Kd.R_drew HO_3.out)
              have n1_ := Aside0.mk (blk_drew BK842.out)
              have n2_ := Aside0.mk (below_drew1 HB.out)
              clear HO_3
              clear BK842
              clear HB
              have HO_3 := n0_
              have BK842 := n1_
              have HB := n2_
              clear n0_ n1_ n2_
              refine start_ (n := 13) (S := fun w' => w'.cell? ⟨gb842, 0, none⟩ = some (.string ((rd_T58 l0 x9_1).f0)) ∧ w'.cell? ⟨gb842, 1, none⟩ = some (.string ((rd_T58 l0 x9_1).f1)) ∧ w'.cell? ⟨gb842, 2, none⟩ = some (.bool true) ∧ w'.cell? ⟨gb842, 3, none⟩ = some (.bool true)) (ds := []) #[false, false, false, false, false, false, false, false, false, false, false, false, false] (by kernel_rfl) rfl rfl ⟨(blk_cell BK842.out 0).trans rfl, (blk_cell BK842.out 1).trans rfl, (blk_cell BK842.out 2).trans rfl, (blk_cell BK842.out 3).trans rfl⟩ (fun hHeld => ?_); refine with_tabW span_Text.tab8 span_Text.bits8 (fun HT_ HW_ => ?_)
              generalize w19.drew = w20 at HO_3 BK842 HB hHeld ⊢
              refine pure_ (i := 0) (N := some 34) (v := ?_) (a' := ?_) #[true, false, false, false, false, false, false, false, false, false, false, false, false] rfl rfl (any_of HT_.out (by kernel_rfl)) (fun _ _ _ h => h) (Or.inl ⟨by rfl, ?_⟩) ?_ ?_
              rotate_left
              ·intro w'
               go_simp
               with_reducible rfl
              rotate_left
              ·simp only [Act.put, List.setIfInBounds_toArray, List.set_cons_zero, List.set_cons_succ, i64_w, i32_w]
               rfl
              refine pure_ (i := 1) (N := some 35) (v := ?_) (a' := ?_) #[true, true, false, false, false, false, false, false, false, false, false, false, false] rfl rfl (any_of HT_.out (by kernel_rfl)) (fun _ _ _ h => h) (Or.inl ⟨by rfl, ?_⟩) ?_ ?_
              rotate_left
              ·intro w'
               go_simp
               with_reducible rfl
              rotate_left
              ·simp only [Act.put, List.setIfInBounds_toArray, List.set_cons_zero, List.set_cons_succ, i64_w, i32_w]
               rfl
              refine pure_ (i := 4) (N := some 38) (v := ?_) (a' := ?_) #[true, true, false, false, true, false, false, false, false, false, false, false, false] rfl rfl (any_of HT_.out (by kernel_rfl)) (fun _ _ _ h => h) (Or.inl ⟨by rfl, ?_⟩) ?_ ?_
              rotate_left
              ·intro w'
               go_simp
               with_reducible rfl
              rotate_left
              ·simp only [Act.put, List.setIfInBounds_toArray, List.set_cons_zero, List.set_cons_succ, i64_w, i32_w]
               rfl
              refine pure_ (i := 6) (N := some 40) (v := ?_) (a' := ?_) #[true, true, false, false, true, false, true, false, false, false, false, false, false] rfl rfl (any_of HT_.out (by kernel_rfl)) (fun _ _ _ h => h) (Or.inl ⟨by rfl, ?_⟩) ?_ ?_
              rotate_left
              ·intro w'
               go_simp
               with_reducible rfl
              rotate_left
              ·simp only [Act.put, List.setIfInBounds_toArray, List.set_cons_zero, List.set_cons_succ, i64_w, i32_w]
               rfl
              refine take_ (i := 2) (N := some 36) (v := ?_) (a' := ?_) #[true, true, true, false, true, false, true, false, false, false, false, false, false] rfl rfl (take_ofW HT_.out HW_.out (by kernel_rfl)) (fun _ _ _ h => h) (Or.inl ⟨by rfl, ?_⟩) hHeld ?_ ?_
              rotate_left
              ·rintro w' ⟨s0, s1, s2, s3⟩
               go_simp
               with_reducible rfl
              rotate_left
              ·simp only [Act.put, List.setIfInBounds_toArray, List.set_cons_zero, List.set_cons_succ, i64_w, i32_w]
               rfl
              refine take_ (i := 7) (N := some 41) (v := ?_) (a' := ?_) #[true, true, true, false, true, false, true, true, false, false, false, false, false] rfl rfl (take_ofW HT_.out HW_.out (by kernel_rfl)) (fun _ _ _ h => h) (Or.inl ⟨by rfl, ?_⟩) hHeld ?_ ?_
              rotate_left
              ·rintro w' ⟨s0, s1, s2, s3⟩
               go_simp
               with_reducible rfl
              rotate_left
              ·simp only [Act.put, List.setIfInBounds_toArray, List.set_cons_zero, List.set_cons_succ, i64_w, i32_w]
               rfl
              refine one_ (i := 3) (N := some 37) #[true, true, true, true, true, false, true, true, false, false, false, false, false] rfl rfl (one_of HT_.out (by kernel_rfl)) (by decide) (fun K hK => ?_)
              refine goes_ Tryd.func98 (by kernel_rfl) rfl #[.bool true, .string (⟨#[91]⟩ : ByteArray), .string (⟨#[40]⟩ : ByteArray)] (by rfl) rfl rfl (by (try simp only [List.map_toArray, List.map_cons, List.map_nil]); first | done | rfl | (simp only [List.length_drop, List.length_take]; rfl)) ?_
              with_reducible refine (span_mark.calls true (⟨#[91]⟩ : ByteArray) (⟨#[40]⟩ : ByteArray) t843 _ ?side1 A12.out).mono ?_
              (case side1 => exact Glob.step HG.out (by repeat (first | (with_reducible first | exact HB.out | apply below_alloc | apply pw_below_drewN | apply below_drew1 | refine below_set ?_ GE842.out) | exact HB.out)))
              rintro e w' ⟨rfl, ⟨nd, rfl⟩⟩
              refine ⟨_, rfl, ?_⟩
              refine hK.out _ _ ⟨(blk_cell BK842.out 0).trans rfl, (blk_cell BK842.out 1).trans rfl, (blk_cell BK842.out 2).trans rfl, (blk_cell BK842.out 3).trans rfl⟩ (fun hHeld => ?_)
              clear hK K
              refine norm_ (a' := ?_) ?_ ?_
              rotate_left
              ·show Act.put _ (some 37) _ = _
               simp only [Act.put, List.setIfInBounds_toArray, List.set_cons_zero, List.set_cons_succ, i64_w, i32_w]
               rfl
              refine pure_ (i := 5) (N := some 39) (v := ?_) (a' := ?_) #[true, true, true, true, true, true, true, true, false, false, false, false, false] rfl rfl (any_of HT_.out (by kernel_rfl)) (fun _ _ _ h => h) (Or.inl ⟨by rfl, ?_⟩) ?_ ?_
              rotate_left
              ·intro w'
               go_simp
               with_reducible rfl
              rotate_left
              ·simp only [Act.put, List.setIfInBounds_toArray, List.set_cons_zero, List.set_cons_succ, i64_w, i32_w]
               rfl
              refine one_ (i := 8) (N := some 42) #[true, true, true, true, true, true, true, true, true, false, false, false, false] rfl rfl (one_of HT_.out (by kernel_rfl)) (by decide) (fun K hK => ?_)
              refine goes_ Tryd.func98 (by kernel_rfl) rfl #[.bool true, .string (⟨#[93]⟩ : ByteArray), .string (⟨#[41]⟩ : ByteArray)] (by rfl) rfl rfl (by (try simp only [List.map_toArray, List.map_cons, List.map_nil]); first | done | rfl | (simp only [List.length_drop, List.length_take]; rfl)) ?_
              with_reducible refine (span_mark.calls true (⟨#[93]⟩ : ByteArray) (⟨#[41]⟩ : ByteArray) t844 _ ?side1 A14.out).mono ?_
              (case side1 => exact Glob.step HG.out (by repeat (first | (with_reducible first | exact HB.out | apply below_alloc | apply pw_below_drewN | apply below_drew1 | refine below_set ?_ GE842.out) | exact HB.out)))
              rintro e w' ⟨rfl, ⟨nd, rfl⟩⟩
              refine ⟨_, rfl, ?_⟩
              refine hK.out _ _ ⟨(blk_cell BK842.out 0).trans rfl, (blk_cell BK842.out 1).trans rfl, (blk_cell BK842.out 2).trans rfl, (blk_cell BK842.out 3).trans rfl⟩ (fun hHeld => ?_)
              clear hK K
              refine norm_ (a' := ?_) ?_ ?_
              rotate_left
              ·show Act.put _ (some 42) _ = _
               simp only [Act.put, List.setIfInBounds_toArray, List.set_cons_zero, List.set_cons_succ, i64_w, i32_w]
               rfl
              refine pure_ (i := 9) (N := some 43) (v := ?_) (a' := ?_) #[true, true, true, true, true, true, true, true, true, true, false, false, false] rfl rfl (any_of HT_.out (by kernel_rfl)) (fun _ _ _ h => h) (Or.inl ⟨by rfl, ?_⟩) ?_ ?_
              rotate_left
              ·intro w'
               go_simp
               with_reducible rfl
              rotate_left
              ·simp only [Act.put, List.setIfInBounds_toArray, List.set_cons_zero, List.set_cons_succ, i64_w, i32_w]
               rfl
              refine one_ (i := 10) (N := some 44) #[true, true, true, true, true, true, true, true, true, true, true, false, false] rfl rfl (one_of HT_.out (by kernel_rfl)) (by decide) (fun K hK => ?_)
              refine value_ (w1 := ?_) (v := ?_) (by rfl) rfl ?_ ?_
              rotate_left 2
              ·go_simp
               constructor
               ·rfl
               ·rfl
              refine hK.out _ _ ⟨(blk_cell (blk_alloc BK842.out _) 0).trans rfl, (blk_cell (blk_alloc BK842.out _) 1).trans rfl, (blk_cell (blk_alloc BK842.out _) 2).trans rfl, (blk_cell (blk_alloc BK842.out _) 3).trans rfl⟩ (fun hHeld => ?_)
              clear hK K
              refine norm_ (a' := ?_) ?_ ?_
              rotate_left
              ·show Act.put _ (some 44) _ = _
               simp only [Act.put, List.setIfInBounds_toArray, List.set_cons_zero, List.set_cons_succ, i64_w, i32_w]
               rfl
              refine one_ (i := 11) (N := some 45) #[true, true, true, true, true, true, true, true, true, true, true, true, false] rfl rfl (one_of HT_.out (by kernel_rfl)) (by decide) (fun K hK => ?_)
              refine Kd.R_append_step Kd.string (w0 := w) w.heap.size (by rfl) (.tmp 34) (.tmp 44) 43 9 (.string ⟨#[]⟩) 16 rfl Tryd.underlying43 info9 rfl (by decide) (by omega) u3 x3_1 ((t843 ++ ((rd_T58 l0 x9_1).f0)) ++ t844) [.string ((t843 ++ ((rd_T58 l0 x9_1).f0)) ++ t844)] (fun _ => True) (fun _ => False) rfl rfl ?aP (fun _ hk => hk.elim) ?aF ?aO ?aB ?aS ?aL ?_
              (case aP => exact rfl)
              (case aB => exact (by repeat (first | (with_reducible first | exact HB.out | apply below_alloc | apply pw_below_drewN | apply below_drew1 | refine below_set ?_ GE842.out) | exact HB.out)))
              (case aF => exact (fun _ _ => trivial))
              (case aO => exact (by (with_reducible repeat (first | apply Kd.R_alloc | apply Kd.R_drewN | apply Kd.R_drew)); exact HO_3.out))
              (case aS => exact (below_size (by repeat (first | (with_reducible first | exact HB.out | apply below_alloc | apply pw_below_drewN | apply below_drew1 | refine below_set ?_ GE842.out) | exact HB.out))))
              (case aL => have := LMc16.out; omega)
              intro v846 w21 ho hb hg hat
              rw [← Ny845.out] at ho
              have n0_ := Aside0.mk (blk_grown (g := gb842) (o := .cells #[.string ((rd_T58 l0 x9_1).f0), .string ((rd_T58 l0 x9_1).f1), .bool true, .bool true] 58 (0, 0)) (by (with_reducible repeat (first | refine blk_drewN ?_ _ | refine blk_drew ?_ | refine blk_alloc ?_ _)); exact BK842.out) hg (Kd.R_ne HO_3.out BK842.out (by decide)))
              have n1_ := Aside0.mk (hb)
              have n2_ := Aside0.mk (ho)
              clear BK842
              clear HB
              clear HO_3
              have BK842 := n0_
              have HB := n1_
              have HO847 := n2_
              clear n0_ n1_ n2_
              clear ho hb hg hat
              refine hK.out _ _ ⟨(blk_cell BK842.out 0).trans rfl, (blk_cell BK842.out 1).trans rfl, (blk_cell BK842.out 2).trans rfl, (blk_cell BK842.out 3).trans rfl⟩ (fun hHeld => ?_)
              clear hK K
              refine norm_ (a' := ?_) ?_ ?_
              rotate_left
              ·show Act.put _ (some 45) _ = _
               simp only [Act.put, List.setIfInBounds_toArray, List.set_cons_zero, List.set_cons_succ, i64_w, i32_w]
               rfl
              refine pure_ (i := 12) (N := some 3) (v := ?_) (a' := ?_) #[true, true, true, true, true, true, true, true, true, true, true, true, true] rfl rfl (any_of HT_.out (by kernel_rfl)) (fun _ _ _ h => h) (Or.inl ⟨by rfl, ?_⟩) ?_ ?_
              rotate_left
              ·intro w'
               go_simp
               with_reducible rfl
              rotate_left
              ·simp only [Act.put, List.setIfInBounds_toArray, List.set_cons_zero, List.set_cons_succ, i64_w, i32_w]
               rfl
              refine done_ (done_of HT_.out (by kernel_rfl)) ?_
              try go_wp2
              go_roundg k1
              case measure => have := HK1.out; omega
              case rel => exact ⟨(y845), (wrap64 (x9_1 + 1)), (by first | rfl | (simp; done) | (simp [*]; done) | (simp; exact isEmpty_bne _)), H', ⟨by have := HK1.out; omega⟩, ⟨by (with_reducible repeat (first | apply Kd.R_alloc | apply Kd.R_drewN | apply Kd.R_drew)); exact HO847.out⟩, ⟨by repeat (first | (with_reducible first | exact HB.out | apply below_alloc | apply pw_below_drewN | apply below_drew1 | refine below_set ?_ GE842.out) | exact HB.out)⟩⟩
             ·rw [if_neg c16] at H
              exact absurd H (by simp)
            ·rw [if_neg c15] at H
             exact absurd H (by simp)
           ·rw [if_neg c13] at H
            exact absurd H (by simp)
          ·replace c11 := Bool.eq_false_iff.mpr c11
           subst c11
           have H1 : ((span_mark.f (true) (⟨#[91]⟩ : ByteArray) (⟨#[40]⟩ : ByteArray)).bind fun t848 => (if t848.size + ((((rd_T58 l0 x9_1).f0) ++ (⟨#[44]⟩ : ByteArray)) ++ ((rd_T58 l0 x9_1).f1)).size ≤ 9223372036854775807 then ((span_mark.f (false) (⟨#[93]⟩ : ByteArray) (⟨#[41]⟩ : ByteArray)).bind fun t849 => (if (t848 ++ ((((rd_T58 l0 x9_1).f0) ++ (⟨#[44]⟩ : ByteArray)) ++ ((rd_T58 l0 x9_1).f1))).size + t849.size ≤ 9223372036854775807 then (if x3_1.length < 8796093022208 then (span_Text.l0 k1 (x3_1 ++ [(t848 ++ ((((rd_T58 l0 x9_1).f0) ++ (⟨#[44]⟩ : ByteArray)) ++ ((rd_T58 l0 x9_1).f1))) ++ t849]) l0 (l0.length : Int) (wrap64 (x9_1 + 1))) else (none)) else (none))) else (none))) = some r := by rw [if_neg (show ¬ (false = true) by decide)] at H; exact H
           clear H
           have H := H1
           clear H1
           replace H := Option.bind_eq_some_iff.mp H
           obtain ⟨t848, A220, H⟩ := H
           replace H : (if t848.size + ((((rd_T58 l0 x9_1).f0) ++ (⟨#[44]⟩ : ByteArray)) ++ ((rd_T58 l0 x9_1).f1)).size ≤ 9223372036854775807 then ((span_mark.f (false) (⟨#[93]⟩ : ByteArray) (⟨#[41]⟩ : ByteArray)).bind fun t849 => (if (t848 ++ ((((rd_T58 l0 x9_1).f0) ++ (⟨#[44]⟩ : ByteArray)) ++ ((rd_T58 l0 x9_1).f1))).size + t849.size ≤ 9223372036854775807 then (if x3_1.length < 8796093022208 then (span_Text.l0 k1 (x3_1 ++ [(t848 ++ ((((rd_T58 l0 x9_1).f0) ++ (⟨#[44]⟩ : ByteArray)) ++ ((rd_T58 l0 x9_1).f1))) ++ t849]) l0 (l0.length : Int) (wrap64 (x9_1 + 1))) else (none)) else (none))) else (none)) = some r := H
           have A22 := Aside0.mk A220
           clear A220
           by_cases c23 : t848.size + ((((rd_T58 l0 x9_1).f0) ++ (⟨#[44]⟩ : ByteArray)) ++ ((rd_T58 l0 x9_1).f1)).size ≤ 9223372036854775807
           ·rw [if_pos c23] at H
            have c23b0 := eq_true c23
            have c23b1 : decide (t848.size + ((((rd_T58 l0 x9_1).f0) ++ (⟨#[44]⟩ : ByteArray)) ++ ((rd_T58 l0 x9_1).f1)).size ≤ 9223372036854775807) = true := decide_eq_true c23
            try have c23b2 : (9223372036854775807 < t848.size + ((((rd_T58 l0 x9_1).f0) ++ (⟨#[44]⟩ : ByteArray)) ++ ((rd_T58 l0 x9_1).f1)).size) = False := eq_false (Nat.not_lt.2 c23)
            have c23n : t848.size + ((((rd_T58 l0 x9_1).f0).size + 1) + ((rd_T58 l0 x9_1).f1).size) ≤ 9223372036854775807 := by have z_ := c23; simp only [ByteArray.size_append] at z_; exact z_
            have c23m : (9223372036854775807 < t848.size + ((((rd_T58 l0 x9_1).f0).size + 1) + ((rd_T58 l0 x9_1).f1).size)) = False := eq_false (Nat.not_lt.2 c23n)
            clear c23 c23b0 c23b1
            try clear c23b2
            replace H := Option.bind_eq_some_iff.mp H
            obtain ⟨t849, A240, H⟩ := H
            replace H : (if (t848 ++ ((((rd_T58 l0 x9_1).f0) ++ (⟨#[44]⟩ : ByteArray)) ++ ((rd_T58 l0 x9_1).f1))).size + t849.size ≤ 9223372036854775807 then (if x3_1.length < 8796093022208 then (span_Text.l0 k1 (x3_1 ++ [(t848 ++ ((((rd_T58 l0 x9_1).f0) ++ (⟨#[44]⟩ : ByteArray)) ++ ((rd_T58 l0 x9_1).f1))) ++ t849]) l0 (l0.length : Int) (wrap64 (x9_1 + 1))) else (none)) else (none)) = some r := H
            have A24 := Aside0.mk A240
            clear A240
            by_cases c25 : (t848 ++ ((((rd_T58 l0 x9_1).f0) ++ (⟨#[44]⟩ : ByteArray)) ++ ((rd_T58 l0 x9_1).f1))).size + t849.size ≤ 9223372036854775807
            ·rw [if_pos c25] at H
             have c25b0 := eq_true c25
             have c25b1 : decide ((t848 ++ ((((rd_T58 l0 x9_1).f0) ++ (⟨#[44]⟩ : ByteArray)) ++ ((rd_T58 l0 x9_1).f1))).size + t849.size ≤ 9223372036854775807) = true := decide_eq_true c25
             try have c25b2 : (9223372036854775807 < (t848 ++ ((((rd_T58 l0 x9_1).f0) ++ (⟨#[44]⟩ : ByteArray)) ++ ((rd_T58 l0 x9_1).f1))).size + t849.size) = False := eq_false (Nat.not_lt.2 c25)
             have c25n : (t848.size + ((((rd_T58 l0 x9_1).f0).size + 1) + ((rd_T58 l0 x9_1).f1).size)) + t849.size ≤ 9223372036854775807 := by have z_ := c25; simp only [ByteArray.size_append] at z_; exact z_
             have c25m : (9223372036854775807 < (t848.size + ((((rd_T58 l0 x9_1).f0).size + 1) + ((rd_T58 l0 x9_1).f1).size)) + t849.size) = False := eq_false (Nat.not_lt.2 c25n)
             clear c25 c25b0 c25b1
             try clear c25b2
             by_cases c26 : x3_1.length < 8796093022208
             ·rw [if_pos c26] at H
              have LMc26 := Aside0.mk c26
              clear c26
              obtain ⟨y850, hy850⟩ : ∃ y_ : List ByteArray, y_ = (x3_1 ++ [(t848 ++ ((((rd_T58 l0 x9_1).f0) ++ (⟨#[44]⟩ : ByteArray)) ++ ((rd_T58 l0 x9_1).f1))) ++ t849]) := ⟨_, rfl⟩
              replace H : (span_Text.l0 k1 y850 l0 (l0.length : Int) (wrap64 (x9_1 + 1))) = some r := by first | (rw [hy850]; with_reducible exact H) | (have H2_ := (Option.bind_some _ _).symm.trans H; rw [hy850]; with_reducible exact H2_) | (have H2_ := (Option.bind_some _ _).symm.trans H; with_reducible exact H2_) | with_reducible exact H | (rw [hy850]; exact H) | exact H
              have Ny850 := Aside0.mk hy850
              clear hy850
              have H' := Aside0.mk H
              clear H
              have p841 : 0 ≤ (x9_1 : Int) := of_decide_eq_true (by first | (with_reducible assumption) | assumption)
              have q841 : x9_1 < (l0.length : Int) := of_decide_eq_true (by first | (with_reducible assumption) | assumption)
              obtain ⟨ad841, e841, hx841_0, hx841_1, hx841_2, hx841_3⟩ := at_T58 HR0.out x9_1 p841 q841
              (try rw [← Nbq8.out] at hx841_2)
              (try rw [← Nbq10.out] at hx841_2)
              (try rw [← Nbq8.out] at hx841_3)
              (try rw [← Nbq10.out] at hx841_3)
              cases e841
              replace hx841_0 := (HB.out.cell (World.block_lt_of_cell? w _ hx841_0)).trans hx841_0
              replace hx841_1 := (HB.out.cell (World.block_lt_of_cell? w _ hx841_1)).trans hx841_1
              replace hx841_2 := (HB.out.cell (World.block_lt_of_cell? w _ hx841_2)).trans hx841_2
              replace hx841_3 := (HB.out.cell (World.block_lt_of_cell? w _ hx841_3)).trans hx841_3
              replace p841 := eq_true p841
              replace q841 := eq_true q841
              try go_wp2_with (first | ((with_reducible refine gate_dst (N := 5) rfl ?_); refine box_event ?hg (N := 5) ?hd (cs := #[.string (⟨#[]⟩ : ByteArray), .string (⟨#[]⟩ : ByteArray), .bool false, .bool false]) (t := 58) ?hr ?_; (case hd => rfl); (case hg => rfl); (case hr => first | (go_simp; done) | (go_simp; rfl)); intro gb842 hg w27 hbox hb; have n0_ := Aside0.mk (Kd.R_below (by (with_reducible repeat (first | apply Kd.R_alloc | apply Kd.R_drewN | apply Kd.R_drew)); exact HO_3.out) hb); have n1_ := Aside0.mk (below_step (by repeat (first | (with_reducible first | exact HB.out | apply below_alloc | apply pw_below_drewN | apply below_drew1) | exact HB.out)) hb); have n2_ := Aside0.mk (hbox); have n3_ := Aside0.mk ((by rw [hg]; exact (below_size (by repeat (first | (with_reducible first | exact HB.out | apply below_alloc | apply pw_below_drewN | apply below_drew1) | exact HB.out))) : w.heap.size ≤ gb842)); have n4_ := Aside0.mk ((by rw [hg]; exact (below_size (by repeat (first | (with_reducible first | exact HB.out | apply below_alloc | apply pw_below_drewN | apply below_drew1) | exact HB.out))) : w.heap.size ≤ gb842)); clear HO_3; clear HB; have HO_3 := n0_; have HB := n1_; have BK842 := n2_; have GW842 := n3_; have GE842 := n4_; clear n0_ n1_ n2_ n3_ n4_; clear hb hbox hg; have hcz28_0 : w27.cell? ⟨gb842, 0, none⟩ = some (.string (⟨#[]⟩ : ByteArray)) := (blk_cell BK842.out 0).trans rfl; have hcz28_1 : w27.cell? ⟨gb842, 1, none⟩ = some (.string (⟨#[]⟩ : ByteArray)) := (blk_cell BK842.out 1).trans rfl; have hcz28_2 : w27.cell? ⟨gb842, 2, none⟩ = some (.bool false) := (blk_cell BK842.out 2).trans rfl; have hcz28_3 : w27.cell? ⟨gb842, 3, none⟩ = some (.bool false) := (blk_cell BK842.out 3).trans rfl; have hfz28_0 := blk_frozen BK842.out 0; have hfz28_1 := blk_frozen BK842.out 1; have hfz28_2 := blk_frozen BK842.out 2; have hfz28_3 := blk_frozen BK842.out 3))
              have n0_ : Aside0 (Kd.R Kd.string 9 ((((w27.setCell ⟨gb842, 0, none⟩ (.string ((rd_T58 l0 x9_1).f0))).setCell ⟨gb842, 1, none⟩ (.string ((rd_T58 l0 x9_1).f1))).setCell ⟨gb842, 2, none⟩ (.bool true)).setCell ⟨gb842, 3, none⟩ (.bool false)) w.heap.size (fun _ => True) u3 x3_1) := ⟨by (with_reducible repeat (first | apply Kd.R_alloc | apply Kd.R_drewN | apply Kd.R_drew)); exact Kd.R_mono (Kd.R_far (p := ⟨gb842, 3, none⟩) (Kd.R_far (p := ⟨gb842, 2, none⟩) (Kd.R_far (p := ⟨gb842, 1, none⟩) (Kd.R_far (p := ⟨gb842, 0, none⟩) (Kd.R_types HO_3.out BK842.out (by decide)) (fun _ hk => hk.2) (.string ((rd_T58 l0 x9_1).f0))) (fun _ hk => hk.2) (.string ((rd_T58 l0 x9_1).f1))) (fun _ hk => hk.2) (.bool true)) (fun _ hk => hk.2) (.bool false)) (fun _ hk => trivial)⟩
              have n1_ : Aside0 (((((w27.setCell ⟨gb842, 0, none⟩ (.string ((rd_T58 l0 x9_1).f0))).setCell ⟨gb842, 1, none⟩ (.string ((rd_T58 l0 x9_1).f1))).setCell ⟨gb842, 2, none⟩ (.bool true)).setCell ⟨gb842, 3, none⟩ (.bool false)).heap[gb842]? = some (.cells #[.string ((rd_T58 l0 x9_1).f0), .string ((rd_T58 l0 x9_1).f1), .bool true, .bool false] 58 (0, 0))) := ⟨by (with_reducible repeat (first | refine blk_drewN ?_ _ | refine blk_drew ?_ | refine blk_alloc ?_ _)); refine blk_put (cs := #[.string ((rd_T58 l0 x9_1).f0), .string ((rd_T58 l0 x9_1).f1), .bool true, .bool false]) ?_ 3 _ rfl; (with_reducible repeat (first | refine blk_drewN ?_ _ | refine blk_drew ?_ | refine blk_alloc ?_ _)); refine blk_put (cs := #[.string ((rd_T58 l0 x9_1).f0), .string ((rd_T58 l0 x9_1).f1), .bool false, .bool false]) ?_ 2 _ rfl; (with_reducible repeat (first | refine blk_drewN ?_ _ | refine blk_drew ?_ | refine blk_alloc ?_ _)); refine blk_put (cs := #[.string ((rd_T58 l0 x9_1).f0), .string (⟨#[]⟩ : ByteArray), .bool false, .bool false]) ?_ 1 _ rfl; (with_reducible repeat (first | refine blk_drewN ?_ _ | refine blk_drew ?_ | refine blk_alloc ?_ _)); refine blk_put (cs := #[.string (⟨#[]⟩ : ByteArray), .string (⟨#[]⟩ : ByteArray), .bool false, .bool false]) ?_ 0 _ rfl; (with_reducible repeat (first | refine blk_drewN ?_ _ | refine blk_drew ?_ | refine blk_alloc ?_ _)); exact BK842.out⟩
              have n2_ : Aside0 (Below w.heap.size w ((((w27.setCell ⟨gb842, 0, none⟩ (.string ((rd_T58 l0 x9_1).f0))).setCell ⟨gb842, 1, none⟩ (.string ((rd_T58 l0 x9_1).f1))).setCell ⟨gb842, 2, none⟩ (.bool true)).setCell ⟨gb842, 3, none⟩ (.bool false))) := ⟨by repeat (first | (with_reducible first | exact HB.out | apply below_alloc | apply pw_below_drewN | apply below_drew1 | refine below_set ?_ GE842.out) | exact HB.out)⟩
              (try clear HO_3)
              (try clear BK842)
              (try clear HB)
              generalize ((((w27.setCell ⟨gb842, 0, none⟩ (.string ((rd_T58 l0 x9_1).f0))).setCell ⟨gb842, 1, none⟩ (.string ((rd_T58 l0 x9_1).f1))).setCell ⟨gb842, 2, none⟩ (.bool true)).setCell ⟨gb842, 3, none⟩ (.bool false)) = w29 at n0_ n1_ n2_ ⊢
              have HO_3 := n0_
              have BK842 := n1_
              have HB := n2_
              clear n0_ n1_ n2_
              have n0_ := Aside0.mk (Kd.R_drew HO_3.out)
              have n1_ := Aside0.mk (blk_drew BK842.out)
              have n2_ := Aside0.mk (below_drew1 HB.out)
              clear HO_3
              clear BK842
              clear HB
              have HO_3 := n0_
              have BK842 := n1_
              have HB := n2_
              clear n0_ n1_ n2_
              refine start_ (n := 13) (S := fun w' => w'.cell? ⟨gb842, 0, none⟩ = some (.string ((rd_T58 l0 x9_1).f0)) ∧ w'.cell? ⟨gb842, 1, none⟩ = some (.string ((rd_T58 l0 x9_1).f1)) ∧ w'.cell? ⟨gb842, 2, none⟩ = some (.bool true) ∧ w'.cell? ⟨gb842, 3, none⟩ = some (.bool false)) (ds := []) #[false, false, false, false, false, false, false, false, false, false, false, false, false] (by kernel_rfl) rfl rfl ⟨(blk_cell BK842.out 0).trans rfl, (blk_cell BK842.out 1).trans rfl, (blk_cell BK842.out 2).trans rfl, (blk_cell BK842.out 3).trans rfl⟩ (fun hHeld => ?_); refine with_tabW span_Text.tab8 span_Text.bits8 (fun HT_ HW_ => ?_)
              generalize w29.drew = w30 at HO_3 BK842 HB hHeld ⊢
              refine pure_ (i := 0) (N := some 34) (v := ?_) (a' := ?_) #[true, false, false, false, false, false, false, false, false, false, false, false, false] rfl rfl (any_of HT_.out (by kernel_rfl)) (fun _ _ _ h => h) (Or.inl ⟨by rfl, ?_⟩) ?_ ?_
              rotate_left
              ·intro w'
               go_simp
               with_reducible rfl
              rotate_left
              ·simp only [Act.put, List.setIfInBounds_toArray, List.set_cons_zero, List.set_cons_succ, i64_w, i32_w]
               rfl
              refine pure_ (i := 1) (N := some 35) (v := ?_) (a' := ?_) #[true, true, false, false, false, false, false, false, false, false, false, false, false] rfl rfl (any_of HT_.out (by kernel_rfl)) (fun _ _ _ h => h) (Or.inl ⟨by rfl, ?_⟩) ?_ ?_
              rotate_left
              ·intro w'
               go_simp
               with_reducible rfl
              rotate_left
              ·simp only [Act.put, List.setIfInBounds_toArray, List.set_cons_zero, List.set_cons_succ, i64_w, i32_w]
               rfl
              refine pure_ (i := 4) (N := some 38) (v := ?_) (a' := ?_) #[true, true, false, false, true, false, false, false, false, false, false, false, false] rfl rfl (any_of HT_.out (by kernel_rfl)) (fun _ _ _ h => h) (Or.inl ⟨by rfl, ?_⟩) ?_ ?_
              rotate_left
              ·intro w'
               go_simp
               with_reducible rfl
              rotate_left
              ·simp only [Act.put, List.setIfInBounds_toArray, List.set_cons_zero, List.set_cons_succ, i64_w, i32_w]
               rfl
              refine pure_ (i := 6) (N := some 40) (v := ?_) (a' := ?_) #[true, true, false, false, true, false, true, false, false, false, false, false, false] rfl rfl (any_of HT_.out (by kernel_rfl)) (fun _ _ _ h => h) (Or.inl ⟨by rfl, ?_⟩) ?_ ?_
              rotate_left
              ·intro w'
               go_simp
               with_reducible rfl
              rotate_left
              ·simp only [Act.put, List.setIfInBounds_toArray, List.set_cons_zero, List.set_cons_succ, i64_w, i32_w]
               rfl
              refine take_ (i := 2) (N := some 36) (v := ?_) (a' := ?_) #[true, true, true, false, true, false, true, false, false, false, false, false, false] rfl rfl (take_ofW HT_.out HW_.out (by kernel_rfl)) (fun _ _ _ h => h) (Or.inl ⟨by rfl, ?_⟩) hHeld ?_ ?_
              rotate_left
              ·rintro w' ⟨s0, s1, s2, s3⟩
               go_simp
               with_reducible rfl
              rotate_left
              ·simp only [Act.put, List.setIfInBounds_toArray, List.set_cons_zero, List.set_cons_succ, i64_w, i32_w]
               rfl
              refine take_ (i := 7) (N := some 41) (v := ?_) (a' := ?_) #[true, true, true, false, true, false, true, true, false, false, false, false, false] rfl rfl (take_ofW HT_.out HW_.out (by kernel_rfl)) (fun _ _ _ h => h) (Or.inl ⟨by rfl, ?_⟩) hHeld ?_ ?_
              rotate_left
              ·rintro w' ⟨s0, s1, s2, s3⟩
               go_simp
               with_reducible rfl
              rotate_left
              ·simp only [Act.put, List.setIfInBounds_toArray, List.set_cons_zero, List.set_cons_succ, i64_w, i32_w]
               rfl
              refine one_ (i := 3) (N := some 37) #[true, true, true, true, true, false, true, true, false, false, false, false, false] rfl rfl (one_of HT_.out (by kernel_rfl)) (by decide) (fun K hK => ?_)
              refine goes_ Tryd.func98 (by kernel_rfl) rfl #[.bool true, .string (⟨#[91]⟩ : ByteArray), .string (⟨#[40]⟩ : ByteArray)] (by rfl) rfl rfl (by (try simp only [List.map_toArray, List.map_cons, List.map_nil]); first | done | rfl | (simp only [List.length_drop, List.length_take]; rfl)) ?_
              with_reducible refine (span_mark.calls true (⟨#[91]⟩ : ByteArray) (⟨#[40]⟩ : ByteArray) t848 _ ?side1 A22.out).mono ?_
              (case side1 => exact Glob.step HG.out (by repeat (first | (with_reducible first | exact HB.out | apply below_alloc | apply pw_below_drewN | apply below_drew1 | refine below_set ?_ GE842.out) | exact HB.out)))
              rintro e w' ⟨rfl, ⟨nd, rfl⟩⟩
              refine ⟨_, rfl, ?_⟩
              refine hK.out _ _ ⟨(blk_cell BK842.out 0).trans rfl, (blk_cell BK842.out 1).trans rfl, (blk_cell BK842.out 2).trans rfl, (blk_cell BK842.out 3).trans rfl⟩ (fun hHeld => ?_)
              clear hK K
              refine norm_ (a' := ?_) ?_ ?_
              rotate_left
              ·show Act.put _ (some 37) _ = _
               simp only [Act.put, List.setIfInBounds_toArray, List.set_cons_zero, List.set_cons_succ, i64_w, i32_w]
               rfl
              refine pure_ (i := 5) (N := some 39) (v := ?_) (a' := ?_) #[true, true, true, true, true, true, true, true, false, false, false, false, false] rfl rfl (any_of HT_.out (by kernel_rfl)) (fun _ _ _ h => h) (Or.inl ⟨by rfl, ?_⟩) ?_ ?_
              rotate_left
              ·intro w'
               go_simp
               with_reducible rfl
              rotate_left
              ·simp only [Act.put, List.setIfInBounds_toArray, List.set_cons_zero, List.set_cons_succ, i64_w, i32_w]
               rfl
              refine one_ (i := 8) (N := some 42) #[true, true, true, true, true, true, true, true, true, false, false, false, false] rfl rfl (one_of HT_.out (by kernel_rfl)) (by decide) (fun K hK => ?_)
              refine goes_ Tryd.func98 (by kernel_rfl) rfl #[.bool false, .string (⟨#[93]⟩ : ByteArray), .string (⟨#[41]⟩ : ByteArray)] (by rfl) rfl rfl (by (try simp only [List.map_toArray, List.map_cons, List.map_nil]); first | done | rfl | (simp only [List.length_drop, List.length_take]; rfl)) ?_
              with_reducible refine (span_mark.calls false (⟨#[93]⟩ : ByteArray) (⟨#[41]⟩ : ByteArray) t849 _ ?side1 A24.out).mono ?_
              (case side1 => exact Glob.step HG.out (by repeat (first | (with_reducible first | exact HB.out | apply below_alloc | apply pw_below_drewN | apply below_drew1 | refine below_set ?_ GE842.out) | exact HB.out)))
              rintro e w' ⟨rfl, ⟨nd, rfl⟩⟩
              refine ⟨_, rfl, ?_⟩
              refine hK.out _ _ ⟨(blk_cell BK842.out 0).trans rfl, (blk_cell BK842.out 1).trans rfl, (blk_cell BK842.out 2).trans rfl, (blk_cell BK842.out 3).trans rfl⟩ (fun hHeld => ?_)
              clear hK K
              refine norm_ (a' := ?_) ?_ ?_
              rotate_left
              ·show Act.put _ (some 42) _ = _
               simp only [Act.put, List.setIfInBounds_toArray, List.set_cons_zero, List.set_cons_succ, i64_w, i32_w]
               rfl
              refine pure_ (i := 9) (N := some 43) (v := ?_) (a' := ?_) #[true, true, true, true, true, true, true, true, true, true, false, false, false] rfl rfl (any_of HT_.out (by kernel_rfl)) (fun _ _ _ h => h) (Or.inl ⟨by rfl, ?_⟩) ?_ ?_
              rotate_left
              ·intro w'
               go_simp
               with_reducible rfl
              rotate_left
              ·simp only [Act.put, List.setIfInBounds_toArray, List.set_cons_zero, List.set_cons_succ, i64_w, i32_w]
               rfl
              refine one_ (i := 10) (N := some 44) #[true, true, true, true, true, true, true, true, true, true, true, false, false] rfl rfl (one_of HT_.out (by kernel_rfl)) (by decide) (fun K hK => ?_)
              refine value_ (w1 := ?_) (v := ?_) (by rfl) rfl ?_ ?_
              rotate_left 2
              ·go_simp
               constructor
               ·rfl
               ·rfl
              refine hK.out _ _ ⟨(blk_cell (blk_alloc BK842.out _) 0).trans rfl, (blk_cell (blk_alloc BK842.out _) 1).trans rfl, (blk_cell (blk_alloc BK842.out _) 2).trans rfl, (blk_cell (blk_alloc BK842.out _) 3).trans rfl⟩ (fun hHeld => ?_)
              clear hK K
              refine norm_ (a' := ?_) ?_ ?_
              rotate_left
              ·show Act.put _ (some 44) _ = _
               simp only [Act.put, List.setIfInBounds_toArray, List.set_cons_zero, List.set_cons_succ, i64_w, i32_w]
               rfl
              refine one_ (i := 11) (N := some 45) #[true, true, true, true, true, true, true, true, true, true, true, true, false] rfl rfl (one_of HT_.out (by kernel_rfl)) (by decide) (fun K hK => ?_)
              refine Kd.R_append_step Kd.string (w0 := w) w.heap.size (by rfl) (.tmp 34) (.tmp 44) 43 9 (.string ⟨#[]⟩) 16 rfl Tryd.underlying43 info9 rfl (by decide) (by omega) u3 x3_1 ((t848 ++ ((((rd_T58 l0 x9_1).f0) ++ (⟨#[44]⟩ : ByteArray)) ++ ((rd_T58 l0 x9_1).f1))) ++ t849) [.string ((t848 ++ ((((rd_T58 l0 x9_1).f0) ++ (⟨#[44]⟩ : ByteArray)) ++ ((rd_T58 l0 x9_1).f1))) ++ t849)] (fun _ => True) (fun _ => False) rfl rfl ?aP (fun _ hk => hk.elim) ?aF ?aO ?aB ?aS ?aL ?_
              (case aP => exact rfl)
              (case aB => exact (by repeat (first | (with_reducible first | exact HB.out | apply below_alloc | apply pw_below_drewN | apply below_drew1 | refine below_set ?_ GE842.out) | exact HB.out)))
              (case aF => exact (fun _ _ => trivial))
              (case aO => exact (by (with_reducible repeat (first | apply Kd.R_alloc | apply Kd.R_drewN | apply Kd.R_drew)); exact HO_3.out))
              (case aS => exact (below_size (by repeat (first | (with_reducible first | exact HB.out | apply below_alloc | apply pw_below_drewN | apply below_drew1 | refine below_set ?_ GE842.out) | exact HB.out))))
              (case aL => have := LMc26.out; omega)
              intro v851 w31 ho hb hg hat
              rw [← Ny850.out] at ho
              have n0_ := Aside0.mk (blk_grown (g := gb842) (o := .cells #[.string ((rd_T58 l0 x9_1).f0), .string ((rd_T58 l0 x9_1).f1), .bool true, .bool false] 58 (0, 0)) (by (with_reducible repeat (first | refine blk_drewN ?_ _ | refine blk_drew ?_ | refine blk_alloc ?_ _)); exact BK842.out) hg (Kd.R_ne HO_3.out BK842.out (by decide)))
              have n1_ := Aside0.mk (hb)
              have n2_ := Aside0.mk (ho)
              clear BK842
              clear HB
              clear HO_3
              have BK842 := n0_
              have HB := n1_
              have HO852 := n2_
              clear n0_ n1_ n2_
              clear ho hb hg hat
              refine hK.out _ _ ⟨(blk_cell BK842.out 0).trans rfl, (blk_cell BK842.out 1).trans rfl, (blk_cell BK842.out 2).trans rfl, (blk_cell BK842.out 3).trans rfl⟩ (fun hHeld => ?_)
              clear hK K
              refine norm_ (a' := ?_) ?_ ?_
              rotate_left
              ·show Act.put _ (some 45) _ = _
               simp only [Act.put, List.setIfInBounds_toArray, List.set_cons_zero, List.set_cons_succ, i64_w, i32_w]
               rfl
              refine pure_ (i := 12) (N := some 3) (v := ?_) (a' := ?_) #[true, true, true, true, true, true, true, true, true, true, true, true, true] rfl rfl (any_of HT_.out (by kernel_rfl)) (fun _ _ _ h => h) (Or.inl ⟨by rfl, ?_⟩) ?_ ?_
              rotate_left
              ·intro w'
               go_simp
               with_reducible rfl
              rotate_left
              ·simp only [Act.put, List.setIfInBounds_toArray, List.set_cons_zero, List.set_cons_succ, i64_w, i32_w]
               rfl
              refine done_ (done_of HT_.out (by kernel_rfl)) ?_
              try go_wp2
              go_roundg k1
              case measure => have := HK1.out; omega
              case rel => exact ⟨(y850), (wrap64 (x9_1 + 1)), (by first | rfl | (simp; done) | (simp [*]; done) | (simp; exact isEmpty_bne _)), H', ⟨by have := HK1.out; omega⟩, ⟨by (with_reducible repeat (first | apply Kd.R_alloc | apply Kd.R_drewN | apply Kd.R_drew)); exact HO852.out⟩, ⟨by repeat (first | (with_reducible first | exact HB.out | apply below_alloc | apply pw_below_drewN | apply below_drew1 | refine below_set ?_ GE842.out) | exact HB.out)⟩⟩
             ·rw [if_neg c26] at H
              exact absurd H (by simp)
            ·rw [if_neg c25] at H
             exact absurd H (by simp)
           ·rw [if_neg c23] at H
            exact absurd H (by simp)
         ·replace c9 := Bool.eq_false_iff.mpr c9
          subst c9
          have H1 : ((span_mark.f (false) (⟨#[91]⟩ : ByteArray) (⟨#[40]⟩ : ByteArray)).bind fun t853 => (if t853.size + ((((rd_T58 l0 x9_1).f0) ++ (⟨#[44]⟩ : ByteArray)) ++ ((rd_T58 l0 x9_1).f1)).size ≤ 9223372036854775807 then ((span_mark.f ((rd_T58 l0 x9_1).f3) (⟨#[93]⟩ : ByteArray) (⟨#[41]⟩ : ByteArray)).bind fun t854 => (if (t853 ++ ((((rd_T58 l0 x9_1).f0) ++ (⟨#[44]⟩ : ByteArray)) ++ ((rd_T58 l0 x9_1).f1))).size + t854.size ≤ 9223372036854775807 then (if x3_1.length < 8796093022208 then (span_Text.l0 k1 (x3_1 ++ [(t853 ++ ((((rd_T58 l0 x9_1).f0) ++ (⟨#[44]⟩ : ByteArray)) ++ ((rd_T58 l0 x9_1).f1))) ++ t854]) l0 (l0.length : Int) (wrap64 (x9_1 + 1))) else (none)) else (none))) else (none))) = some r := by rw [if_neg (show ¬ (false = true) by decide)] at H; exact H
          clear H
          have H := H1
          clear H1
          replace H := Option.bind_eq_some_iff.mp H
          obtain ⟨t853, A320, H⟩ := H
          replace H : (if t853.size + ((((rd_T58 l0 x9_1).f0) ++ (⟨#[44]⟩ : ByteArray)) ++ ((rd_T58 l0 x9_1).f1)).size ≤ 9223372036854775807 then ((span_mark.f ((rd_T58 l0 x9_1).f3) (⟨#[93]⟩ : ByteArray) (⟨#[41]⟩ : ByteArray)).bind fun t854 => (if (t853 ++ ((((rd_T58 l0 x9_1).f0) ++ (⟨#[44]⟩ : ByteArray)) ++ ((rd_T58 l0 x9_1).f1))).size + t854.size ≤ 9223372036854775807 then (if x3_1.length < 8796093022208 then (span_Text.l0 k1 (x3_1 ++ [(t853 ++ ((((rd_T58 l0 x9_1).f0) ++ (⟨#[44]⟩ : ByteArray)) ++ ((rd_T58 l0 x9_1).f1))) ++ t854]) l0 (l0.length : Int) (wrap64 (x9_1 + 1))) else (none)) else (none))) else (none)) = some r := H
          have A32 := Aside0.mk A320
          clear A320
          by_cases c33 : t853.size + ((((rd_T58 l0 x9_1).f0) ++ (⟨#[44]⟩ : ByteArray)) ++ ((rd_T58 l0 x9_1).f1)).size ≤ 9223372036854775807
          ·rw [if_pos c33] at H
           have c33b0 := eq_true c33
           have c33b1 : decide (t853.size + ((((rd_T58 l0 x9_1).f0) ++ (⟨#[44]⟩ : ByteArray)) ++ ((rd_T58 l0 x9_1).f1)).size ≤ 9223372036854775807) = true := decide_eq_true c33
           try have c33b2 : (9223372036854775807 < t853.size + ((((rd_T58 l0 x9_1).f0) ++ (⟨#[44]⟩ : ByteArray)) ++ ((rd_T58 l0 x9_1).f1)).size) = False := eq_false (Nat.not_lt.2 c33)
           have c33n : t853.size + ((((rd_T58 l0 x9_1).f0).size + 1) + ((rd_T58 l0 x9_1).f1).size) ≤ 9223372036854775807 := by have z_ := c33; simp only [ByteArray.size_append] at z_; exact z_
           have c33m : (9223372036854775807 < t853.size + ((((rd_T58 l0 x9_1).f0).size + 1) + ((rd_T58 l0 x9_1).f1).size)) = False := eq_false (Nat.not_lt.2 c33n)
           clear c33 c33b0 c33b1
           try clear c33b2
           replace H := Option.bind_eq_some_iff.mp H
           obtain ⟨t854, A340, H⟩ := H
           replace H : (if (t853 ++ ((((rd_T58 l0 x9_1).f0) ++ (⟨#[44]⟩ : ByteArray)) ++ ((rd_T58 l0 x9_1).f1))).size + t854.size ≤ 9223372036854775807 then (if x3_1.length < 8796093022208 then (span_Text.l0 k1 (x3_1 ++ [(t853 ++ ((((rd_T58 l0 x9_1).f0) ++ (⟨#[44]⟩ : ByteArray)) ++ ((rd_T58 l0 x9_1).f1))) ++ t854]) l0 (l0.length : Int) (wrap64 (x9_1 + 1))) else (none)) else (none)) = some r := H
           have A34 := Aside0.mk A340
           clear A340
           by_cases c35 : (t853 ++ ((((rd_T58 l0 x9_1).f0) ++ (⟨#[44]⟩ : ByteArray)) ++ ((rd_T58 l0 x9_1).f1))).size + t854.size ≤ 9223372036854775807
           ·rw [if_pos c35] at H
            have c35b0 := eq_true c35
            have c35b1 : decide ((t853 ++ ((((rd_T58 l0 x9_1).f0) ++ (⟨#[44]⟩ : ByteArray)) ++ ((rd_T58 l0 x9_1).f1))).size + t854.size ≤ 9223372036854775807) = true := decide_eq_true c35
            try have c35b2 : (9223372036854775807 < (t853 ++ ((((rd_T58 l0 x9_1).f0) ++ (⟨#[44]⟩ : ByteArray)) ++ ((rd_T58 l0 x9_1).f1))).size + t854.size) = False := eq_false (Nat.not_lt.2 c35)
            have c35n : (t853.size + ((((rd_T58 l0 x9_1).f0).size + 1) + ((rd_T58 l0 x9_1).f1).size)) + t854.size ≤ 9223372036854775807 := by have z_ := c35; simp only [ByteArray.size_append] at z_; exact z_
            have c35m : (9223372036854775807 < (t853.size + ((((rd_T58 l0 x9_1).f0).size + 1) + ((rd_T58 l0 x9_1).f1).size)) + t854.size) = False := eq_false (Nat.not_lt.2 c35n)
            clear c35 c35b0 c35b1
            try clear c35b2
            by_cases c36 : x3_1.length < 8796093022208
            ·rw [if_pos c36] at H
             have LMc36 := Aside0.mk c36
             clear c36
             obtain ⟨y855, hy855⟩ : ∃ y_ : List ByteArray, y_ = (x3_1 ++ [(t853 ++ ((((rd_T58 l0 x9_1).f0) ++ (⟨#[44]⟩ : ByteArray)) ++ ((rd_T58 l0 x9_1).f1))) ++ t854]) := ⟨_, rfl⟩
             replace H : (span_Text.l0 k1 y855 l0 (l0.length : Int) (wrap64 (x9_1 + 1))) = some r := by first | (rw [hy855]; with_reducible exact H) | (have H2_ := (Option.bind_some _ _).symm.trans H; rw [hy855]; with_reducible exact H2_) | (have H2_ := (Option.bind_some _ _).symm.trans H; with_reducible exact H2_) | with_reducible exact H | (rw [hy855]; exact H) | exact H
             have Ny855 := Aside0.mk hy855
             clear hy855
             have H' := Aside0.mk H
             clear H
             have p841 : 0 ≤ (x9_1 : Int) := of_decide_eq_true (by first | (with_reducible assumption) | assumption)
             have q841 : x9_1 < (l0.length : Int) := of_decide_eq_true (by first | (with_reducible assumption) | assumption)
             obtain ⟨ad841, e841, hx841_0, hx841_1, hx841_2, hx841_3⟩ := at_T58 HR0.out x9_1 p841 q841
             (try rw [← Nbq8.out] at hx841_2)
             (try rw [← Nbq8.out] at hx841_3)
             cases e841
             replace hx841_0 := (HB.out.cell (World.block_lt_of_cell? w _ hx841_0)).trans hx841_0
             replace hx841_1 := (HB.out.cell (World.block_lt_of_cell? w _ hx841_1)).trans hx841_1
             replace hx841_2 := (HB.out.cell (World.block_lt_of_cell? w _ hx841_2)).trans hx841_2
             replace hx841_3 := (HB.out.cell (World.block_lt_of_cell? w _ hx841_3)).trans hx841_3
             replace p841 := eq_true p841
             replace q841 := eq_true q841
             try go_wp2_with (first | ((with_reducible refine gate_dst (N := 5) rfl ?_); refine box_event ?hg (N := 5) ?hd (cs := #[.string (⟨#[]⟩ : ByteArray), .string (⟨#[]⟩ : ByteArray), .bool false, .bool false]) (t := 58) ?hr ?_; (case hd => rfl); (case hg => rfl); (case hr => first | (go_simp; done) | (go_simp; rfl)); intro gb842 hg w37 hbox hb; have n0_ := Aside0.mk (Kd.R_below (by (with_reducible repeat (first | apply Kd.R_alloc | apply Kd.R_drewN | apply Kd.R_drew)); exact HO_3.out) hb); have n1_ := Aside0.mk (below_step (by repeat (first | (with_reducible first | exact HB.out | apply below_alloc | apply pw_below_drewN | apply below_drew1) | exact HB.out)) hb); have n2_ := Aside0.mk (hbox); have n3_ := Aside0.mk ((by rw [hg]; exact (below_size (by repeat (first | (with_reducible first | exact HB.out | apply below_alloc | apply pw_below_drewN | apply below_drew1) | exact HB.out))) : w.heap.size ≤ gb842)); have n4_ := Aside0.mk ((by rw [hg]; exact (below_size (by repeat (first | (with_reducible first | exact HB.out | apply below_alloc | apply pw_below_drewN | apply below_drew1) | exact HB.out))) : w.heap.size ≤ gb842)); clear HO_3; clear HB; have HO_3 := n0_; have HB := n1_; have BK842 := n2_; have GW842 := n3_; have GE842 := n4_; clear n0_ n1_ n2_ n3_ n4_; clear hb hbox hg; have hcz38_0 : w37.cell? ⟨gb842, 0, none⟩ = some (.string (⟨#[]⟩ : ByteArray)) := (blk_cell BK842.out 0).trans rfl; have hcz38_1 : w37.cell? ⟨gb842, 1, none⟩ = some (.string (⟨#[]⟩ : ByteArray)) := (blk_cell BK842.out 1).trans rfl; have hcz38_2 : w37.cell? ⟨gb842, 2, none⟩ = some (.bool false) := (blk_cell BK842.out 2).trans rfl; have hcz38_3 : w37.cell? ⟨gb842, 3, none⟩ = some (.bool false) := (blk_cell BK842.out 3).trans rfl; have hfz38_0 := blk_frozen BK842.out 0; have hfz38_1 := blk_frozen BK842.out 1; have hfz38_2 := blk_frozen BK842.out 2; have hfz38_3 := blk_frozen BK842.out 3))
             have n0_ : Aside0 (Kd.R Kd.string 9 ((((w37.setCell ⟨gb842, 0, none⟩ (.string ((rd_T58 l0 x9_1).f0))).setCell ⟨gb842, 1, none⟩ (.string ((rd_T58 l0 x9_1).f1))).setCell ⟨gb842, 2, none⟩ (.bool false)).setCell ⟨gb842, 3, none⟩ (.bool ((rd_T58 l0 x9_1).f3))) w.heap.size (fun _ => True) u3 x3_1) := ⟨by (with_reducible repeat (first | apply Kd.R_alloc | apply Kd.R_drewN | apply Kd.R_drew)); exact Kd.R_mono (Kd.R_far (p := ⟨gb842, 3, none⟩) (Kd.R_far (p := ⟨gb842, 2, none⟩) (Kd.R_far (p := ⟨gb842, 1, none⟩) (Kd.R_far (p := ⟨gb842, 0, none⟩) (Kd.R_types HO_3.out BK842.out (by decide)) (fun _ hk => hk.2) (.string ((rd_T58 l0 x9_1).f0))) (fun _ hk => hk.2) (.string ((rd_T58 l0 x9_1).f1))) (fun _ hk => hk.2) (.bool false)) (fun _ hk => hk.2) (.bool ((rd_T58 l0 x9_1).f3))) (fun _ hk => trivial)⟩
             have n1_ : Aside0 (((((w37.setCell ⟨gb842, 0, none⟩ (.string ((rd_T58 l0 x9_1).f0))).setCell ⟨gb842, 1, none⟩ (.string ((rd_T58 l0 x9_1).f1))).setCell ⟨gb842, 2, none⟩ (.bool false)).setCell ⟨gb842, 3, none⟩ (.bool ((rd_T58 l0 x9_1).f3))).heap[gb842]? = some (.cells #[.string ((rd_T58 l0 x9_1).f0), .string ((rd_T58 l0 x9_1).f1), .bool false, .bool ((rd_T58 l0 x9_1).f3)] 58 (0, 0))) := ⟨by (with_reducible repeat (first | refine blk_drewN ?_ _ | refine blk_drew ?_ | refine blk_alloc ?_ _)); refine blk_put (cs := #[.string ((rd_T58 l0 x9_1).f0), .string ((rd_T58 l0 x9_1).f1), .bool false, .bool false]) ?_ 3 _ rfl; (with_reducible repeat (first | refine blk_drewN ?_ _ | refine blk_drew ?_ | refine blk_alloc ?_ _)); refine blk_put (cs := #[.string ((rd_T58 l0 x9_1).f0), .string ((rd_T58 l0 x9_1).f1), .bool false, .bool false]) ?_ 2 _ rfl; (with_reducible repeat (first | refine blk_drewN ?_ _ | refine blk_drew ?_ | refine blk_alloc ?_ _)); refine blk_put (cs := #[.string ((rd_T58 l0 x9_1).f0), .string (⟨#[]⟩ : ByteArray), .bool false, .bool false]) ?_ 1 _ rfl; (with_reducible repeat (first | refine blk_drewN ?_ _ | refine blk_drew ?_ | refine blk_alloc ?_ _)); refine blk_put (cs := #[.string (⟨#[]⟩ : ByteArray), .string (⟨#[]⟩ : ByteArray), .bool false, .bool false]) ?_ 0 _ rfl; (with_reducible repeat (first | refine blk_drewN ?_ _ | refine blk_drew ?_ | refine blk_alloc ?_ _)); exact BK842.out⟩
             have n2_ : Aside0 (Below w.heap.size w ((((w37.setCell ⟨gb842, 0, none⟩ (.string ((rd_T58 l0 x9_1).f0))).setCell ⟨gb842, 1, none⟩ (.string ((rd_T58 l0 x9_1).f1))).setCell ⟨gb842, 2, none⟩ (.bool false)).setCell ⟨gb842, 3, none⟩ (.bool ((rd_T58 l0 x9_1).f3)))) := ⟨by repeat (first | (with_reducible first | exact HB.out | apply below_alloc | apply pw_below_drewN | apply below_drew1 | refine below_set ?_ GE842.out) | exact HB.out)⟩
             (try clear HO_3)
             (try clear BK842)
             (try clear HB)
             generalize ((((w37.setCell ⟨gb842, 0, none⟩ (.string ((rd_T58 l0 x9_1).f0))).setCell ⟨gb842, 1, none⟩ (.string ((rd_T58 l0 x9_1).f1))).setCell ⟨gb842, 2, none⟩ (.bool false)).setCell ⟨gb842, 3, none⟩ (.bool ((rd_T58 l0 x9_1).f3))) = w39 at n0_ n1_ n2_ ⊢
             have HO_3 := n0_
             have BK842 := n1_
             have HB := n2_
             clear n0_ n1_ n2_
             have n0_ := Aside0.mk (Kd.R_drew HO_3.out)
             have n1_ := Aside0.mk (blk_drew BK842.out)
             have n2_ := Aside0.mk (below_drew1 HB.out)
             clear HO_3
             clear BK842
             clear HB
             have HO_3 := n0_
             have BK842 := n1_
             have HB := n2_
             clear n0_ n1_ n2_
             refine start_ (n := 13) (S := fun w' => w'.cell? ⟨gb842, 0, none⟩ = some (.string ((rd_T58 l0 x9_1).f0)) ∧ w'.cell? ⟨gb842, 1, none⟩ = some (.string ((rd_T58 l0 x9_1).f1)) ∧ w'.cell? ⟨gb842, 2, none⟩ = some (.bool false) ∧ w'.cell? ⟨gb842, 3, none⟩ = some (.bool ((rd_T58 l0 x9_1).f3))) (ds := []) #[false, false, false, false, false, false, false, false, false, false, false, false, false] (by kernel_rfl) rfl rfl ⟨(blk_cell BK842.out 0).trans rfl, (blk_cell BK842.out 1).trans rfl, (blk_cell BK842.out 2).trans rfl, (blk_cell BK842.out 3).trans rfl⟩ (fun hHeld => ?_); refine with_tabW span_Text.tab8 span_Text.bits8 (fun HT_ HW_ => ?_)
             generalize w39.drew = w40 at HO_3 BK842 HB hHeld ⊢
             refine pure_ (i := 0) (N := some 34) (v := ?_) (a' := ?_) #[true, false, false, false, false, false, false, false, false, false, false, false, false] rfl rfl (any_of HT_.out (by kernel_rfl)) (fun _ _ _ h => h) (Or.inl ⟨by rfl, ?_⟩) ?_ ?_
             rotate_left
             ·intro w'
              go_simp
              with_reducible rfl
             rotate_left
             ·simp only [Act.put, List.setIfInBounds_toArray, List.set_cons_zero, List.set_cons_succ, i64_w, i32_w]
              rfl
             refine pure_ (i := 1) (N := some 35) (v := ?_) (a' := ?_) #[true, true, false, false, false, false, false, false, false, false, false, false, false] rfl rfl (any_of HT_.out (by kernel_rfl)) (fun _ _ _ h => h) (Or.inl ⟨by rfl, ?_⟩) ?_ ?_
             rotate_left
             ·intro w'
              go_simp
              with_reducible rfl
             rotate_left
             ·simp only [Act.put, List.setIfInBounds_toArray, List.set_cons_zero, List.set_cons_succ, i64_w, i32_w]
              rfl
             refine pure_ (i := 4) (N := some 38) (v := ?_) (a' := ?_) #[true, true, false, false, true, false, false, false, false, false, false, false, false] rfl rfl (any_of HT_.out (by kernel_rfl)) (fun _ _ _ h => h) (Or.inl ⟨by rfl, ?_⟩) ?_ ?_
             rotate_left
             ·intro w'
              go_simp
              with_reducible rfl
             rotate_left
             ·simp only [Act.put, List.setIfInBounds_toArray, List.set_cons_zero, List.set_cons_succ, i64_w, i32_w]
              rfl
             refine pure_ (i := 6) (N := some 40) (v := ?_) (a' := ?_) #[true, true, false, false, true, false, true, false, false, false, false, false, false] rfl rfl (any_of HT_.out (by kernel_rfl)) (fun _ _ _ h => h) (Or.inl ⟨by rfl, ?_⟩) ?_ ?_
             rotate_left
             ·intro w'
              go_simp
              with_reducible rfl
             rotate_left
             ·simp only [Act.put, List.setIfInBounds_toArray, List.set_cons_zero, List.set_cons_succ, i64_w, i32_w]
              rfl
             refine take_ (i := 2) (N := some 36) (v := ?_) (a' := ?_) #[true, true, true, false, true, false, true, false, false, false, false, false, false] rfl rfl (take_ofW HT_.out HW_.out (by kernel_rfl)) (fun _ _ _ h => h) (Or.inl ⟨by rfl, ?_⟩) hHeld ?_ ?_
             rotate_left
             ·rintro w' ⟨s0, s1, s2, s3⟩
              go_simp
              with_reducible rfl
             rotate_left
             ·simp only [Act.put, List.setIfInBounds_toArray, List.set_cons_zero, List.set_cons_succ, i64_w, i32_w]
              rfl
             refine take_ (i := 7) (N := some 41) (v := ?_) (a' := ?_) #[true, true, true, false, true, false, true, true, false, false, false, false, false] rfl rfl (take_ofW HT_.out HW_.out (by kernel_rfl)) (fun _ _ _ h => h) (Or.inl ⟨by rfl, ?_⟩) hHeld ?_ ?_
             rotate_left
             ·rintro w' ⟨s0, s1, s2, s3⟩
              go_simp
              with_reducible rfl
             rotate_left
             ·simp only [Act.put, List.setIfInBounds_toArray, List.set_cons_zero, List.set_cons_succ, i64_w, i32_w]
              rfl
             refine one_ (i := 3) (N := some 37) #[true, true, true, true, true, false, true, true, false, false, false, false, false] rfl rfl (one_of HT_.out (by kernel_rfl)) (by decide) (fun K hK => ?_)
             refine goes_ Tryd.func98 (by kernel_rfl) rfl #[.bool false, .string (⟨#[91]⟩ : ByteArray), .string (⟨#[40]⟩ : ByteArray)] (by rfl) rfl rfl (by (try simp only [List.map_toArray, List.map_cons, List.map_nil]); first | done | rfl | (simp only [List.length_drop, List.length_take]; rfl)) ?_
             with_reducible refine (span_mark.calls false (⟨#[91]⟩ : ByteArray) (⟨#[40]⟩ : ByteArray) t853 _ ?side1 A32.out).mono ?_
             (case side1 => exact Glob.step HG.out (by repeat (first | (with_reducible first | exact HB.out | apply below_alloc | apply pw_below_drewN | apply below_drew1 | refine below_set ?_ GE842.out) | exact HB.out)))
             rintro e w' ⟨rfl, ⟨nd, rfl⟩⟩
             refine ⟨_, rfl, ?_⟩
             refine hK.out _ _ ⟨(blk_cell BK842.out 0).trans rfl, (blk_cell BK842.out 1).trans rfl, (blk_cell BK842.out 2).trans rfl, (blk_cell BK842.out 3).trans rfl⟩ (fun hHeld => ?_)
             clear hK K
             refine norm_ (a' := ?_) ?_ ?_
             rotate_left
             ·show Act.put _ (some 37) _ = _
              simp only [Act.put, List.setIfInBounds_toArray, List.set_cons_zero, List.set_cons_succ, i64_w, i32_w]
              rfl
             refine pure_ (i := 5) (N := some 39) (v := ?_) (a' := ?_) #[true, true, true, true, true, true, true, true, false, false, false, false, false] rfl rfl (any_of HT_.out (by kernel_rfl)) (fun _ _ _ h => h) (Or.inl ⟨by rfl, ?_⟩) ?_ ?_
             rotate_left
             ·intro w'
              go_simp
              with_reducible rfl
             rotate_left
             ·simp only [Act.put, List.setIfInBounds_toArray, List.set_cons_zero, List.set_cons_succ, i64_w, i32_w]
              rfl
             refine one_ (i := 8) (N := some 42) #[true, true, true, true, true, true, true, true, true, false, false, false, false] rfl rfl (one_of HT_.out (by kernel_rfl)) (by decide) (fun K hK => ?_)
             refine goes_ Tryd.func98 (by kernel_rfl) rfl #[.bool ((rd_T58 l0 x9_1).f3), .string (⟨#[93]⟩ : ByteArray), .string (⟨#[41]⟩ : ByteArray)] (by rfl) rfl rfl (by (try simp only [List.map_toArray, List.map_cons, List.map_nil]); first | done | rfl | (simp only [List.length_drop, List.length_take]; rfl)) ?_
             with_reducible refine (span_mark.calls ((rd_T58 l0 x9_1).f3) (⟨#[93]⟩ : ByteArray) (⟨#[41]⟩ : ByteArray) t854 _ ?side1 A34.out).mono ?_
             (case side1 => exact Glob.step HG.out (by repeat (first | (with_reducible first | exact HB.out | apply below_alloc | apply pw_below_drewN | apply below_drew1 | refine below_set ?_ GE842.out) | exact HB.out)))
             rintro e w' ⟨rfl, ⟨nd, rfl⟩⟩
             refine ⟨_, rfl, ?_⟩
             refine hK.out _ _ ⟨(blk_cell BK842.out 0).trans rfl, (blk_cell BK842.out 1).trans rfl, (blk_cell BK842.out 2).trans rfl, (blk_cell BK842.out 3).trans rfl⟩ (fun hHeld => ?_)
             clear hK K
             refine norm_ (a' := ?_) ?_ ?_
             rotate_left
             ·show Act.put _ (some 42) _ = _
              simp only [Act.put, List.setIfInBounds_toArray, List.set_cons_zero, List.set_cons_succ, i64_w, i32_w]
              rfl
             refine pure_ (i := 9) (N := some 43) (v := ?_) (a' := ?_) #[true, true, true, true, true, true, true, true, true, true, false, false, false] rfl rfl (any_of HT_.out (by kernel_rfl)) (fun _ _ _ h => h) (Or.inl ⟨by rfl, ?_⟩) ?_ ?_
             rotate_left
             ·intro w'
              go_simp
              with_reducible rfl
             rotate_left
             ·simp only [Act.put, List.setIfInBounds_toArray, List.set_cons_zero, List.set_cons_succ, i64_w, i32_w]
              rfl
             refine one_ (i := 10) (N := some 44) #[true, true, true, true, true, true, true, true, true, true, true, false, false] rfl rfl (one_of HT_.out (by kernel_rfl)) (by decide) (fun K hK => ?_)
             refine value_ (w1 := ?_) (v := ?_) (by rfl) rfl ?_ ?_
             rotate_left 2
             ·go_simp
              constructor
              ·rfl
              ·rfl
             refine hK.out _ _ ⟨(blk_cell (blk_alloc BK842.out _) 0).trans rfl, (blk_cell (blk_alloc BK842.out _) 1).trans rfl, (blk_cell (blk_alloc BK842.out _) 2).trans rfl, (blk_cell (blk_alloc BK842.out _) 3).trans rfl⟩ (fun hHeld => ?_)
             clear hK K
             refine norm_ (a' := ?_) ?_ ?_
             rotate_left
             ·show Act.put _ (some 44) _ = _
              simp only [Act.put, List.setIfInBounds_toArray, List.set_cons_zero, List.set_cons_succ, i64_w, i32_w]
              rfl
             refine one_ (i := 11) (N := some 45) #[true, true, true, true, true, true, true, true, true, true, true, true, false] rfl rfl (one_of HT_.out (by kernel_rfl)) (by decide) (fun K hK => ?_)
             refine Kd.R_append_step Kd.string (w0 := w) w.heap.size (by rfl) (.tmp 34) (.tmp 44) 43 9 (.string ⟨#[]⟩) 16 rfl Tryd.underlying43 info9 rfl (by decide) (by omega) u3 x3_1 ((t853 ++ ((((rd_T58 l0 x9_1).f0) ++ (⟨#[44]⟩ : ByteArray)) ++ ((rd_T58 l0 x9_1).f1))) ++ t854) [.string ((t853 ++ ((((rd_T58 l0 x9_1).f0) ++ (⟨#[44]⟩ : ByteArray)) ++ ((rd_T58 l0 x9_1).f1))) ++ t854)] (fun _ => True) (fun _ => False) rfl rfl ?aP (fun _ hk => hk.elim) ?aF ?aO ?aB ?aS ?aL ?_
             (case aP => exact rfl)
             (case aB => exact (by repeat (first | (with_reducible first | exact HB.out | apply below_alloc | apply pw_below_drewN | apply below_drew1 | refine below_set ?_ GE842.out) | exact HB.out)))
             (case aF => exact (fun _ _ => trivial))
             (case aO => exact (by (with_reducible repeat (first | apply Kd.R_alloc | apply Kd.R_drewN | apply Kd.R_drew)); exact HO_3.out))
             (case aS => exact (below_size (by repeat (first | (with_reducible first | exact HB.out | apply below_alloc | apply pw_below_drewN | apply below_drew1 | refine below_set ?_ GE842.out) | exact HB.out))))
             (case aL => have := LMc36.out; omega)
             intro v856 w41 ho hb hg hat
             rw [← Ny855.out] at ho
             have n0_ := Aside0.mk (blk_grown (g := gb842) (o := .cells #[.string ((rd_T58 l0 x9_1).f0), .string ((rd_T58 l0 x9_1).f1), .bool false, .bool ((rd_T58 l0 x9_1).f3)] 58 (0, 0)) (by (with_reducible repeat (first | refine blk_drewN ?_ _ | refine blk_drew ?_ | refine blk_alloc ?_ _)); exact BK842.out) hg (Kd.R_ne HO_3.out BK842.out (by decide)))
             have n1_ := Aside0.mk (hb)
             have n2_ := Aside0.mk (ho)
             clear BK842
             clear HB
             clear HO_3
             have BK842 := n0_
             have HB := n1_
             have HO857 := n2_
             clear n0_ n1_ n2_
             clear ho hb hg hat
             refine hK.out _ _ ⟨(blk_cell BK842.out 0).trans rfl, (blk_cell BK842.out 1).trans rfl, (blk_cell BK842.out 2).trans rfl, (blk_cell BK842.out 3).trans rfl⟩ (fun hHeld => ?_)
             clear hK K
             refine norm_ (a' := ?_) ?_ ?_
             rotate_left
             ·show Act.put _ (some 45) _ = _
              simp only [Act.put, List.setIfInBounds_toArray, List.set_cons_zero, List.set_cons_succ, i64_w, i32_w]
              rfl
             refine pure_ (i := 12) (N := some 3) (v := ?_) (a' := ?_) #[true, true, true, true, true, true, true, true, true, true, true, true, true] rfl rfl (any_of HT_.out (by kernel_rfl)) (fun _ _ _ h => h) (Or.inl ⟨by rfl, ?_⟩) ?_ ?_
             rotate_left
             ·intro w'
              go_simp
              with_reducible rfl
             rotate_left
             ·simp only [Act.put, List.setIfInBounds_toArray, List.set_cons_zero, List.set_cons_succ, i64_w, i32_w]
              rfl
             refine done_ (done_of HT_.out (by kernel_rfl)) ?_
             try go_wp2
             go_roundg k1
             case measure => have := HK1.out; omega
             case rel => exact ⟨(y855), (wrap64 (x9_1 + 1)), (by first | rfl | (simp; done) | (simp [*]; done) | (simp; exact isEmpty_bne _)), H', ⟨by have := HK1.out; omega⟩, ⟨by (with_reducible repeat (first | apply Kd.R_alloc | apply Kd.R_drewN | apply Kd.R_drew)); exact HO857.out⟩, ⟨by repeat (first | (with_reducible first | exact HB.out | apply below_alloc | apply pw_below_drewN | apply below_drew1 | refine below_set ?_ GE842.out) | exact HB.out)⟩⟩
            ·rw [if_neg c36] at H
             exact absurd H (by simp)
           ·rw [if_neg c35] at H
            exact absurd H (by simp)
          ·rw [if_neg c33] at H
           exact absurd H (by simp)
        ·rw [if_neg c7] at H
         have c7b0 : (((rd_T58 l0 x9_1).f0).toList == ((rd_T58 l0 x9_1).f1).toList) = false := beq_eq_false_iff_ne.mpr c7
         have c7b1 : (((rd_T58 l0 x9_1).f0).toList != ((rd_T58 l0 x9_1).f1).toList) = true := bne_iff_ne.mpr c7
         replace H := Option.bind_eq_some_iff.mp H
         obtain ⟨t858, A420, H⟩ := H
         replace H : (if t858.size + ((((rd_T58 l0 x9_1).f0) ++ (⟨#[44]⟩ : ByteArray)) ++ ((rd_T58 l0 x9_1).f1)).size ≤ 9223372036854775807 then ((span_mark.f ((rd_T58 l0 x9_1).f3) (⟨#[93]⟩ : ByteArray) (⟨#[41]⟩ : ByteArray)).bind fun t859 => (if (t858 ++ ((((rd_T58 l0 x9_1).f0) ++ (⟨#[44]⟩ : ByteArray)) ++ ((rd_T58 l0 x9_1).f1))).size + t859.size ≤ 9223372036854775807 then (if x3_1.length < 8796093022208 then (span_Text.l0 k1 (x3_1 ++ [(t858 ++ ((((rd_T58 l0 x9_1).f0) ++ (⟨#[44]⟩ : ByteArray)) ++ ((rd_T58 l0 x9_1).f1))) ++ t859]) l0 (l0.length : Int) (wrap64 (x9_1 + 1))) else (none)) else (none))) else (none)) = some r := H
         have A42 := Aside0.mk A420
         clear A420
         by_cases c43 : t858.size + ((((rd_T58 l0 x9_1).f0) ++ (⟨#[44]⟩ : ByteArray)) ++ ((rd_T58 l0 x9_1).f1)).size ≤ 9223372036854775807
         ·rw [if_pos c43] at H
          have c43b0 := eq_true c43
          have c43b1 : decide (t858.size + ((((rd_T58 l0 x9_1).f0) ++ (⟨#[44]⟩ : ByteArray)) ++ ((rd_T58 l0 x9_1).f1)).size ≤ 9223372036854775807) = true := decide_eq_true c43
          try have c43b2 : (9223372036854775807 < t858.size + ((((rd_T58 l0 x9_1).f0) ++ (⟨#[44]⟩ : ByteArray)) ++ ((rd_T58 l0 x9_1).f1)).size) = False := eq_false (Nat.not_lt.2 c43)
          have c43n : t858.size + ((((rd_T58 l0 x9_1).f0).size + 1) + ((rd_T58 l0 x9_1).f1).size) ≤ 9223372036854775807 := by have z_ := c43; simp only [ByteArray.size_append] at z_; exact z_
          have c43m : (9223372036854775807 < t858.size + ((((rd_T58 l0 x9_1).f0).size + 1) + ((rd_T58 l0 x9_1).f1).size)) = False := eq_false (Nat.not_lt.2 c43n)
          clear c43 c43b0 c43b1
          try clear c43b2
          replace H := Option.bind_eq_some_iff.mp H
          obtain ⟨t859, A440, H⟩ := H
          replace H : (if (t858 ++ ((((rd_T58 l0 x9_1).f0) ++ (⟨#[44]⟩ : ByteArray)) ++ ((rd_T58 l0 x9_1).f1))).size + t859.size ≤ 9223372036854775807 then (if x3_1.length < 8796093022208 then (span_Text.l0 k1 (x3_1 ++ [(t858 ++ ((((rd_T58 l0 x9_1).f0) ++ (⟨#[44]⟩ : ByteArray)) ++ ((rd_T58 l0 x9_1).f1))) ++ t859]) l0 (l0.length : Int) (wrap64 (x9_1 + 1))) else (none)) else (none)) = some r := H
          have A44 := Aside0.mk A440
          clear A440
          by_cases c45 : (t858 ++ ((((rd_T58 l0 x9_1).f0) ++ (⟨#[44]⟩ : ByteArray)) ++ ((rd_T58 l0 x9_1).f1))).size + t859.size ≤ 9223372036854775807
          ·rw [if_pos c45] at H
           have c45b0 := eq_true c45
           have c45b1 : decide ((t858 ++ ((((rd_T58 l0 x9_1).f0) ++ (⟨#[44]⟩ : ByteArray)) ++ ((rd_T58 l0 x9_1).f1))).size + t859.size ≤ 9223372036854775807) = true := decide_eq_true c45
           try have c45b2 : (9223372036854775807 < (t858 ++ ((((rd_T58 l0 x9_1).f0) ++ (⟨#[44]⟩ : ByteArray)) ++ ((rd_T58 l0 x9_1).f1))).size + t859.size) = False := eq_false (Nat.not_lt.2 c45)
           have c45n : (t858.size + ((((rd_T58 l0 x9_1).f0).size + 1) + ((rd_T58 l0 x9_1).f1).size)) + t859.size ≤ 9223372036854775807 := by have z_ := c45; simp only [ByteArray.size_append] at z_; exact z_
           have c45m : (9223372036854775807 < (t858.size + ((((rd_T58 l0 x9_1).f0).size + 1) + ((rd_T58 l0 x9_1).f1).size)) + t859.size) = False := eq_false (Nat.not_lt.2 c45n)
           clear c45 c45b0 c45b1
           try clear c45b2
           by_cases c46 : x3_1.length < 8796093022208
           ·rw [if_pos c46] at H
            have LMc46 := Aside0.mk c46
            clear c46
            obtain ⟨y860, hy860⟩ : ∃ y_ : List ByteArray, y_ = (x3_1 ++ [(t858 ++ ((((rd_T58 l0 x9_1).f0) ++ (⟨#[44]⟩ : ByteArray)) ++ ((rd_T58 l0 x9_1).f1))) ++ t859]) := ⟨_, rfl⟩
            replace H : (span_Text.l0 k1 y860 l0 (l0.length : Int) (wrap64 (x9_1 + 1))) = some r := by first | (rw [hy860]; with_reducible exact H) | (have H2_ := (Option.bind_some _ _).symm.trans H; rw [hy860]; with_reducible exact H2_) | (have H2_ := (Option.bind_some _ _).symm.trans H; with_reducible exact H2_) | with_reducible exact H | (rw [hy860]; exact H) | exact H
            have Ny860 := Aside0.mk hy860
            clear hy860
            have H' := Aside0.mk H
            clear H
            have p841 : 0 ≤ (x9_1 : Int) := of_decide_eq_true (by first | (with_reducible assumption) | assumption)
            have q841 : x9_1 < (l0.length : Int) := of_decide_eq_true (by first | (with_reducible assumption) | assumption)
            obtain ⟨ad841, e841, hx841_0, hx841_1, hx841_2, hx841_3⟩ := at_T58 HR0.out x9_1 p841 q841
            cases e841
            replace hx841_0 := (HB.out.cell (World.block_lt_of_cell? w _ hx841_0)).trans hx841_0
            replace hx841_1 := (HB.out.cell (World.block_lt_of_cell? w _ hx841_1)).trans hx841_1
            replace hx841_2 := (HB.out.cell (World.block_lt_of_cell? w _ hx841_2)).trans hx841_2
            replace hx841_3 := (HB.out.cell (World.block_lt_of_cell? w _ hx841_3)).trans hx841_3
            replace p841 := eq_true p841
            replace q841 := eq_true q841
            try go_wp2_with (first | ((with_reducible refine gate_dst (N := 5) rfl ?_); refine box_event ?hg (N := 5) ?hd (cs := #[.string (⟨#[]⟩ : ByteArray), .string (⟨#[]⟩ : ByteArray), .bool false, .bool false]) (t := 58) ?hr ?_; (case hd => rfl); (case hg => rfl); (case hr => first | (go_simp; done) | (go_simp; rfl)); intro gb842 hg w47 hbox hb; have n0_ := Aside0.mk (Kd.R_below (by (with_reducible repeat (first | apply Kd.R_alloc | apply Kd.R_drewN | apply Kd.R_drew)); exact HO_3.out) hb); have n1_ := Aside0.mk (below_step (by repeat (first | (with_reducible first | exact HB.out | apply below_alloc | apply pw_below_drewN | apply below_drew1) | exact HB.out)) hb); have n2_ := Aside0.mk (hbox); have n3_ := Aside0.mk ((by rw [hg]; exact (below_size (by repeat (first | (with_reducible first | exact HB.out | apply below_alloc | apply pw_below_drewN | apply below_drew1) | exact HB.out))) : w.heap.size ≤ gb842)); have n4_ := Aside0.mk ((by rw [hg]; exact (below_size (by repeat (first | (with_reducible first | exact HB.out | apply below_alloc | apply pw_below_drewN | apply below_drew1) | exact HB.out))) : w.heap.size ≤ gb842)); clear HO_3; clear HB; have HO_3 := n0_; have HB := n1_; have BK842 := n2_; have GW842 := n3_; have GE842 := n4_; clear n0_ n1_ n2_ n3_ n4_; clear hb hbox hg; have hcz48_0 : w47.cell? ⟨gb842, 0, none⟩ = some (.string (⟨#[]⟩ : ByteArray)) := (blk_cell BK842.out 0).trans rfl; have hcz48_1 : w47.cell? ⟨gb842, 1, none⟩ = some (.string (⟨#[]⟩ : ByteArray)) := (blk_cell BK842.out 1).trans rfl; have hcz48_2 : w47.cell? ⟨gb842, 2, none⟩ = some (.bool false) := (blk_cell BK842.out 2).trans rfl; have hcz48_3 : w47.cell? ⟨gb842, 3, none⟩ = some (.bool false) := (blk_cell BK842.out 3).trans rfl; have hfz48_0 := blk_frozen BK842.out 0; have hfz48_1 := blk_frozen BK842.out 1; have hfz48_2 := blk_frozen BK842.out 2; have hfz48_3 := blk_frozen BK842.out 3))
            have n0_ : Aside0 (Kd.R Kd.string 9 ((((w47.setCell ⟨gb842, 0, none⟩ (.string ((rd_T58 l0 x9_1).f0))).setCell ⟨gb842, 1, none⟩ (.string ((rd_T58 l0 x9_1).f1))).setCell ⟨gb842, 2, none⟩ (.bool ((rd_T58 l0 x9_1).f2))).setCell ⟨gb842, 3, none⟩ (.bool ((rd_T58 l0 x9_1).f3))) w.heap.size (fun _ => True) u3 x3_1) := ⟨by (with_reducible repeat (first | apply Kd.R_alloc | apply Kd.R_drewN | apply Kd.R_drew)); exact Kd.R_mono (Kd.R_far (p := ⟨gb842, 3, none⟩) (Kd.R_far (p := ⟨gb842, 2, none⟩) (Kd.R_far (p := ⟨gb842, 1, none⟩) (Kd.R_far (p := ⟨gb842, 0, none⟩) (Kd.R_types HO_3.out BK842.out (by decide)) (fun _ hk => hk.2) (.string ((rd_T58 l0 x9_1).f0))) (fun _ hk => hk.2) (.string ((rd_T58 l0 x9_1).f1))) (fun _ hk => hk.2) (.bool ((rd_T58 l0 x9_1).f2))) (fun _ hk => hk.2) (.bool ((rd_T58 l0 x9_1).f3))) (fun _ hk => trivial)⟩
            have n1_ : Aside0 (((((w47.setCell ⟨gb842, 0, none⟩ (.string ((rd_T58 l0 x9_1).f0))).setCell ⟨gb842, 1, none⟩ (.string ((rd_T58 l0 x9_1).f1))).setCell ⟨gb842, 2, none⟩ (.bool ((rd_T58 l0 x9_1).f2))).setCell ⟨gb842, 3, none⟩ (.bool ((rd_T58 l0 x9_1).f3))).heap[gb842]? = some (.cells #[.string ((rd_T58 l0 x9_1).f0), .string ((rd_T58 l0 x9_1).f1), .bool ((rd_T58 l0 x9_1).f2), .bool ((rd_T58 l0 x9_1).f3)] 58 (0, 0))) := ⟨by (with_reducible repeat (first | refine blk_drewN ?_ _ | refine blk_drew ?_ | refine blk_alloc ?_ _)); refine blk_put (cs := #[.string ((rd_T58 l0 x9_1).f0), .string ((rd_T58 l0 x9_1).f1), .bool ((rd_T58 l0 x9_1).f2), .bool false]) ?_ 3 _ rfl; (with_reducible repeat (first | refine blk_drewN ?_ _ | refine blk_drew ?_ | refine blk_alloc ?_ _)); refine blk_put (cs := #[.string ((rd_T58 l0 x9_1).f0), .string ((rd_T58 l0 x9_1).f1), .bool false, .bool false]) ?_ 2 _ rfl; (with_reducible repeat (first | refine blk_drewN ?_ _ | refine blk_drew ?_ | refine blk_alloc ?_ _)); refine blk_put (cs := #[.string ((rd_T58 l0 x9_1).f0), .string (⟨#[]⟩ : ByteArray), .bool false, .bool false]) ?_ 1 _ rfl; (with_reducible repeat (first | refine blk_drewN ?_ _ | refine blk_drew ?_ | refine blk_alloc ?_ _)); refine blk_put (cs := #[.string (⟨#[]⟩ : ByteArray), .string (⟨#[]⟩ : ByteArray), .bool false, .bool false]) ?_ 0 _ rfl; (with_reducible repeat (first | refine blk_drewN ?_ _ | refine blk_drew ?_ | refine blk_alloc ?_ _)); exact BK842.out⟩
            have n2_ : Aside0 (Below w.heap.size w ((((w47.setCell ⟨gb842, 0, none⟩ (.string ((rd_T58 l0 x9_1).f0))).setCell ⟨gb842, 1, none⟩ (.string ((rd_T58 l0 x9_1).f1))).setCell ⟨gb842, 2, none⟩ (.bool ((rd_T58 l0 x9_1).f2))).setCell ⟨gb842, 3, none⟩ (.bool ((rd_T58 l0 x9_1).f3)))) := ⟨by repeat (first | (with_reducible first | exact HB.out | apply below_alloc | apply pw_below_drewN | apply below_drew1 | refine below_set ?_ GE842.out) | exact HB.out)⟩
            (try clear HO_3)
            (try clear BK842)
            (try clear HB)
            generalize ((((w47.setCell ⟨gb842, 0, none⟩ (.string ((rd_T58 l0 x9_1).f0))).setCell ⟨gb842, 1, none⟩ (.string ((rd_T58 l0 x9_1).f1))).setCell ⟨gb842, 2, none⟩ (.bool ((rd_T58 l0 x9_1).f2))).setCell ⟨gb842, 3, none⟩ (.bool ((rd_T58 l0 x9_1).f3))) = w49 at n0_ n1_ n2_ ⊢
            have HO_3 := n0_
            have BK842 := n1_
            have HB := n2_
            clear n0_ n1_ n2_
            have n0_ := Aside0.mk (Kd.R_drew HO_3.out)
            have n1_ := Aside0.mk (blk_drew BK842.out)
            have n2_ := Aside0.mk (below_drew1 HB.out)
            clear HO_3
            clear BK842
            clear HB
            have HO_3 := n0_
            have BK842 := n1_
            have HB := n2_
            clear n0_ n1_ n2_
            refine start_ (n := 13) (S := fun w' => w'.cell? ⟨gb842, 0, none⟩ = some (.string ((rd_T58 l0 x9_1).f0)) ∧ w'.cell? ⟨gb842, 1, none⟩ = some (.string ((rd_T58 l0 x9_1).f1)) ∧ w'.cell? ⟨gb842, 2, none⟩ = some (.bool ((rd_T58 l0 x9_1).f2)) ∧ w'.cell? ⟨gb842, 3, none⟩ = some (.bool ((rd_T58 l0 x9_1).f3))) (ds := []) #[false, false, false, false, false, false, false, false, false, false, false, false, false] (by kernel_rfl) rfl rfl ⟨(blk_cell BK842.out 0).trans rfl, (blk_cell BK842.out 1).trans rfl, (blk_cell BK842.out 2).trans rfl, (blk_cell BK842.out 3).trans rfl⟩ (fun hHeld => ?_); refine with_tabW span_Text.tab8 span_Text.bits8 (fun HT_ HW_ => ?_)
            generalize w49.drew = w50 at HO_3 BK842 HB hHeld ⊢
            refine pure_ (i := 0) (N := some 34) (v := ?_) (a' := ?_) #[true, false, false, false, false, false, false, false, false, false, false, false, false] rfl rfl (any_of HT_.out (by kernel_rfl)) (fun _ _ _ h => h) (Or.inl ⟨by rfl, ?_⟩) ?_ ?_
            rotate_left
            ·intro w'
             go_simp
             with_reducible rfl
            rotate_left
            ·simp only [Act.put, List.setIfInBounds_toArray, List.set_cons_zero, List.set_cons_succ, i64_w, i32_w]
             rfl
            refine pure_ (i := 1) (N := some 35) (v := ?_) (a' := ?_) #[true, true, false, false, false, false, false, false, false, false, false, false, false] rfl rfl (any_of HT_.out (by kernel_rfl)) (fun _ _ _ h => h) (Or.inl ⟨by rfl, ?_⟩) ?_ ?_
            rotate_left
            ·intro w'
             go_simp
             with_reducible rfl
            rotate_left
            ·simp only [Act.put, List.setIfInBounds_toArray, List.set_cons_zero, List.set_cons_succ, i64_w, i32_w]
             rfl
            refine pure_ (i := 4) (N := some 38) (v := ?_) (a' := ?_) #[true, true, false, false, true, false, false, false, false, false, false, false, false] rfl rfl (any_of HT_.out (by kernel_rfl)) (fun _ _ _ h => h) (Or.inl ⟨by rfl, ?_⟩) ?_ ?_
            rotate_left
            ·intro w'
             go_simp
             with_reducible rfl
            rotate_left
            ·simp only [Act.put, List.setIfInBounds_toArray, List.set_cons_zero, List.set_cons_succ, i64_w, i32_w]
             rfl
            refine pure_ (i := 6) (N := some 40) (v := ?_) (a' := ?_) #[true, true, false, false, true, false, true, false, false, false, false, false, false] rfl rfl (any_of HT_.out (by kernel_rfl)) (fun _ _ _ h => h) (Or.inl ⟨by rfl, ?_⟩) ?_ ?_
            rotate_left
            ·intro w'
             go_simp
             with_reducible rfl
            rotate_left
            ·simp only [Act.put, List.setIfInBounds_toArray, List.set_cons_zero, List.set_cons_succ, i64_w, i32_w]
             rfl
            refine take_ (i := 2) (N := some 36) (v := ?_) (a' := ?_) #[true, true, true, false, true, false, true, false, false, false, false, false, false] rfl rfl (take_ofW HT_.out HW_.out (by kernel_rfl)) (fun _ _ _ h => h) (Or.inl ⟨by rfl, ?_⟩) hHeld ?_ ?_
            rotate_left
            ·rintro w' ⟨s0, s1, s2, s3⟩
             go_simp
             with_reducible rfl
            rotate_left
            ·simp only [Act.put, List.setIfInBounds_toArray, List.set_cons_zero, List.set_cons_succ, i64_w, i32_w]
             rfl
            refine take_ (i := 7) (N := some 41) (v := ?_) (a' := ?_) #[true, true, true, false, true, false, true, true, false, false, false, false, false] rfl rfl (take_ofW HT_.out HW_.out (by kernel_rfl)) (fun _ _ _ h => h) (Or.inl ⟨by rfl, ?_⟩) hHeld ?_ ?_
            rotate_left
            ·rintro w' ⟨s0, s1, s2, s3⟩
             go_simp
             with_reducible rfl
            rotate_left
            ·simp only [Act.put, List.setIfInBounds_toArray, List.set_cons_zero, List.set_cons_succ, i64_w, i32_w]
             rfl
            refine one_ (i := 3) (N := some 37) #[true, true, true, true, true, false, true, true, false, false, false, false, false] rfl rfl (one_of HT_.out (by kernel_rfl)) (by decide) (fun K hK => ?_)
            refine goes_ Tryd.func98 (by kernel_rfl) rfl #[.bool ((rd_T58 l0 x9_1).f2), .string (⟨#[91]⟩ : ByteArray), .string (⟨#[40]⟩ : ByteArray)] (by rfl) rfl rfl (by (try simp only [List.map_toArray, List.map_cons, List.map_nil]); first | done | rfl | (simp only [List.length_drop, List.length_take]; rfl)) ?_
            with_reducible refine (span_mark.calls ((rd_T58 l0 x9_1).f2) (⟨#[91]⟩ : ByteArray) (⟨#[40]⟩ : ByteArray) t858 _ ?side1 A42.out).mono ?_
            (case side1 => exact Glob.step HG.out (by repeat (first | (with_reducible first | exact HB.out | apply below_alloc | apply pw_below_drewN | apply below_drew1 | refine below_set ?_ GE842.out) | exact HB.out)))
            rintro e w' ⟨rfl, ⟨nd, rfl⟩⟩
            refine ⟨_, rfl, ?_⟩
            refine hK.out _ _ ⟨(blk_cell BK842.out 0).trans rfl, (blk_cell BK842.out 1).trans rfl, (blk_cell BK842.out 2).trans rfl, (blk_cell BK842.out 3).trans rfl⟩ (fun hHeld => ?_)
            clear hK K
            refine norm_ (a' := ?_) ?_ ?_
            rotate_left
            ·show Act.put _ (some 37) _ = _
             simp only [Act.put, List.setIfInBounds_toArray, List.set_cons_zero, List.set_cons_succ, i64_w, i32_w]
             rfl
            refine pure_ (i := 5) (N := some 39) (v := ?_) (a' := ?_) #[true, true, true, true, true, true, true, true, false, false, false, false, false] rfl rfl (any_of HT_.out (by kernel_rfl)) (fun _ _ _ h => h) (Or.inl ⟨by rfl, ?_⟩) ?_ ?_
            rotate_left
            ·intro w'
             go_simp
             with_reducible rfl
            rotate_left
            ·simp only [Act.put, List.setIfInBounds_toArray, List.set_cons_zero, List.set_cons_succ, i64_w, i32_w]
             rfl
            refine one_ (i := 8) (N := some 42) #[true, true, true, true, true, true, true, true, true, false, false, false, false] rfl rfl (one_of HT_.out (by kernel_rfl)) (by decide) (fun K hK => ?_)
            refine goes_ Tryd.func98 (by kernel_rfl) rfl #[.bool ((rd_T58 l0 x9_1).f3), .string (⟨#[93]⟩ : ByteArray), .string (⟨#[41]⟩ : ByteArray)] (by rfl) rfl rfl (by (try simp only [List.map_toArray, List.map_cons, List.map_nil]); first | done | rfl | (simp only [List.length_drop, List.length_take]; rfl)) ?_
            with_reducible refine (span_mark.calls ((rd_T58 l0 x9_1).f3) (⟨#[93]⟩ : ByteArray) (⟨#[41]⟩ : ByteArray) t859 _ ?side1 A44.out).mono ?_
            (case side1 => exact Glob.step HG.out (by repeat (first | (with_reducible first | exact HB.out | apply below_alloc | apply pw_below_drewN | apply below_drew1 | refine below_set ?_ GE842.out) | exact HB.out)))
            rintro e w' ⟨rfl, ⟨nd, rfl⟩⟩
            refine ⟨_, rfl, ?_⟩
            refine hK.out _ _ ⟨(blk_cell BK842.out 0).trans rfl, (blk_cell BK842.out 1).trans rfl, (blk_cell BK842.out 2).trans rfl, (blk_cell BK842.out 3).trans rfl⟩ (fun hHeld => ?_)
            clear hK K
            refine norm_ (a' := ?_) ?_ ?_
            rotate_left
            ·show Act.put _ (some 42) _ = _
             simp only [Act.put, List.setIfInBounds_toArray, List.set_cons_zero, List.set_cons_succ, i64_w, i32_w]
             rfl
            refine pure_ (i := 9) (N := some 43) (v := ?_) (a' := ?_) #[true, true, true, true, true, true, true, true, true, true, false, false, false] rfl rfl (any_of HT_.out (by kernel_rfl)) (fun _ _ _ h => h) (Or.inl ⟨by rfl, ?_⟩) ?_ ?_
            rotate_left
            ·intro w'
             go_simp
             with_reducible rfl
            rotate_left
            ·simp only [Act.put, List.setIfInBounds_toArray, List.set_cons_zero, List.set_cons_succ, i64_w, i32_w]
             rfl
            refine one_ (i := 10) (N := some 44) #[true, true, true, true, true, true, true, true, true, true, true, false, false] rfl rfl (one_of HT_.out (by kernel_rfl)) (by decide) (fun K hK => ?_)
            refine value_ (w1 := ?_) (v := ?_) (by rfl) rfl ?_ ?_
            rotate_left 2
            ·go_simp
             constructor
             ·rfl
             ·rfl
            refine hK.out _ _ ⟨(blk_cell (blk_alloc BK842.out _) 0).trans rfl, (blk_cell (blk_alloc BK842.out _) 1).trans rfl, (blk_cell (blk_alloc BK842.out _) 2).trans rfl, (blk_cell (blk_alloc BK842.out _) 3).trans rfl⟩ (fun hHeld => ?_)
            clear hK K
            refine norm_ (a' := ?_) ?_ ?_
            rotate_left
            ·show Act.put _ (some 44) _ = _
             simp only [Act.put, List.setIfInBounds_toArray, List.set_cons_zero, List.set_cons_succ, i64_w, i32_w]
             rfl
            refine one_ (i := 11) (N := some 45) #[true, true, true, true, true, true, true, true, true, true, true, true, false] rfl rfl (one_of HT_.out (by kernel_rfl)) (by decide) (fun K hK => ?_)
            refine Kd.R_append_step Kd.string (w0 := w) w.heap.size (by rfl) (.tmp 34) (.tmp 44) 43 9 (.string ⟨#[]⟩) 16 rfl Tryd.underlying43 info9 rfl (by decide) (by omega) u3 x3_1 ((t858 ++ ((((rd_T58 l0 x9_1).f0) ++ (⟨#[44]⟩ : ByteArray)) ++ ((rd_T58 l0 x9_1).f1))) ++ t859) [.string ((t858 ++ ((((rd_T58 l0 x9_1).f0) ++ (⟨#[44]⟩ : ByteArray)) ++ ((rd_T58 l0 x9_1).f1))) ++ t859)] (fun _ => True) (fun _ => False) rfl rfl ?aP (fun _ hk => hk.elim) ?aF ?aO ?aB ?aS ?aL ?_
            (case aP => exact rfl)
            (case aB => exact (by repeat (first | (with_reducible first | exact HB.out | apply below_alloc | apply pw_below_drewN | apply below_drew1 | refine below_set ?_ GE842.out) | exact HB.out)))
            (case aF => exact (fun _ _ => trivial))
            (case aO => exact (by (with_reducible repeat (first | apply Kd.R_alloc | apply Kd.R_drewN | apply Kd.R_drew)); exact HO_3.out))
            (case aS => exact (below_size (by repeat (first | (with_reducible first | exact HB.out | apply below_alloc | apply pw_below_drewN | apply below_drew1 | refine below_set ?_ GE842.out) | exact HB.out))))
            (case aL => have := LMc46.out; omega)
            intro v861 w51 ho hb hg hat
            rw [← Ny860.out] at ho
            have n0_ := Aside0.mk (blk_grown (g := gb842) (o := .cells #[.string ((rd_T58 l0 x9_1).f0), .string ((rd_T58 l0 x9_1).f1), .bool ((rd_T58 l0 x9_1).f2), .bool ((rd_T58 l0 x9_1).f3)] 58 (0, 0)) (by (with_reducible repeat (first | refine blk_drewN ?_ _ | refine blk_drew ?_ | refine blk_alloc ?_ _)); exact BK842.out) hg (Kd.R_ne HO_3.out BK842.out (by decide)))
            have n1_ := Aside0.mk (hb)
            have n2_ := Aside0.mk (ho)
            clear BK842
            clear HB
            clear HO_3
            have BK842 := n0_
            have HB := n1_
            have HO862 := n2_
            clear n0_ n1_ n2_
            clear ho hb hg hat
            refine hK.out _ _ ⟨(blk_cell BK842.out 0).trans rfl, (blk_cell BK842.out 1).trans rfl, (blk_cell BK842.out 2).trans rfl, (blk_cell BK842.out 3).trans rfl⟩ (fun hHeld => ?_)
            clear hK K
            refine norm_ (a' := ?_) ?_ ?_
            rotate_left
            ·show Act.put _ (some 45) _ = _
             simp only [Act.put, List.setIfInBounds_toArray, List.set_cons_zero, List.set_cons_succ, i64_w, i32_w]
             rfl
            refine pure_ (i := 12) (N := some 3) (v := ?_) (a' := ?_) #[true, true, true, true, true, true, true, true, true, true, true, true, true] rfl rfl (any_of HT_.out (by kernel_rfl)) (fun _ _ _ h => h) (Or.inl ⟨by rfl, ?_⟩) ?_ ?_
            rotate_left
            ·intro w'
             go_simp
             with_reducible rfl
            rotate_left
            ·simp only [Act.put, List.setIfInBounds_toArray, List.set_cons_zero, List.set_cons_succ, i64_w, i32_w]
             rfl
            refine done_ (done_of HT_.out (by kernel_rfl)) ?_
            try go_wp2
            go_roundg k1
            case measure => have := HK1.out; omega
            case rel => exact ⟨(y860), (wrap64 (x9_1 + 1)), (by first | rfl | (simp; done) | (simp [*]; done) | (simp; exact isEmpty_bne _)), H', ⟨by have := HK1.out; omega⟩, ⟨by (with_reducible repeat (first | apply Kd.R_alloc | apply Kd.R_drewN | apply Kd.R_drew)); exact HO862.out⟩, ⟨by repeat (first | (with_reducible first | exact HB.out | apply below_alloc | apply pw_below_drewN | apply below_drew1 | refine below_set ?_ GE842.out) | exact HB.out)⟩⟩
           ·rw [if_neg c46] at H
            exact absurd H (by simp)
          ·rw [if_neg c45] at H
           exact absurd H (by simp)
         ·rw [if_neg c43] at H
          exact absurd H (by simp)
       ·rw [if_neg c6] at H
        exact absurd H (by simp)
      ·rw [if_neg c5] at H
       exact absurd H (by simp)
     ·rw [if_neg c4] at H
      exact absurd H (by simp)
    ·rw [if_neg c3] at H
     exact absurd H (by simp)
   ·rw [if_neg c2] at H
    have c2b0 : decide (x9_1 < (l0.length : Int)) = false := decide_eq_false c2
    clear c2
    replace H := Option.bind_eq_some_iff.mp H
    obtain ⟨t863, A520, H⟩ := H
    replace H : (some t863) = some r := H
    have A52 := Aside0.mk A520
    clear A520
    obtain rfl := Option.some.inj H
    obtain ⟨Ao53, co53, eo53⟩ := Kd.R_slice HO_3.out
    subst eo53
    go_wp2_with (first | ((with_reducible refine gate_callee (f := 99) rfl ?_); refine goesL_ (some 48) rfl rfl Tryd.func99 (by kernel_rfl) rfl #[.slice Ao53 x3_1.length co53, .string (⟨#[44]⟩ : ByteArray)] rfl (by (try simp only [List.map_toArray, List.map_cons, List.map_nil]); first | done | rfl | (simp only [List.length_drop, List.length_take]; rfl)) ?_; (with_reducible refine (strings_Join.calls _ _ x3_1 (⟨#[44]⟩ : ByteArray) t863 _ ?side1 ?side2 ?side3 A52.out).mono ?_); (case side1 => repeat (first | exact (Kd.R_reads' HO_3.out).2.2 | (with_reducible refine Kd.C_alloc ?_ _) | (with_reducible refine Kd.C_drewN ?_ _) | (with_reducible refine Kd.C_drew ?_))); (case side2 => exact (Kd.R_reads' HO_3.out).2.1); (case side3 => exact Glob.step HG.out (by repeat (first | (with_reducible first | exact HB.out | apply below_alloc | apply pw_below_drewN | apply below_drew1) | exact HB.out))); rintro e w54 ⟨rfl, hb⟩; refine ⟨_, rfl, ?_⟩; have n0_ := Aside0.mk (Kd.R_below (by (with_reducible repeat (first | apply Kd.R_alloc | apply Kd.R_drewN | apply Kd.R_drew)); exact HO_3.out) hb); have n1_ := Aside0.mk (below_step (by repeat (first | (with_reducible first | exact HB.out | apply below_alloc | apply pw_below_drewN | apply below_drew1) | exact HB.out)) hb); clear HO_3; clear HB; have HO_3 := n0_; have HB := n1_; clear n0_ n1_; (try clear hb); (try clear hb2); (try clear hk); (try clear hi)))
    go_ret
    exact ⟨by first | rfl | (simp [errW_none, errW_some] <;> rfl) | (simp [*, errW_none, errW_some] <;> rfl), by repeat (first | (with_reducible first | exact HB.out | apply below_alloc | apply pw_below_drewN | apply below_drew1) | exact HB.out)⟩

end Go.Proofs.YtgdjfcmmpjcaaaaDoor.Q

-- Printed by this session's wip/np.py over the kit's print program. Not trusted: Lean checks it.
namespace Go.Proofs.YtgdjfcmmpjcaaaaDoor.Q
open Go.RowKit Go.Proofs.YtgdjfcmmpjcaaaaDoorW.PrintWords Go.Proofs.YtgdjfcmmpjcaaaaDoorW.PrintLast Go.Proofs.YtgdjfcmmpjcaaaaDoorW.Own Go.Proofs.YtgdjfcmmpjcaaaaDoorW.PrintMore
attribute [local go_sem] max2_int min2_int max_two min_two max_three min_three max_four min_four
set_option linter.unusedVariables false
set_option linter.unusedSimpArgs false

/-! ### newellaw07_awake: function 57 -/
def newellaw07_awake.f (k : Nat)  : Option (Bool) := (span_Parse.f k (⟨#[91, 49, 44, 50, 41]⟩ : ByteArray)).bind fun bt864 => (if bt864.2 = 0 then (if (bt864.1.length : Int) = 1 then ((span_Holds.f k bt864.1 (⟨#[49, 46, 53]⟩ : ByteArray)).bind fun t868 => (if t868 = true then ((span_Is.f (⟨#[40]⟩ : ByteArray)).bind fun t869 => (if t869 = true then ((span_Text.f k bt864.1).bind fun t870 => (some (t870.toList == ([91, 49, 44, 50, 41] : List UInt8)))) else (some false))) else (some false))) else (some false)) else (some false))
theorem newellaw07_awake.mono : ∀ k, LeO (newellaw07_awake.f k ) (newellaw07_awake.f (k + 1) ) := by
 intro  k
 unfold newellaw07_awake.f
 repeat' first
  | (with_reducible exact span_Holds.mono _ _ _)
  | (with_reducible exact span_Parse.mono _ _)
  | (with_reducible exact span_Text.mono _ _)
  | (with_reducible exact LeO.refl _)
  | (with_reducible exact LeO.none _)
  | (with_reducible refine LeO.ite ?_ ?_)
  | (with_reducible refine LeO.bind ?_ (fun _ => ?_))
  | exact span_Holds.mono _ _ _
  | exact span_Parse.mono _ _
  | exact span_Text.mono _ _
  | exact LeO.none _
  | refine LeO.ite ?_ ?_
  | refine LeO.bind ?_ (fun _ => ?_)
set_option maxHeartbeats 8000000 in
set_option maxRecDepth 100000 in
theorem newellaw07_awake.calls (k : Nat)  (r : Bool) (w : World) (hG : Glob w) (h : newellaw07_awake.f k  = some r) :
 Calls Tryd.prog 57 #[] w fun e w' => e = .returned (.bool r) ∧ Below w.heap.size w w' := by
 have HG := Aside0.mk hG
 clear hG
 have HB := Aside0.mk (Below.refl w.heap.size w)
 have H : ((span_Parse.f k (⟨#[91, 49, 44, 50, 41]⟩ : ByteArray)).bind fun bt864 => (if bt864.2 = 0 then (if (bt864.1.length : Int) = 1 then ((span_Holds.f k bt864.1 (⟨#[49, 46, 53]⟩ : ByteArray)).bind fun t868 => (if t868 = true then ((span_Is.f (⟨#[40]⟩ : ByteArray)).bind fun t869 => (if t869 = true then ((span_Text.f k bt864.1).bind fun t870 => (some (t870.toList == ([91, 49, 44, 50, 41] : List UInt8)))) else (some false))) else (some false))) else (some false)) else (some false))) = some r := h
 clear h
 replace H := Option.bind_eq_some_iff.mp H
 obtain ⟨⟨t864, t865⟩, A10, H⟩ := H
 replace H : (if t865 = 0 then (if (t864.length : Int) = 1 then ((span_Holds.f k t864 (⟨#[49, 46, 53]⟩ : ByteArray)).bind fun t868 => (if t868 = true then ((span_Is.f (⟨#[40]⟩ : ByteArray)).bind fun t869 => (if t869 = true then ((span_Text.f k t864).bind fun t870 => (some (t870.toList == ([91, 49, 44, 50, 41] : List UInt8)))) else (some false))) else (some false))) else (some false)) else (some false)) = some r := H
 have A1 := Aside0.mk A10
 clear A10
 by_cases c2 : t865 = 0
 ·rw [if_pos c2] at H
  have c2b0 : (t865 == 0) = true := beq_iff_eq.mpr c2
  have c2b1 : (t865 != 0) = false := bne_eq_false_iff_eq.mpr c2
  clear c2
  by_cases c3 : (t864.length : Int) = 1
  ·rw [if_pos c3] at H
   have c3b0 : ((t864.length : Int) == 1) = true := beq_iff_eq.mpr c3
   have c3b1 : ((t864.length : Int) != 1) = false := bne_eq_false_iff_eq.mpr c3
   clear c3
   replace H := Option.bind_eq_some_iff.mp H
   obtain ⟨t868, A40, H⟩ := H
   replace H : (if t868 = true then ((span_Is.f (⟨#[40]⟩ : ByteArray)).bind fun t869 => (if t869 = true then ((span_Text.f k t864).bind fun t870 => (some (t870.toList == ([91, 49, 44, 50, 41] : List UInt8)))) else (some false))) else (some false)) = some r := H
   have A4 := Aside0.mk A40
   clear A40
   by_cases c5 : t868 = true
   ·subst c5
    have H1 : ((span_Is.f (⟨#[40]⟩ : ByteArray)).bind fun t869 => (if t869 = true then ((span_Text.f k t864).bind fun t870 => (some (t870.toList == ([91, 49, 44, 50, 41] : List UInt8)))) else (some false))) = some r := by rw [if_pos rfl] at H; exact H
    clear H
    have H := H1
    clear H1
    replace H := Option.bind_eq_some_iff.mp H
    obtain ⟨t869, A60, H⟩ := H
    replace H : (if t869 = true then ((span_Text.f k t864).bind fun t870 => (some (t870.toList == ([91, 49, 44, 50, 41] : List UInt8)))) else (some false)) = some r := H
    have A6 := Aside0.mk A60
    clear A60
    by_cases c7 : t869 = true
    ·subst c7
     have H1 : ((span_Text.f k t864).bind fun t870 => (some (t870.toList == ([91, 49, 44, 50, 41] : List UInt8)))) = some r := by rw [if_pos rfl] at H; exact H
     clear H
     have H := H1
     clear H1
     replace H := Option.bind_eq_some_iff.mp H
     obtain ⟨t870, A80, H⟩ := H
     replace H : (some (t870.toList == ([91, 49, 44, 50, 41] : List UInt8))) = some r := H
     have A8 := Aside0.mk A80
     clear A80
     obtain rfl := Option.some.inj H
     go_enter Tryd.func57, Tryd.ntmps57
     go_wp2_with (first | ((with_reducible refine gate_callee (f := 56) rfl ?_); refine goesL_ (some 4) rfl rfl Tryd.func56 (by kernel_rfl) rfl #[.string (⟨#[91, 49, 44, 50, 41]⟩ : ByteArray)] rfl (by (try simp only [List.map_toArray, List.map_cons, List.map_nil]); first | done | rfl | (simp only [List.length_drop, List.length_take]; rfl)) ?_; (with_reducible refine (span_Parse.calls k (⟨#[91, 49, 44, 50, 41]⟩ : ByteArray) t864 t865 _ ?side1 A1.out).mono ?_); (case side1 => exact Glob.step HG.out (by repeat (first | (with_reducible first | exact HB.out | apply below_alloc | apply pw_below_drewN | apply below_drew1) | exact HB.out))); rintro e w9 ⟨v866, rfl, ho0, hb⟩; refine ⟨_, rfl, ?_⟩; have n0_ := Aside0.mk (Kd.R_lower ho0 (below_size (by repeat (first | (with_reducible first | exact HB.out | apply below_alloc | apply pw_below_drewN | apply below_drew1) | exact HB.out)))); have n1_ := Aside0.mk (below_step (by repeat (first | (with_reducible first | exact HB.out | apply below_alloc | apply pw_below_drewN | apply below_drew1) | exact HB.out)) hb); clear HB; have HO867 := n0_; have HB := n1_; clear n0_ n1_; (try clear hb); (try clear hb2); (try clear hk); (try clear hi); (try clear ho0); obtain ⟨Ao10, co10, eo10⟩ := Kd.R_slice HO867.out; subst eo10) | (go_at_call 58; (with_reducible refine (span_Holds.calls k _ _ t864 (⟨#[49, 46, 53]⟩ : ByteArray) true _ ?side1 ?side2 ?side3 A4.out).mono ?_); (case side1 => repeat (first | exact (Kd.R_reads' HO867.out).2.2 | (with_reducible refine Kd.C_alloc ?_ _) | (with_reducible refine Kd.C_drewN ?_ _) | (with_reducible refine Kd.C_drew ?_))); (case side2 => exact (Kd.R_reads' HO867.out).2.1); (case side3 => exact Glob.step HG.out (by repeat (first | (with_reducible first | exact HB.out | apply below_alloc | apply pw_below_drewN | apply below_drew1) | exact HB.out))); rintro e w11 ⟨rfl, hb⟩; have n0_ := Aside0.mk (Kd.R_below (by (with_reducible repeat (first | apply Kd.R_alloc | apply Kd.R_drewN | apply Kd.R_drew)); exact HO867.out) hb); have n1_ := Aside0.mk (below_step (by repeat (first | (with_reducible first | exact HB.out | apply below_alloc | apply pw_below_drewN | apply below_drew1) | exact HB.out)) hb); clear HO867; clear HB; have HO867 := n0_; have HB := n1_; clear n0_ n1_; (try clear hb); (try clear hb2); (try clear hk); (try clear hi)) | (go_at_call 86; (with_reducible refine (span_Is.calls (⟨#[40]⟩ : ByteArray) true _ ?side1 A6.out).mono ?_); (case side1 => exact Glob.step HG.out (by repeat (first | (with_reducible first | exact HB.out | apply below_alloc | apply pw_below_drewN | apply below_drew1) | exact HB.out))); rintro e w' ⟨rfl, ⟨nd, rfl⟩⟩) | (go_at_call 59; (with_reducible refine (span_Text.calls k _ _ t864 t870 _ ?side1 ?side2 ?side3 A8.out).mono ?_); (case side1 => repeat (first | exact (Kd.R_reads' HO867.out).2.2 | (with_reducible refine Kd.C_alloc ?_ _) | (with_reducible refine Kd.C_drewN ?_ _) | (with_reducible refine Kd.C_drew ?_))); (case side2 => exact (Kd.R_reads' HO867.out).2.1); (case side3 => exact Glob.step HG.out (by repeat (first | (with_reducible first | exact HB.out | apply below_alloc | apply pw_below_drewN | apply below_drew1) | exact HB.out))); rintro e w12 ⟨rfl, hb⟩; have n0_ := Aside0.mk (Kd.R_below (by (with_reducible repeat (first | apply Kd.R_alloc | apply Kd.R_drewN | apply Kd.R_drew)); exact HO867.out) hb); have n1_ := Aside0.mk (below_step (by repeat (first | (with_reducible first | exact HB.out | apply below_alloc | apply pw_below_drewN | apply below_drew1) | exact HB.out)) hb); clear HO867; clear HB; have HO867 := n0_; have HB := n1_; clear n0_ n1_; (try clear hb); (try clear hb2); (try clear hk); (try clear hi)))
     go_ret
     exact ⟨by first | rfl | (simp [errW_none, errW_some] <;> rfl) | (simp [*, errW_none, errW_some] <;> rfl), by repeat (first | (with_reducible first | exact HB.out | apply below_alloc | apply pw_below_drewN | apply below_drew1) | exact HB.out)⟩
    ·replace c7 := Bool.eq_false_iff.mpr c7
     subst c7
     have H1 : (some false) = some r := by rw [if_neg (show ¬ (false = true) by decide)] at H; exact H
     clear H
     have H := H1
     clear H1
     obtain rfl := Option.some.inj H
     go_enter Tryd.func57, Tryd.ntmps57
     go_wp2_with (first | ((with_reducible refine gate_callee (f := 56) rfl ?_); refine goesL_ (some 4) rfl rfl Tryd.func56 (by kernel_rfl) rfl #[.string (⟨#[91, 49, 44, 50, 41]⟩ : ByteArray)] rfl (by (try simp only [List.map_toArray, List.map_cons, List.map_nil]); first | done | rfl | (simp only [List.length_drop, List.length_take]; rfl)) ?_; (with_reducible refine (span_Parse.calls k (⟨#[91, 49, 44, 50, 41]⟩ : ByteArray) t864 t865 _ ?side1 A1.out).mono ?_); (case side1 => exact Glob.step HG.out (by repeat (first | (with_reducible first | exact HB.out | apply below_alloc | apply pw_below_drewN | apply below_drew1) | exact HB.out))); rintro e w13 ⟨v866, rfl, ho0, hb⟩; refine ⟨_, rfl, ?_⟩; have n0_ := Aside0.mk (Kd.R_lower ho0 (below_size (by repeat (first | (with_reducible first | exact HB.out | apply below_alloc | apply pw_below_drewN | apply below_drew1) | exact HB.out)))); have n1_ := Aside0.mk (below_step (by repeat (first | (with_reducible first | exact HB.out | apply below_alloc | apply pw_below_drewN | apply below_drew1) | exact HB.out)) hb); clear HB; have HO867 := n0_; have HB := n1_; clear n0_ n1_; (try clear hb); (try clear hb2); (try clear hk); (try clear hi); (try clear ho0); obtain ⟨Ao14, co14, eo14⟩ := Kd.R_slice HO867.out; subst eo14) | (go_at_call 58; (with_reducible refine (span_Holds.calls k _ _ t864 (⟨#[49, 46, 53]⟩ : ByteArray) true _ ?side1 ?side2 ?side3 A4.out).mono ?_); (case side1 => repeat (first | exact (Kd.R_reads' HO867.out).2.2 | (with_reducible refine Kd.C_alloc ?_ _) | (with_reducible refine Kd.C_drewN ?_ _) | (with_reducible refine Kd.C_drew ?_))); (case side2 => exact (Kd.R_reads' HO867.out).2.1); (case side3 => exact Glob.step HG.out (by repeat (first | (with_reducible first | exact HB.out | apply below_alloc | apply pw_below_drewN | apply below_drew1) | exact HB.out))); rintro e w15 ⟨rfl, hb⟩; have n0_ := Aside0.mk (Kd.R_below (by (with_reducible repeat (first | apply Kd.R_alloc | apply Kd.R_drewN | apply Kd.R_drew)); exact HO867.out) hb); have n1_ := Aside0.mk (below_step (by repeat (first | (with_reducible first | exact HB.out | apply below_alloc | apply pw_below_drewN | apply below_drew1) | exact HB.out)) hb); clear HO867; clear HB; have HO867 := n0_; have HB := n1_; clear n0_ n1_; (try clear hb); (try clear hb2); (try clear hk); (try clear hi)) | (go_at_call 86; (with_reducible refine (span_Is.calls (⟨#[40]⟩ : ByteArray) false _ ?side1 A6.out).mono ?_); (case side1 => exact Glob.step HG.out (by repeat (first | (with_reducible first | exact HB.out | apply below_alloc | apply pw_below_drewN | apply below_drew1) | exact HB.out))); rintro e w' ⟨rfl, ⟨nd, rfl⟩⟩))
     go_ret
     exact ⟨by first | rfl | (simp [errW_none, errW_some] <;> rfl) | (simp [*, errW_none, errW_some] <;> rfl), by repeat (first | (with_reducible first | exact HB.out | apply below_alloc | apply pw_below_drewN | apply below_drew1) | exact HB.out)⟩
   ·replace c5 := Bool.eq_false_iff.mpr c5
    subst c5
    have H1 : (some false) = some r := by rw [if_neg (show ¬ (false = true) by decide)] at H; exact H
    clear H
    have H := H1
    clear H1
    obtain rfl := Option.some.inj H
    go_enter Tryd.func57, Tryd.ntmps57
    go_wp2_with (first | ((with_reducible refine gate_callee (f := 56) rfl ?_); refine goesL_ (some 4) rfl rfl Tryd.func56 (by kernel_rfl) rfl #[.string (⟨#[91, 49, 44, 50, 41]⟩ : ByteArray)] rfl (by (try simp only [List.map_toArray, List.map_cons, List.map_nil]); first | done | rfl | (simp only [List.length_drop, List.length_take]; rfl)) ?_; (with_reducible refine (span_Parse.calls k (⟨#[91, 49, 44, 50, 41]⟩ : ByteArray) t864 t865 _ ?side1 A1.out).mono ?_); (case side1 => exact Glob.step HG.out (by repeat (first | (with_reducible first | exact HB.out | apply below_alloc | apply pw_below_drewN | apply below_drew1) | exact HB.out))); rintro e w16 ⟨v866, rfl, ho0, hb⟩; refine ⟨_, rfl, ?_⟩; have n0_ := Aside0.mk (Kd.R_lower ho0 (below_size (by repeat (first | (with_reducible first | exact HB.out | apply below_alloc | apply pw_below_drewN | apply below_drew1) | exact HB.out)))); have n1_ := Aside0.mk (below_step (by repeat (first | (with_reducible first | exact HB.out | apply below_alloc | apply pw_below_drewN | apply below_drew1) | exact HB.out)) hb); clear HB; have HO867 := n0_; have HB := n1_; clear n0_ n1_; (try clear hb); (try clear hb2); (try clear hk); (try clear hi); (try clear ho0); obtain ⟨Ao17, co17, eo17⟩ := Kd.R_slice HO867.out; subst eo17) | (go_at_call 58; (with_reducible refine (span_Holds.calls k _ _ t864 (⟨#[49, 46, 53]⟩ : ByteArray) false _ ?side1 ?side2 ?side3 A4.out).mono ?_); (case side1 => repeat (first | exact (Kd.R_reads' HO867.out).2.2 | (with_reducible refine Kd.C_alloc ?_ _) | (with_reducible refine Kd.C_drewN ?_ _) | (with_reducible refine Kd.C_drew ?_))); (case side2 => exact (Kd.R_reads' HO867.out).2.1); (case side3 => exact Glob.step HG.out (by repeat (first | (with_reducible first | exact HB.out | apply below_alloc | apply pw_below_drewN | apply below_drew1) | exact HB.out))); rintro e w18 ⟨rfl, hb⟩; have n0_ := Aside0.mk (Kd.R_below (by (with_reducible repeat (first | apply Kd.R_alloc | apply Kd.R_drewN | apply Kd.R_drew)); exact HO867.out) hb); have n1_ := Aside0.mk (below_step (by repeat (first | (with_reducible first | exact HB.out | apply below_alloc | apply pw_below_drewN | apply below_drew1) | exact HB.out)) hb); clear HO867; clear HB; have HO867 := n0_; have HB := n1_; clear n0_ n1_; (try clear hb); (try clear hb2); (try clear hk); (try clear hi)))
    go_ret
    exact ⟨by first | rfl | (simp [errW_none, errW_some] <;> rfl) | (simp [*, errW_none, errW_some] <;> rfl), by repeat (first | (with_reducible first | exact HB.out | apply below_alloc | apply pw_below_drewN | apply below_drew1) | exact HB.out)⟩
  ·rw [if_neg c3] at H
   have c3b0 : ((t864.length : Int) == 1) = false := beq_eq_false_iff_ne.mpr c3
   have c3b1 : ((t864.length : Int) != 1) = true := bne_iff_ne.mpr c3
   obtain rfl := Option.some.inj H
   go_enter Tryd.func57, Tryd.ntmps57
   go_wp2_with (first | ((with_reducible refine gate_callee (f := 56) rfl ?_); refine goesL_ (some 4) rfl rfl Tryd.func56 (by kernel_rfl) rfl #[.string (⟨#[91, 49, 44, 50, 41]⟩ : ByteArray)] rfl (by (try simp only [List.map_toArray, List.map_cons, List.map_nil]); first | done | rfl | (simp only [List.length_drop, List.length_take]; rfl)) ?_; (with_reducible refine (span_Parse.calls k (⟨#[91, 49, 44, 50, 41]⟩ : ByteArray) t864 t865 _ ?side1 A1.out).mono ?_); (case side1 => exact Glob.step HG.out (by repeat (first | (with_reducible first | exact HB.out | apply below_alloc | apply pw_below_drewN | apply below_drew1) | exact HB.out))); rintro e w19 ⟨v866, rfl, ho0, hb⟩; refine ⟨_, rfl, ?_⟩; have n0_ := Aside0.mk (Kd.R_lower ho0 (below_size (by repeat (first | (with_reducible first | exact HB.out | apply below_alloc | apply pw_below_drewN | apply below_drew1) | exact HB.out)))); have n1_ := Aside0.mk (below_step (by repeat (first | (with_reducible first | exact HB.out | apply below_alloc | apply pw_below_drewN | apply below_drew1) | exact HB.out)) hb); clear HB; have HO867 := n0_; have HB := n1_; clear n0_ n1_; (try clear hb); (try clear hb2); (try clear hk); (try clear hi); (try clear ho0); obtain ⟨Ao20, co20, eo20⟩ := Kd.R_slice HO867.out; subst eo20))
   go_ret
   exact ⟨by first | rfl | (simp [errW_none, errW_some] <;> rfl) | (simp [*, errW_none, errW_some] <;> rfl), by repeat (first | (with_reducible first | exact HB.out | apply below_alloc | apply pw_below_drewN | apply below_drew1) | exact HB.out)⟩
 ·rw [if_neg c2] at H
  have c2b0 : (t865 == 0) = false := beq_eq_false_iff_ne.mpr c2
  have c2b1 : (t865 != 0) = true := bne_iff_ne.mpr c2
  obtain rfl := Option.some.inj H
  go_enter Tryd.func57, Tryd.ntmps57
  go_wp2_with (first | ((with_reducible refine gate_callee (f := 56) rfl ?_); refine goesL_ (some 4) rfl rfl Tryd.func56 (by kernel_rfl) rfl #[.string (⟨#[91, 49, 44, 50, 41]⟩ : ByteArray)] rfl (by (try simp only [List.map_toArray, List.map_cons, List.map_nil]); first | done | rfl | (simp only [List.length_drop, List.length_take]; rfl)) ?_; (with_reducible refine (span_Parse.calls k (⟨#[91, 49, 44, 50, 41]⟩ : ByteArray) t864 t865 _ ?side1 A1.out).mono ?_); (case side1 => exact Glob.step HG.out (by repeat (first | (with_reducible first | exact HB.out | apply below_alloc | apply pw_below_drewN | apply below_drew1) | exact HB.out))); rintro e w21 ⟨v866, rfl, ho0, hb⟩; refine ⟨_, rfl, ?_⟩; have n0_ := Aside0.mk (Kd.R_lower ho0 (below_size (by repeat (first | (with_reducible first | exact HB.out | apply below_alloc | apply pw_below_drewN | apply below_drew1) | exact HB.out)))); have n1_ := Aside0.mk (below_step (by repeat (first | (with_reducible first | exact HB.out | apply below_alloc | apply pw_below_drewN | apply below_drew1) | exact HB.out)) hb); clear HB; have HO867 := n0_; have HB := n1_; clear n0_ n1_; (try clear hb); (try clear hb2); (try clear hk); (try clear hi); (try clear ho0)))
  go_ret
  exact ⟨by first | rfl | (simp [errW_none, errW_some] <;> rfl) | (simp [*, errW_none, errW_some] <;> rfl), by repeat (first | (with_reducible first | exact HB.out | apply below_alloc | apply pw_below_drewN | apply below_drew1) | exact HB.out)⟩

end Go.Proofs.YtgdjfcmmpjcaaaaDoor.Q

-- Printed by this session's wip/np.py over the kit's print program. Not trusted: Lean checks it.
namespace Go.Proofs.YtgdjfcmmpjcaaaaDoor.Q
open Go.RowKit Go.Proofs.YtgdjfcmmpjcaaaaDoorW.PrintWords Go.Proofs.YtgdjfcmmpjcaaaaDoorW.PrintLast Go.Proofs.YtgdjfcmmpjcaaaaDoorW.Own Go.Proofs.YtgdjfcmmpjcaaaaDoorW.PrintMore
attribute [local go_sem] max2_int min2_int max_two min_two max_three min_three max_four min_four
set_option linter.unusedVariables false
set_option linter.unusedSimpArgs false

/-! ### newellaw07_SpanMany: function 21 -/
def newellaw07_SpanMany.l0 : Nat → Int → Int → ByteArray → Int → Option (Bool)
 | 0, _, _, _, _ => none
 | k + 1, x0, x1, x5, x6 => if x6 < x0 then (if x6 > 0 then (if x5.size + 1 ≤ 9223372036854775807 then (if (x5 ++ (⟨#[44]⟩ : ByteArray)).size + 1 ≤ 9223372036854775807 then ((newelhelp_Digits.f k (wrap64 ((wrap64 (3 * x6)) + 1))).bind fun t955 => (if ((x5 ++ (⟨#[44]⟩ : ByteArray)) ++ (⟨#[91]⟩ : ByteArray)).size + t955.size ≤ 9223372036854775807 then (if (((x5 ++ (⟨#[44]⟩ : ByteArray)) ++ (⟨#[91]⟩ : ByteArray)) ++ t955).size + 1 ≤ 9223372036854775807 then ((newelhelp_Digits.f k (wrap64 ((wrap64 (3 * x6)) + 2))).bind fun t956 => (if ((((x5 ++ (⟨#[44]⟩ : ByteArray)) ++ (⟨#[91]⟩ : ByteArray)) ++ t955) ++ (⟨#[44]⟩ : ByteArray)).size + t956.size ≤ 9223372036854775807 then (if (((((x5 ++ (⟨#[44]⟩ : ByteArray)) ++ (⟨#[91]⟩ : ByteArray)) ++ t955) ++ (⟨#[44]⟩ : ByteArray)) ++ t956).size + 1 ≤ 9223372036854775807 then (newellaw07_SpanMany.l0 k x0 x1 ((((((x5 ++ (⟨#[44]⟩ : ByteArray)) ++ (⟨#[91]⟩ : ByteArray)) ++ t955) ++ (⟨#[44]⟩ : ByteArray)) ++ t956) ++ (⟨#[93]⟩ : ByteArray)) (wrap64 (x6 + 1))) else (none)) else (none))) else (none)) else (none))) else (none)) else (none)) else (if x5.size + 1 ≤ 9223372036854775807 then ((newelhelp_Digits.f k (wrap64 ((wrap64 (3 * x6)) + 1))).bind fun t957 => (if (x5 ++ (⟨#[91]⟩ : ByteArray)).size + t957.size ≤ 9223372036854775807 then (if ((x5 ++ (⟨#[91]⟩ : ByteArray)) ++ t957).size + 1 ≤ 9223372036854775807 then ((newelhelp_Digits.f k (wrap64 ((wrap64 (3 * x6)) + 2))).bind fun t958 => (if (((x5 ++ (⟨#[91]⟩ : ByteArray)) ++ t957) ++ (⟨#[44]⟩ : ByteArray)).size + t958.size ≤ 9223372036854775807 then (if ((((x5 ++ (⟨#[91]⟩ : ByteArray)) ++ t957) ++ (⟨#[44]⟩ : ByteArray)) ++ t958).size + 1 ≤ 9223372036854775807 then (newellaw07_SpanMany.l0 k x0 x1 (((((x5 ++ (⟨#[91]⟩ : ByteArray)) ++ t957) ++ (⟨#[44]⟩ : ByteArray)) ++ t958) ++ (⟨#[93]⟩ : ByteArray)) (wrap64 (x6 + 1))) else (none)) else (none))) else (none)) else (none))) else (none))) else ((span_Parse.f k x5).bind fun bt959 => (if x0 > 20 then ((newellaw07_awake.f k).bind fun t963 => (if t963 = true then (if bt959.2 = 12 then (some ((bt959.1.length : Int) == 0)) else (some false)) else (some false))) else ((newellaw07_awake.f k).bind fun t964 => (if t964 = true then (if bt959.2 = 0 then (if (bt959.1.length : Int) = x0 then ((span_Text.f k bt959.1).bind fun t965 => (if t965.toList = x5.toList then ((newelhelp_Digits.f k (wrap64 (Int.tmod (IntKind.u64.wrap (x1)) 60))).bind fun t966 => ((span_Holds.f k bt959.1 t966).bind fun t967 => (if (Int.tmod (wrap64 (Int.tmod (IntKind.u64.wrap (x1)) 60)) 3) = 0 then (some (t967 == false)) else (some (t967 == (decide ((wrap64 (Int.tmod (IntKind.u64.wrap (x1)) 60)) < (wrap64 (3 * x0))))))))) else (some false))) else (some false)) else (some false)) else (some false)))))
def newellaw07_SpanMany.f (k : Nat) (a0 : Int) (a1 : Int) : Option (Bool) := newellaw07_SpanMany.l0 k (wrap64 (17 + (wrap64 (Int.tmod (IntKind.u64.wrap (a0)) 6)))) a1 (⟨#[]⟩ : ByteArray) 0
theorem newellaw07_SpanMany.mono_l : ∀ k, (∀ y0 y1 y2 y3, LeO (newellaw07_SpanMany.l0 k y0 y1 y2 y3) (newellaw07_SpanMany.l0 (k + 1) y0 y1 y2 y3))
 | 0 => fun _ _ _ _ r h => by simp [newellaw07_SpanMany.l0] at h
 | k + 1 => by
  have ih0 := newellaw07_SpanMany.mono_l k
  ·intro y0 y1 y2 y3
   unfold newellaw07_SpanMany.l0
   repeat' first
   | (with_reducible exact ih0 _ _ _ _)
   | (with_reducible exact newelhelp_Digits.mono _ _)
   | (with_reducible exact newellaw07_awake.mono _)
   | (with_reducible exact span_Holds.mono _ _ _)
   | (with_reducible exact span_Parse.mono _ _)
   | (with_reducible exact span_Text.mono _ _)
   | (with_reducible exact LeO.refl _)
   | (with_reducible exact LeO.none _)
   | (with_reducible refine LeO.ite ?_ ?_)
   | (with_reducible refine LeO.bind ?_ (fun _ => ?_))
   | exact ih0 _ _ _ _
   | exact newelhelp_Digits.mono _ _
   | exact newellaw07_awake.mono _
   | exact span_Holds.mono _ _ _
   | exact span_Parse.mono _ _
   | exact span_Text.mono _ _
   | exact LeO.none _
   | refine LeO.ite ?_ ?_
   | refine LeO.bind ?_ (fun _ => ?_)
theorem newellaw07_SpanMany.mono : ∀ a0 a1 k, LeO (newellaw07_SpanMany.f k a0 a1) (newellaw07_SpanMany.f (k + 1) a0 a1) := by
 intro a0 a1 k
 have ih0 := newellaw07_SpanMany.mono_l k
 unfold newellaw07_SpanMany.f
 repeat' first
  | (with_reducible exact ih0 _ _ _ _)
  | (with_reducible exact newelhelp_Digits.mono _ _)
  | (with_reducible exact newellaw07_awake.mono _)
  | (with_reducible exact span_Holds.mono _ _ _)
  | (with_reducible exact span_Parse.mono _ _)
  | (with_reducible exact span_Text.mono _ _)
  | (with_reducible exact LeO.refl _)
  | (with_reducible exact LeO.none _)
  | (with_reducible refine LeO.ite ?_ ?_)
  | (with_reducible refine LeO.bind ?_ (fun _ => ?_))
  | exact ih0 _ _ _ _
  | exact newelhelp_Digits.mono _ _
  | exact newellaw07_awake.mono _
  | exact span_Holds.mono _ _ _
  | exact span_Parse.mono _ _
  | exact span_Text.mono _ _
  | exact LeO.none _
  | refine LeO.ite ?_ ?_
  | refine LeO.bind ?_ (fun _ => ?_)
set_option maxHeartbeats 8000000 in
set_option maxRecDepth 100000 in
theorem newellaw07_SpanMany.calls (k : Nat) (a0 : Int) (a1 : Int) (r : Bool) (w : World) (hG : Glob w) (h : newellaw07_SpanMany.f k a0 a1 = some r) (hr_ : r = true) :
 Calls Tryd.prog 21 #[.int .i64 a0, .int .i64 a1] w fun e w' => e = .returned (.bool r) ∧ Below w.heap.size w w' := by
 have HG := Aside0.mk hG
 clear hG
 have HB := Aside0.mk (Below.refl w.heap.size w)
 have H : (newellaw07_SpanMany.l0 k (wrap64 (17 + (wrap64 (Int.tmod (IntKind.u64.wrap (a0)) 6)))) a1 (⟨#[]⟩ : ByteArray) 0) = some r := h
 clear h
 have H' := Aside0.mk H
 clear H
 go_enter Tryd.func21, Tryd.ntmps21
 go_wp2
 go_loopg [5, 6] k (fun kq v5 v6 w' => ∃ (x5_1 : ByteArray) (x6_1 : Int), v5 = .string x5_1 ∧ v6 = .int .i64 x6_1 ∧ Aside0 (newellaw07_SpanMany.l0 kq (wrap64 (17 + (wrap64 (Int.tmod (IntKind.u64.wrap (a0)) 6)))) a1 x5_1 x6_1 = some r) ∧ Aside0 (kq ≤ k) ∧ Aside0 (Below w.heap.size w w'))
 case atStart => exact ⟨((⟨#[]⟩ : ByteArray)), (0), (by first | rfl | (simp; done) | (simp [*]; done) | (simp; exact isEmpty_bne _)), (by first | rfl | (simp; done) | (simp [*]; done) | (simp; exact isEmpty_bne _)), H', ⟨Nat.le_refl _⟩, ⟨by repeat (first | (with_reducible first | exact HB.out | apply below_alloc | apply pw_below_drewN | apply below_drew1) | exact HB.out)⟩⟩
 case round =>
  clear H'
  try clear c2
  try clear p2
  obtain ⟨x5_1, x6_1, rfl, rfl, HA, HK1, HB⟩ := hrel
  cases gk with
  | zero => exact absurd HA.out (by simp [newellaw07_SpanMany.l0])
  | succ k1 =>
   have H := HA.out
   clear HA
   simp only [newellaw07_SpanMany.l0] at H
   by_cases c3 : x6_1 < (wrap64 (17 + (wrap64 (Int.tmod (IntKind.u64.wrap (a0)) 6))))
   ·rw [if_pos c3] at H
    have c3b0 : decide (x6_1 < (wrap64 (17 + (wrap64 (Int.tmod (IntKind.u64.wrap (a0)) 6))))) = true := decide_eq_true c3
    clear c3
    by_cases c4 : x6_1 > 0
    ·rw [if_pos c4] at H
     have c4b0 : decide (0 < x6_1) = true := decide_eq_true c4
     clear c4
     by_cases c5 : x5_1.size + 1 ≤ 9223372036854775807
     ·rw [if_pos c5] at H
      have c5b0 := eq_true c5
      have c5b1 : decide (x5_1.size + 1 ≤ 9223372036854775807) = true := decide_eq_true c5
      try have c5b2 : (9223372036854775807 < x5_1.size + 1) = False := eq_false (Nat.not_lt.2 c5)
      by_cases c6 : (x5_1 ++ (⟨#[44]⟩ : ByteArray)).size + 1 ≤ 9223372036854775807
      ·rw [if_pos c6] at H
       have c6b0 := eq_true c6
       have c6b1 : decide ((x5_1 ++ (⟨#[44]⟩ : ByteArray)).size + 1 ≤ 9223372036854775807) = true := decide_eq_true c6
       try have c6b2 : (9223372036854775807 < (x5_1 ++ (⟨#[44]⟩ : ByteArray)).size + 1) = False := eq_false (Nat.not_lt.2 c6)
       have c6n : (x5_1.size + 1) + 1 ≤ 9223372036854775807 := by have z_ := c6; simp only [ByteArray.size_append] at z_; exact z_
       have c6m : (9223372036854775807 < (x5_1.size + 1) + 1) = False := eq_false (Nat.not_lt.2 c6n)
       clear c6 c6b0 c6b1
       try clear c6b2
       replace H := Option.bind_eq_some_iff.mp H
       obtain ⟨t955, A70, H⟩ := H
       replace H : (if ((x5_1 ++ (⟨#[44]⟩ : ByteArray)) ++ (⟨#[91]⟩ : ByteArray)).size + t955.size ≤ 9223372036854775807 then (if (((x5_1 ++ (⟨#[44]⟩ : ByteArray)) ++ (⟨#[91]⟩ : ByteArray)) ++ t955).size + 1 ≤ 9223372036854775807 then ((newelhelp_Digits.f k1 (wrap64 ((wrap64 (3 * x6_1)) + 2))).bind fun t956 => (if ((((x5_1 ++ (⟨#[44]⟩ : ByteArray)) ++ (⟨#[91]⟩ : ByteArray)) ++ t955) ++ (⟨#[44]⟩ : ByteArray)).size + t956.size ≤ 9223372036854775807 then (if (((((x5_1 ++ (⟨#[44]⟩ : ByteArray)) ++ (⟨#[91]⟩ : ByteArray)) ++ t955) ++ (⟨#[44]⟩ : ByteArray)) ++ t956).size + 1 ≤ 9223372036854775807 then (newellaw07_SpanMany.l0 k1 (wrap64 (17 + (wrap64 (Int.tmod (IntKind.u64.wrap (a0)) 6)))) a1 ((((((x5_1 ++ (⟨#[44]⟩ : ByteArray)) ++ (⟨#[91]⟩ : ByteArray)) ++ t955) ++ (⟨#[44]⟩ : ByteArray)) ++ t956) ++ (⟨#[93]⟩ : ByteArray)) (wrap64 (x6_1 + 1))) else (none)) else (none))) else (none)) else (none)) = some r := H
       have A7 := Aside0.mk A70
       clear A70
       by_cases c8 : ((x5_1 ++ (⟨#[44]⟩ : ByteArray)) ++ (⟨#[91]⟩ : ByteArray)).size + t955.size ≤ 9223372036854775807
       ·rw [if_pos c8] at H
        have c8b0 := eq_true c8
        have c8b1 : decide (((x5_1 ++ (⟨#[44]⟩ : ByteArray)) ++ (⟨#[91]⟩ : ByteArray)).size + t955.size ≤ 9223372036854775807) = true := decide_eq_true c8
        try have c8b2 : (9223372036854775807 < ((x5_1 ++ (⟨#[44]⟩ : ByteArray)) ++ (⟨#[91]⟩ : ByteArray)).size + t955.size) = False := eq_false (Nat.not_lt.2 c8)
        have c8n : ((x5_1.size + 1) + 1) + t955.size ≤ 9223372036854775807 := by have z_ := c8; simp only [ByteArray.size_append] at z_; exact z_
        have c8m : (9223372036854775807 < ((x5_1.size + 1) + 1) + t955.size) = False := eq_false (Nat.not_lt.2 c8n)
        clear c8 c8b0 c8b1
        try clear c8b2
        by_cases c9 : (((x5_1 ++ (⟨#[44]⟩ : ByteArray)) ++ (⟨#[91]⟩ : ByteArray)) ++ t955).size + 1 ≤ 9223372036854775807
        ·rw [if_pos c9] at H
         have c9b0 := eq_true c9
         have c9b1 : decide ((((x5_1 ++ (⟨#[44]⟩ : ByteArray)) ++ (⟨#[91]⟩ : ByteArray)) ++ t955).size + 1 ≤ 9223372036854775807) = true := decide_eq_true c9
         try have c9b2 : (9223372036854775807 < (((x5_1 ++ (⟨#[44]⟩ : ByteArray)) ++ (⟨#[91]⟩ : ByteArray)) ++ t955).size + 1) = False := eq_false (Nat.not_lt.2 c9)
         have c9n : (((x5_1.size + 1) + 1) + t955.size) + 1 ≤ 9223372036854775807 := by have z_ := c9; simp only [ByteArray.size_append] at z_; exact z_
         have c9m : (9223372036854775807 < (((x5_1.size + 1) + 1) + t955.size) + 1) = False := eq_false (Nat.not_lt.2 c9n)
         clear c9 c9b0 c9b1
         try clear c9b2
         replace H := Option.bind_eq_some_iff.mp H
         obtain ⟨t956, A100, H⟩ := H
         replace H : (if ((((x5_1 ++ (⟨#[44]⟩ : ByteArray)) ++ (⟨#[91]⟩ : ByteArray)) ++ t955) ++ (⟨#[44]⟩ : ByteArray)).size + t956.size ≤ 9223372036854775807 then (if (((((x5_1 ++ (⟨#[44]⟩ : ByteArray)) ++ (⟨#[91]⟩ : ByteArray)) ++ t955) ++ (⟨#[44]⟩ : ByteArray)) ++ t956).size + 1 ≤ 9223372036854775807 then (newellaw07_SpanMany.l0 k1 (wrap64 (17 + (wrap64 (Int.tmod (IntKind.u64.wrap (a0)) 6)))) a1 ((((((x5_1 ++ (⟨#[44]⟩ : ByteArray)) ++ (⟨#[91]⟩ : ByteArray)) ++ t955) ++ (⟨#[44]⟩ : ByteArray)) ++ t956) ++ (⟨#[93]⟩ : ByteArray)) (wrap64 (x6_1 + 1))) else (none)) else (none)) = some r := H
         have A10 := Aside0.mk A100
         clear A100
         by_cases c11 : ((((x5_1 ++ (⟨#[44]⟩ : ByteArray)) ++ (⟨#[91]⟩ : ByteArray)) ++ t955) ++ (⟨#[44]⟩ : ByteArray)).size + t956.size ≤ 9223372036854775807
         ·rw [if_pos c11] at H
          have c11b0 := eq_true c11
          have c11b1 : decide (((((x5_1 ++ (⟨#[44]⟩ : ByteArray)) ++ (⟨#[91]⟩ : ByteArray)) ++ t955) ++ (⟨#[44]⟩ : ByteArray)).size + t956.size ≤ 9223372036854775807) = true := decide_eq_true c11
          try have c11b2 : (9223372036854775807 < ((((x5_1 ++ (⟨#[44]⟩ : ByteArray)) ++ (⟨#[91]⟩ : ByteArray)) ++ t955) ++ (⟨#[44]⟩ : ByteArray)).size + t956.size) = False := eq_false (Nat.not_lt.2 c11)
          have c11n : ((((x5_1.size + 1) + 1) + t955.size) + 1) + t956.size ≤ 9223372036854775807 := by have z_ := c11; simp only [ByteArray.size_append] at z_; exact z_
          have c11m : (9223372036854775807 < ((((x5_1.size + 1) + 1) + t955.size) + 1) + t956.size) = False := eq_false (Nat.not_lt.2 c11n)
          clear c11 c11b0 c11b1
          try clear c11b2
          by_cases c12 : (((((x5_1 ++ (⟨#[44]⟩ : ByteArray)) ++ (⟨#[91]⟩ : ByteArray)) ++ t955) ++ (⟨#[44]⟩ : ByteArray)) ++ t956).size + 1 ≤ 9223372036854775807
          ·rw [if_pos c12] at H
           have c12b0 := eq_true c12
           have c12b1 : decide ((((((x5_1 ++ (⟨#[44]⟩ : ByteArray)) ++ (⟨#[91]⟩ : ByteArray)) ++ t955) ++ (⟨#[44]⟩ : ByteArray)) ++ t956).size + 1 ≤ 9223372036854775807) = true := decide_eq_true c12
           try have c12b2 : (9223372036854775807 < (((((x5_1 ++ (⟨#[44]⟩ : ByteArray)) ++ (⟨#[91]⟩ : ByteArray)) ++ t955) ++ (⟨#[44]⟩ : ByteArray)) ++ t956).size + 1) = False := eq_false (Nat.not_lt.2 c12)
           have c12n : (((((x5_1.size + 1) + 1) + t955.size) + 1) + t956.size) + 1 ≤ 9223372036854775807 := by have z_ := c12; simp only [ByteArray.size_append] at z_; exact z_
           have c12m : (9223372036854775807 < (((((x5_1.size + 1) + 1) + t955.size) + 1) + t956.size) + 1) = False := eq_false (Nat.not_lt.2 c12n)
           clear c12 c12b0 c12b1
           try clear c12b2
           have H' := Aside0.mk H
           clear H
           go_wp2_with (first | ((with_reducible refine gate_callee (f := 33) rfl ?_); refine goesL_ (some 28) rfl rfl Tryd.func33 (by kernel_rfl) rfl #[.int .i64 (wrap64 ((wrap64 (3 * x6_1)) + 1))] rfl (by (try simp only [List.map_toArray, List.map_cons, List.map_nil]); first | done | rfl | (simp only [List.length_drop, List.length_take]; rfl)) ?_; (with_reducible refine (newelhelp_Digits.calls k1 (wrap64 ((wrap64 (3 * x6_1)) + 1)) t955 _ ?side1 A7.out).mono ?_); (case side1 => exact Glob.step HG.out (by repeat (first | (with_reducible first | exact HB.out | apply below_alloc | apply pw_below_drewN | apply below_drew1) | exact HB.out))); rintro e w13 ⟨rfl, hb⟩; refine ⟨_, rfl, ?_⟩; have n0_ := Aside0.mk (below_step (by repeat (first | (with_reducible first | exact HB.out | apply below_alloc | apply pw_below_drewN | apply below_drew1) | exact HB.out)) hb); clear HB; have HB := n0_; clear n0_; (try clear hb); (try clear hb2); (try clear hk); (try clear hi)) | ((with_reducible refine gate_callee (f := 33) rfl ?_); refine goesL_ (some 34) rfl rfl Tryd.func33 (by kernel_rfl) rfl #[.int .i64 (wrap64 ((wrap64 (3 * x6_1)) + 2))] rfl (by (try simp only [List.map_toArray, List.map_cons, List.map_nil]); first | done | rfl | (simp only [List.length_drop, List.length_take]; rfl)) ?_; (with_reducible refine (newelhelp_Digits.calls k1 (wrap64 ((wrap64 (3 * x6_1)) + 2)) t956 _ ?side1 A10.out).mono ?_); (case side1 => exact Glob.step HG.out (by repeat (first | (with_reducible first | exact HB.out | apply below_alloc | apply pw_below_drewN | apply below_drew1) | exact HB.out))); rintro e w14 ⟨rfl, hb⟩; refine ⟨_, rfl, ?_⟩; have n0_ := Aside0.mk (below_step (by repeat (first | (with_reducible first | exact HB.out | apply below_alloc | apply pw_below_drewN | apply below_drew1) | exact HB.out)) hb); clear HB; have HB := n0_; clear n0_; (try clear hb); (try clear hb2); (try clear hk); (try clear hi)))
           go_roundg k1
           case measure => have := HK1.out; omega
           case rel => exact ⟨((((((x5_1 ++ (⟨#[44]⟩ : ByteArray)) ++ (⟨#[91]⟩ : ByteArray)) ++ t955) ++ (⟨#[44]⟩ : ByteArray)) ++ t956) ++ (⟨#[93]⟩ : ByteArray)), (wrap64 (x6_1 + 1)), (by first | rfl | (simp; done) | (simp [*]; done) | (simp; exact isEmpty_bne _)), (by first | rfl | (simp; done) | (simp [*]; done) | (simp; exact isEmpty_bne _)), H', ⟨by have := HK1.out; omega⟩, ⟨by repeat (first | (with_reducible first | exact HB.out | apply below_alloc | apply pw_below_drewN | apply below_drew1) | exact HB.out)⟩⟩
          ·rw [if_neg c12] at H
           exact absurd H (by simp)
         ·rw [if_neg c11] at H
          exact absurd H (by simp)
        ·rw [if_neg c9] at H
         exact absurd H (by simp)
       ·rw [if_neg c8] at H
        exact absurd H (by simp)
      ·rw [if_neg c6] at H
       exact absurd H (by simp)
     ·rw [if_neg c5] at H
      exact absurd H (by simp)
    ·rw [if_neg c4] at H
     have c4b0 : decide (0 < x6_1) = false := decide_eq_false c4
     clear c4
     by_cases c15 : x5_1.size + 1 ≤ 9223372036854775807
     ·rw [if_pos c15] at H
      have c15b0 := eq_true c15
      have c15b1 : decide (x5_1.size + 1 ≤ 9223372036854775807) = true := decide_eq_true c15
      try have c15b2 : (9223372036854775807 < x5_1.size + 1) = False := eq_false (Nat.not_lt.2 c15)
      replace H := Option.bind_eq_some_iff.mp H
      obtain ⟨t957, A160, H⟩ := H
      replace H : (if (x5_1 ++ (⟨#[91]⟩ : ByteArray)).size + t957.size ≤ 9223372036854775807 then (if ((x5_1 ++ (⟨#[91]⟩ : ByteArray)) ++ t957).size + 1 ≤ 9223372036854775807 then ((newelhelp_Digits.f k1 (wrap64 ((wrap64 (3 * x6_1)) + 2))).bind fun t958 => (if (((x5_1 ++ (⟨#[91]⟩ : ByteArray)) ++ t957) ++ (⟨#[44]⟩ : ByteArray)).size + t958.size ≤ 9223372036854775807 then (if ((((x5_1 ++ (⟨#[91]⟩ : ByteArray)) ++ t957) ++ (⟨#[44]⟩ : ByteArray)) ++ t958).size + 1 ≤ 9223372036854775807 then (newellaw07_SpanMany.l0 k1 (wrap64 (17 + (wrap64 (Int.tmod (IntKind.u64.wrap (a0)) 6)))) a1 (((((x5_1 ++ (⟨#[91]⟩ : ByteArray)) ++ t957) ++ (⟨#[44]⟩ : ByteArray)) ++ t958) ++ (⟨#[93]⟩ : ByteArray)) (wrap64 (x6_1 + 1))) else (none)) else (none))) else (none)) else (none)) = some r := H
      have A16 := Aside0.mk A160
      clear A160
      by_cases c17 : (x5_1 ++ (⟨#[91]⟩ : ByteArray)).size + t957.size ≤ 9223372036854775807
      ·rw [if_pos c17] at H
       have c17b0 := eq_true c17
       have c17b1 : decide ((x5_1 ++ (⟨#[91]⟩ : ByteArray)).size + t957.size ≤ 9223372036854775807) = true := decide_eq_true c17
       try have c17b2 : (9223372036854775807 < (x5_1 ++ (⟨#[91]⟩ : ByteArray)).size + t957.size) = False := eq_false (Nat.not_lt.2 c17)
       have c17n : (x5_1.size + 1) + t957.size ≤ 9223372036854775807 := by have z_ := c17; simp only [ByteArray.size_append] at z_; exact z_
       have c17m : (9223372036854775807 < (x5_1.size + 1) + t957.size) = False := eq_false (Nat.not_lt.2 c17n)
       clear c17 c17b0 c17b1
       try clear c17b2
       by_cases c18 : ((x5_1 ++ (⟨#[91]⟩ : ByteArray)) ++ t957).size + 1 ≤ 9223372036854775807
       ·rw [if_pos c18] at H
        have c18b0 := eq_true c18
        have c18b1 : decide (((x5_1 ++ (⟨#[91]⟩ : ByteArray)) ++ t957).size + 1 ≤ 9223372036854775807) = true := decide_eq_true c18
        try have c18b2 : (9223372036854775807 < ((x5_1 ++ (⟨#[91]⟩ : ByteArray)) ++ t957).size + 1) = False := eq_false (Nat.not_lt.2 c18)
        have c18n : ((x5_1.size + 1) + t957.size) + 1 ≤ 9223372036854775807 := by have z_ := c18; simp only [ByteArray.size_append] at z_; exact z_
        have c18m : (9223372036854775807 < ((x5_1.size + 1) + t957.size) + 1) = False := eq_false (Nat.not_lt.2 c18n)
        clear c18 c18b0 c18b1
        try clear c18b2
        replace H := Option.bind_eq_some_iff.mp H
        obtain ⟨t958, A190, H⟩ := H
        replace H : (if (((x5_1 ++ (⟨#[91]⟩ : ByteArray)) ++ t957) ++ (⟨#[44]⟩ : ByteArray)).size + t958.size ≤ 9223372036854775807 then (if ((((x5_1 ++ (⟨#[91]⟩ : ByteArray)) ++ t957) ++ (⟨#[44]⟩ : ByteArray)) ++ t958).size + 1 ≤ 9223372036854775807 then (newellaw07_SpanMany.l0 k1 (wrap64 (17 + (wrap64 (Int.tmod (IntKind.u64.wrap (a0)) 6)))) a1 (((((x5_1 ++ (⟨#[91]⟩ : ByteArray)) ++ t957) ++ (⟨#[44]⟩ : ByteArray)) ++ t958) ++ (⟨#[93]⟩ : ByteArray)) (wrap64 (x6_1 + 1))) else (none)) else (none)) = some r := H
        have A19 := Aside0.mk A190
        clear A190
        by_cases c20 : (((x5_1 ++ (⟨#[91]⟩ : ByteArray)) ++ t957) ++ (⟨#[44]⟩ : ByteArray)).size + t958.size ≤ 9223372036854775807
        ·rw [if_pos c20] at H
         have c20b0 := eq_true c20
         have c20b1 : decide ((((x5_1 ++ (⟨#[91]⟩ : ByteArray)) ++ t957) ++ (⟨#[44]⟩ : ByteArray)).size + t958.size ≤ 9223372036854775807) = true := decide_eq_true c20
         try have c20b2 : (9223372036854775807 < (((x5_1 ++ (⟨#[91]⟩ : ByteArray)) ++ t957) ++ (⟨#[44]⟩ : ByteArray)).size + t958.size) = False := eq_false (Nat.not_lt.2 c20)
         have c20n : (((x5_1.size + 1) + t957.size) + 1) + t958.size ≤ 9223372036854775807 := by have z_ := c20; simp only [ByteArray.size_append] at z_; exact z_
         have c20m : (9223372036854775807 < (((x5_1.size + 1) + t957.size) + 1) + t958.size) = False := eq_false (Nat.not_lt.2 c20n)
         clear c20 c20b0 c20b1
         try clear c20b2
         by_cases c21 : ((((x5_1 ++ (⟨#[91]⟩ : ByteArray)) ++ t957) ++ (⟨#[44]⟩ : ByteArray)) ++ t958).size + 1 ≤ 9223372036854775807
         ·rw [if_pos c21] at H
          have c21b0 := eq_true c21
          have c21b1 : decide (((((x5_1 ++ (⟨#[91]⟩ : ByteArray)) ++ t957) ++ (⟨#[44]⟩ : ByteArray)) ++ t958).size + 1 ≤ 9223372036854775807) = true := decide_eq_true c21
          try have c21b2 : (9223372036854775807 < ((((x5_1 ++ (⟨#[91]⟩ : ByteArray)) ++ t957) ++ (⟨#[44]⟩ : ByteArray)) ++ t958).size + 1) = False := eq_false (Nat.not_lt.2 c21)
          have c21n : ((((x5_1.size + 1) + t957.size) + 1) + t958.size) + 1 ≤ 9223372036854775807 := by have z_ := c21; simp only [ByteArray.size_append] at z_; exact z_
          have c21m : (9223372036854775807 < ((((x5_1.size + 1) + t957.size) + 1) + t958.size) + 1) = False := eq_false (Nat.not_lt.2 c21n)
          clear c21 c21b0 c21b1
          try clear c21b2
          have H' := Aside0.mk H
          clear H
          go_wp2_with (first | ((with_reducible refine gate_callee (f := 33) rfl ?_); refine goesL_ (some 28) rfl rfl Tryd.func33 (by kernel_rfl) rfl #[.int .i64 (wrap64 ((wrap64 (3 * x6_1)) + 1))] rfl (by (try simp only [List.map_toArray, List.map_cons, List.map_nil]); first | done | rfl | (simp only [List.length_drop, List.length_take]; rfl)) ?_; (with_reducible refine (newelhelp_Digits.calls k1 (wrap64 ((wrap64 (3 * x6_1)) + 1)) t957 _ ?side1 A16.out).mono ?_); (case side1 => exact Glob.step HG.out (by repeat (first | (with_reducible first | exact HB.out | apply below_alloc | apply pw_below_drewN | apply below_drew1) | exact HB.out))); rintro e w22 ⟨rfl, hb⟩; refine ⟨_, rfl, ?_⟩; have n0_ := Aside0.mk (below_step (by repeat (first | (with_reducible first | exact HB.out | apply below_alloc | apply pw_below_drewN | apply below_drew1) | exact HB.out)) hb); clear HB; have HB := n0_; clear n0_; (try clear hb); (try clear hb2); (try clear hk); (try clear hi)) | ((with_reducible refine gate_callee (f := 33) rfl ?_); refine goesL_ (some 34) rfl rfl Tryd.func33 (by kernel_rfl) rfl #[.int .i64 (wrap64 ((wrap64 (3 * x6_1)) + 2))] rfl (by (try simp only [List.map_toArray, List.map_cons, List.map_nil]); first | done | rfl | (simp only [List.length_drop, List.length_take]; rfl)) ?_; (with_reducible refine (newelhelp_Digits.calls k1 (wrap64 ((wrap64 (3 * x6_1)) + 2)) t958 _ ?side1 A19.out).mono ?_); (case side1 => exact Glob.step HG.out (by repeat (first | (with_reducible first | exact HB.out | apply below_alloc | apply pw_below_drewN | apply below_drew1) | exact HB.out))); rintro e w23 ⟨rfl, hb⟩; refine ⟨_, rfl, ?_⟩; have n0_ := Aside0.mk (below_step (by repeat (first | (with_reducible first | exact HB.out | apply below_alloc | apply pw_below_drewN | apply below_drew1) | exact HB.out)) hb); clear HB; have HB := n0_; clear n0_; (try clear hb); (try clear hb2); (try clear hk); (try clear hi)))
          go_roundg k1
          case measure => have := HK1.out; omega
          case rel => exact ⟨(((((x5_1 ++ (⟨#[91]⟩ : ByteArray)) ++ t957) ++ (⟨#[44]⟩ : ByteArray)) ++ t958) ++ (⟨#[93]⟩ : ByteArray)), (wrap64 (x6_1 + 1)), (by first | rfl | (simp; done) | (simp [*]; done) | (simp; exact isEmpty_bne _)), (by first | rfl | (simp; done) | (simp [*]; done) | (simp; exact isEmpty_bne _)), H', ⟨by have := HK1.out; omega⟩, ⟨by repeat (first | (with_reducible first | exact HB.out | apply below_alloc | apply pw_below_drewN | apply below_drew1) | exact HB.out)⟩⟩
         ·rw [if_neg c21] at H
          exact absurd H (by simp)
        ·rw [if_neg c20] at H
         exact absurd H (by simp)
       ·rw [if_neg c18] at H
        exact absurd H (by simp)
      ·rw [if_neg c17] at H
       exact absurd H (by simp)
     ·rw [if_neg c15] at H
      exact absurd H (by simp)
   ·rw [if_neg c3] at H
    have c3b0 : decide (x6_1 < (wrap64 (17 + (wrap64 (Int.tmod (IntKind.u64.wrap (a0)) 6))))) = false := decide_eq_false c3
    clear c3
    replace H := Option.bind_eq_some_iff.mp H
    obtain ⟨⟨t959, t960⟩, A240, H⟩ := H
    replace H : (if (wrap64 (17 + (wrap64 (Int.tmod (IntKind.u64.wrap (a0)) 6)))) > 20 then ((newellaw07_awake.f k1).bind fun t963 => (if t963 = true then (if t960 = 12 then (some ((t959.length : Int) == 0)) else (some false)) else (some false))) else ((newellaw07_awake.f k1).bind fun t964 => (if t964 = true then (if t960 = 0 then (if (t959.length : Int) = (wrap64 (17 + (wrap64 (Int.tmod (IntKind.u64.wrap (a0)) 6)))) then ((span_Text.f k1 t959).bind fun t965 => (if t965.toList = x5_1.toList then ((newelhelp_Digits.f k1 (wrap64 (Int.tmod (IntKind.u64.wrap (a1)) 60))).bind fun t966 => ((span_Holds.f k1 t959 t966).bind fun t967 => (if (Int.tmod (wrap64 (Int.tmod (IntKind.u64.wrap (a1)) 60)) 3) = 0 then (some (t967 == false)) else (some (t967 == (decide ((wrap64 (Int.tmod (IntKind.u64.wrap (a1)) 60)) < (wrap64 (3 * (wrap64 (17 + (wrap64 (Int.tmod (IntKind.u64.wrap (a0)) 6))))))))))))) else (some false))) else (some false)) else (some false)) else (some false)))) = some r := H
    have A24 := Aside0.mk A240
    clear A240
    by_cases c25 : (wrap64 (17 + (wrap64 (Int.tmod (IntKind.u64.wrap (a0)) 6)))) > 20
    ·rw [if_pos c25] at H
     have c25b0 : decide (20 < (wrap64 (17 + (wrap64 (Int.tmod (IntKind.u64.wrap (a0)) 6))))) = true := decide_eq_true c25
     clear c25
     replace H := Option.bind_eq_some_iff.mp H
     obtain ⟨t963, A260, H⟩ := H
     replace H : (if t963 = true then (if t960 = 12 then (some ((t959.length : Int) == 0)) else (some false)) else (some false)) = some r := H
     have A26 := Aside0.mk A260
     clear A260
     by_cases c27 : t963 = true
     ·subst c27
      have H1 : (if t960 = 12 then (some ((t959.length : Int) == 0)) else (some false)) = some r := by rw [if_pos rfl] at H; exact H
      clear H
      have H := H1
      clear H1
      by_cases c28 : t960 = 12
      ·rw [if_pos c28] at H
       have c28b0 : (t960 == 12) = true := beq_iff_eq.mpr c28
       have c28b1 : (t960 != 12) = false := bne_eq_false_iff_eq.mpr c28
       clear c28
       obtain rfl := Option.some.inj H
       go_wp2_with (first | ((with_reducible refine gate_callee (f := 56) rfl ?_); refine goesL_ (some 39) rfl rfl Tryd.func56 (by kernel_rfl) rfl #[.string x5_1] rfl (by (try simp only [List.map_toArray, List.map_cons, List.map_nil]); first | done | rfl | (simp only [List.length_drop, List.length_take]; rfl)) ?_; (with_reducible refine (span_Parse.calls k1 x5_1 t959 t960 _ ?side1 A24.out).mono ?_); (case side1 => exact Glob.step HG.out (by repeat (first | (with_reducible first | exact HB.out | apply below_alloc | apply pw_below_drewN | apply below_drew1) | exact HB.out))); rintro e w29 ⟨v961, rfl, ho0, hb⟩; refine ⟨_, rfl, ?_⟩; have n0_ := Aside0.mk (Kd.R_lower ho0 (below_size (by repeat (first | (with_reducible first | exact HB.out | apply below_alloc | apply pw_below_drewN | apply below_drew1) | exact HB.out)))); have n1_ := Aside0.mk (below_step (by repeat (first | (with_reducible first | exact HB.out | apply below_alloc | apply pw_below_drewN | apply below_drew1) | exact HB.out)) hb); clear HB; have HO962 := n0_; have HB := n1_; clear n0_ n1_; (try clear hb); (try clear hb2); (try clear hk); (try clear hi); (try clear ho0)) | ((with_reducible refine gate_callee (f := 57) rfl ?_); refine goesL_ (some 44) rfl rfl Tryd.func57 (by kernel_rfl) rfl #[] rfl (by (try simp only [List.map_toArray, List.map_cons, List.map_nil]); first | done | rfl | (simp only [List.length_drop, List.length_take]; rfl)) ?_; (with_reducible refine (newellaw07_awake.calls k1  true _ ?side1 A26.out).mono ?_); (case side1 => exact Glob.step HG.out (by repeat (first | (with_reducible first | exact HB.out | apply below_alloc | apply pw_below_drewN | apply below_drew1) | exact HB.out))); rintro e w30 ⟨rfl, hb⟩; refine ⟨_, rfl, ?_⟩; have n0_ := Aside0.mk (Kd.R_below (by (with_reducible repeat (first | apply Kd.R_alloc | apply Kd.R_drewN | apply Kd.R_drew)); exact HO962.out) hb); have n1_ := Aside0.mk (below_step (by repeat (first | (with_reducible first | exact HB.out | apply below_alloc | apply pw_below_drewN | apply below_drew1) | exact HB.out)) hb); clear HO962; clear HB; have HO962 := n0_; have HB := n1_; clear n0_ n1_; (try clear hb); (try clear hb2); (try clear hk); (try clear hi); obtain ⟨Ao31, co31, eo31⟩ := Kd.R_slice HO962.out; subst eo31))
       go_ret
       exact ⟨by first | rfl | (simp [errW_none, errW_some] <;> rfl) | (simp [*, errW_none, errW_some] <;> rfl), by repeat (first | (with_reducible first | exact HB.out | apply below_alloc | apply pw_below_drewN | apply below_drew1) | exact HB.out)⟩
      ·rw [if_neg c28] at H
       have c28b0 : (t960 == 12) = false := beq_eq_false_iff_ne.mpr c28
       have c28b1 : (t960 != 12) = true := bne_iff_ne.mpr c28
       exfalso
       obtain rfl := Option.some.inj H
       exact absurd hr_ (by decide)
     ·replace c27 := Bool.eq_false_iff.mpr c27
      subst c27
      have H1 : (some false) = some r := by rw [if_neg (show ¬ (false = true) by decide)] at H; exact H
      clear H
      have H := H1
      clear H1
      exfalso
      obtain rfl := Option.some.inj H
      exact absurd hr_ (by decide)
    ·rw [if_neg c25] at H
     have c25b0 : decide (20 < (wrap64 (17 + (wrap64 (Int.tmod (IntKind.u64.wrap (a0)) 6))))) = false := decide_eq_false c25
     clear c25
     replace H := Option.bind_eq_some_iff.mp H
     obtain ⟨t964, A320, H⟩ := H
     replace H : (if t964 = true then (if t960 = 0 then (if (t959.length : Int) = (wrap64 (17 + (wrap64 (Int.tmod (IntKind.u64.wrap (a0)) 6)))) then ((span_Text.f k1 t959).bind fun t965 => (if t965.toList = x5_1.toList then ((newelhelp_Digits.f k1 (wrap64 (Int.tmod (IntKind.u64.wrap (a1)) 60))).bind fun t966 => ((span_Holds.f k1 t959 t966).bind fun t967 => (if (Int.tmod (wrap64 (Int.tmod (IntKind.u64.wrap (a1)) 60)) 3) = 0 then (some (t967 == false)) else (some (t967 == (decide ((wrap64 (Int.tmod (IntKind.u64.wrap (a1)) 60)) < (wrap64 (3 * (wrap64 (17 + (wrap64 (Int.tmod (IntKind.u64.wrap (a0)) 6))))))))))))) else (some false))) else (some false)) else (some false)) else (some false)) = some r := H
     have A32 := Aside0.mk A320
     clear A320
     by_cases c33 : t964 = true
     ·subst c33
      have H1 : (if t960 = 0 then (if (t959.length : Int) = (wrap64 (17 + (wrap64 (Int.tmod (IntKind.u64.wrap (a0)) 6)))) then ((span_Text.f k1 t959).bind fun t965 => (if t965.toList = x5_1.toList then ((newelhelp_Digits.f k1 (wrap64 (Int.tmod (IntKind.u64.wrap (a1)) 60))).bind fun t966 => ((span_Holds.f k1 t959 t966).bind fun t967 => (if (Int.tmod (wrap64 (Int.tmod (IntKind.u64.wrap (a1)) 60)) 3) = 0 then (some (t967 == false)) else (some (t967 == (decide ((wrap64 (Int.tmod (IntKind.u64.wrap (a1)) 60)) < (wrap64 (3 * (wrap64 (17 + (wrap64 (Int.tmod (IntKind.u64.wrap (a0)) 6))))))))))))) else (some false))) else (some false)) else (some false)) = some r := by rw [if_pos rfl] at H; exact H
      clear H
      have H := H1
      clear H1
      by_cases c34 : t960 = 0
      ·rw [if_pos c34] at H
       have c34b0 : (t960 == 0) = true := beq_iff_eq.mpr c34
       have c34b1 : (t960 != 0) = false := bne_eq_false_iff_eq.mpr c34
       clear c34
       by_cases c35 : (t959.length : Int) = (wrap64 (17 + (wrap64 (Int.tmod (IntKind.u64.wrap (a0)) 6))))
       ·rw [if_pos c35] at H
        have c35b0 : ((t959.length : Int) == (wrap64 (17 + (wrap64 (Int.tmod (IntKind.u64.wrap (a0)) 6))))) = true := beq_iff_eq.mpr c35
        have c35b1 : ((t959.length : Int) != (wrap64 (17 + (wrap64 (Int.tmod (IntKind.u64.wrap (a0)) 6))))) = false := bne_eq_false_iff_eq.mpr c35
        clear c35
        replace H := Option.bind_eq_some_iff.mp H
        obtain ⟨t965, A360, H⟩ := H
        replace H : (if t965.toList = x5_1.toList then ((newelhelp_Digits.f k1 (wrap64 (Int.tmod (IntKind.u64.wrap (a1)) 60))).bind fun t966 => ((span_Holds.f k1 t959 t966).bind fun t967 => (if (Int.tmod (wrap64 (Int.tmod (IntKind.u64.wrap (a1)) 60)) 3) = 0 then (some (t967 == false)) else (some (t967 == (decide ((wrap64 (Int.tmod (IntKind.u64.wrap (a1)) 60)) < (wrap64 (3 * (wrap64 (17 + (wrap64 (Int.tmod (IntKind.u64.wrap (a0)) 6))))))))))))) else (some false)) = some r := H
        have A36 := Aside0.mk A360
        clear A360
        by_cases c37 : t965.toList = x5_1.toList
        ·rw [if_pos c37] at H
         have c37b0 : (t965.toList == x5_1.toList) = true := beq_iff_eq.mpr c37
         have c37b1 : (t965.toList != x5_1.toList) = false := bne_eq_false_iff_eq.mpr c37
         clear c37
         replace H := Option.bind_eq_some_iff.mp H
         obtain ⟨t966, A380, H⟩ := H
         replace H : ((span_Holds.f k1 t959 t966).bind fun t967 => (if (Int.tmod (wrap64 (Int.tmod (IntKind.u64.wrap (a1)) 60)) 3) = 0 then (some (t967 == false)) else (some (t967 == (decide ((wrap64 (Int.tmod (IntKind.u64.wrap (a1)) 60)) < (wrap64 (3 * (wrap64 (17 + (wrap64 (Int.tmod (IntKind.u64.wrap (a0)) 6)))))))))))) = some r := H
         have A38 := Aside0.mk A380
         clear A380
         replace H := Option.bind_eq_some_iff.mp H
         obtain ⟨t967, A390, H⟩ := H
         replace H : (if (Int.tmod (wrap64 (Int.tmod (IntKind.u64.wrap (a1)) 60)) 3) = 0 then (some (t967 == false)) else (some (t967 == (decide ((wrap64 (Int.tmod (IntKind.u64.wrap (a1)) 60)) < (wrap64 (3 * (wrap64 (17 + (wrap64 (Int.tmod (IntKind.u64.wrap (a0)) 6))))))))))) = some r := H
         have A39 := Aside0.mk A390
         clear A390
         by_cases c40 : (Int.tmod (wrap64 (Int.tmod (IntKind.u64.wrap (a1)) 60)) 3) = 0
         ·rw [if_pos c40] at H
          have c40b0 : ((Int.tmod (wrap64 (Int.tmod (IntKind.u64.wrap (a1)) 60)) 3) == 0) = true := beq_iff_eq.mpr c40
          have c40b1 : ((Int.tmod (wrap64 (Int.tmod (IntKind.u64.wrap (a1)) 60)) 3) != 0) = false := bne_eq_false_iff_eq.mpr c40
          clear c40
          obtain rfl := Option.some.inj H
          go_wp2_with (first | ((with_reducible refine gate_callee (f := 56) rfl ?_); refine goesL_ (some 39) rfl rfl Tryd.func56 (by kernel_rfl) rfl #[.string x5_1] rfl (by (try simp only [List.map_toArray, List.map_cons, List.map_nil]); first | done | rfl | (simp only [List.length_drop, List.length_take]; rfl)) ?_; (with_reducible refine (span_Parse.calls k1 x5_1 t959 t960 _ ?side1 A24.out).mono ?_); (case side1 => exact Glob.step HG.out (by repeat (first | (with_reducible first | exact HB.out | apply below_alloc | apply pw_below_drewN | apply below_drew1) | exact HB.out))); rintro e w41 ⟨v961, rfl, ho0, hb⟩; refine ⟨_, rfl, ?_⟩; have n0_ := Aside0.mk (Kd.R_lower ho0 (below_size (by repeat (first | (with_reducible first | exact HB.out | apply below_alloc | apply pw_below_drewN | apply below_drew1) | exact HB.out)))); have n1_ := Aside0.mk (below_step (by repeat (first | (with_reducible first | exact HB.out | apply below_alloc | apply pw_below_drewN | apply below_drew1) | exact HB.out)) hb); clear HB; have HO962 := n0_; have HB := n1_; clear n0_ n1_; (try clear hb); (try clear hb2); (try clear hk); (try clear hi); (try clear ho0)) | ((with_reducible refine gate_callee (f := 57) rfl ?_); refine goesL_ (some 58) rfl rfl Tryd.func57 (by kernel_rfl) rfl #[] rfl (by (try simp only [List.map_toArray, List.map_cons, List.map_nil]); first | done | rfl | (simp only [List.length_drop, List.length_take]; rfl)) ?_; (with_reducible refine (newellaw07_awake.calls k1  true _ ?side1 A32.out).mono ?_); (case side1 => exact Glob.step HG.out (by repeat (first | (with_reducible first | exact HB.out | apply below_alloc | apply pw_below_drewN | apply below_drew1) | exact HB.out))); rintro e w42 ⟨rfl, hb⟩; refine ⟨_, rfl, ?_⟩; have n0_ := Aside0.mk (Kd.R_below (by (with_reducible repeat (first | apply Kd.R_alloc | apply Kd.R_drewN | apply Kd.R_drew)); exact HO962.out) hb); have n1_ := Aside0.mk (below_step (by repeat (first | (with_reducible first | exact HB.out | apply below_alloc | apply pw_below_drewN | apply below_drew1) | exact HB.out)) hb); clear HO962; clear HB; have HO962 := n0_; have HB := n1_; clear n0_ n1_; (try clear hb); (try clear hb2); (try clear hk); (try clear hi); obtain ⟨Ao43, co43, eo43⟩ := Kd.R_slice HO962.out; subst eo43) | (go_at_call 59; (with_reducible refine (span_Text.calls k1 _ _ t959 t965 _ ?side1 ?side2 ?side3 A36.out).mono ?_); (case side1 => repeat (first | exact (Kd.R_reads' HO962.out).2.2 | (with_reducible refine Kd.C_alloc ?_ _) | (with_reducible refine Kd.C_drewN ?_ _) | (with_reducible refine Kd.C_drew ?_))); (case side2 => exact (Kd.R_reads' HO962.out).2.1); (case side3 => exact Glob.step HG.out (by repeat (first | (with_reducible first | exact HB.out | apply below_alloc | apply pw_below_drewN | apply below_drew1) | exact HB.out))); rintro e w44 ⟨rfl, hb⟩; have n0_ := Aside0.mk (Kd.R_below (by (with_reducible repeat (first | apply Kd.R_alloc | apply Kd.R_drewN | apply Kd.R_drew)); exact HO962.out) hb); have n1_ := Aside0.mk (below_step (by repeat (first | (with_reducible first | exact HB.out | apply below_alloc | apply pw_below_drewN | apply below_drew1) | exact HB.out)) hb); clear HO962; clear HB; have HO962 := n0_; have HB := n1_; clear n0_ n1_; (try clear hb); (try clear hb2); (try clear hk); (try clear hi)) | (go_at_call 33; (with_reducible refine (newelhelp_Digits.calls k1 (wrap64 (Int.tmod (IntKind.u64.wrap (a1)) 60)) t966 _ ?side1 A38.out).mono ?_); (case side1 => exact Glob.step HG.out (by repeat (first | (with_reducible first | exact HB.out | apply below_alloc | apply pw_below_drewN | apply below_drew1) | exact HB.out))); rintro e w45 ⟨rfl, hb⟩; have n0_ := Aside0.mk (Kd.R_below (by (with_reducible repeat (first | apply Kd.R_alloc | apply Kd.R_drewN | apply Kd.R_drew)); exact HO962.out) hb); have n1_ := Aside0.mk (below_step (by repeat (first | (with_reducible first | exact HB.out | apply below_alloc | apply pw_below_drewN | apply below_drew1) | exact HB.out)) hb); clear HO962; clear HB; have HO962 := n0_; have HB := n1_; clear n0_ n1_; (try clear hb); (try clear hb2); (try clear hk); (try clear hi)) | (go_at_call 58; (with_reducible refine (span_Holds.calls k1 _ _ t959 t966 t967 _ ?side1 ?side2 ?side3 A39.out).mono ?_); (case side1 => repeat (first | exact (Kd.R_reads' HO962.out).2.2 | (with_reducible refine Kd.C_alloc ?_ _) | (with_reducible refine Kd.C_drewN ?_ _) | (with_reducible refine Kd.C_drew ?_))); (case side2 => exact (Kd.R_reads' HO962.out).2.1); (case side3 => exact Glob.step HG.out (by repeat (first | (with_reducible first | exact HB.out | apply below_alloc | apply pw_below_drewN | apply below_drew1) | exact HB.out))); rintro e w46 ⟨rfl, hb⟩; have n0_ := Aside0.mk (Kd.R_below (by (with_reducible repeat (first | apply Kd.R_alloc | apply Kd.R_drewN | apply Kd.R_drew)); exact HO962.out) hb); have n1_ := Aside0.mk (below_step (by repeat (first | (with_reducible first | exact HB.out | apply below_alloc | apply pw_below_drewN | apply below_drew1) | exact HB.out)) hb); clear HO962; clear HB; have HO962 := n0_; have HB := n1_; clear n0_ n1_; (try clear hb); (try clear hb2); (try clear hk); (try clear hi)))
          go_ret
          exact ⟨by first | rfl | (simp [errW_none, errW_some] <;> rfl) | (simp [*, errW_none, errW_some] <;> rfl), by repeat (first | (with_reducible first | exact HB.out | apply below_alloc | apply pw_below_drewN | apply below_drew1) | exact HB.out)⟩
         ·rw [if_neg c40] at H
          have c40b0 : ((Int.tmod (wrap64 (Int.tmod (IntKind.u64.wrap (a1)) 60)) 3) == 0) = false := beq_eq_false_iff_ne.mpr c40
          have c40b1 : ((Int.tmod (wrap64 (Int.tmod (IntKind.u64.wrap (a1)) 60)) 3) != 0) = true := bne_iff_ne.mpr c40
          obtain rfl := Option.some.inj H
          go_wp2_with (first | ((with_reducible refine gate_callee (f := 56) rfl ?_); refine goesL_ (some 39) rfl rfl Tryd.func56 (by kernel_rfl) rfl #[.string x5_1] rfl (by (try simp only [List.map_toArray, List.map_cons, List.map_nil]); first | done | rfl | (simp only [List.length_drop, List.length_take]; rfl)) ?_; (with_reducible refine (span_Parse.calls k1 x5_1 t959 t960 _ ?side1 A24.out).mono ?_); (case side1 => exact Glob.step HG.out (by repeat (first | (with_reducible first | exact HB.out | apply below_alloc | apply pw_below_drewN | apply below_drew1) | exact HB.out))); rintro e w47 ⟨v961, rfl, ho0, hb⟩; refine ⟨_, rfl, ?_⟩; have n0_ := Aside0.mk (Kd.R_lower ho0 (below_size (by repeat (first | (with_reducible first | exact HB.out | apply below_alloc | apply pw_below_drewN | apply below_drew1) | exact HB.out)))); have n1_ := Aside0.mk (below_step (by repeat (first | (with_reducible first | exact HB.out | apply below_alloc | apply pw_below_drewN | apply below_drew1) | exact HB.out)) hb); clear HB; have HO962 := n0_; have HB := n1_; clear n0_ n1_; (try clear hb); (try clear hb2); (try clear hk); (try clear hi); (try clear ho0)) | ((with_reducible refine gate_callee (f := 57) rfl ?_); refine goesL_ (some 58) rfl rfl Tryd.func57 (by kernel_rfl) rfl #[] rfl (by (try simp only [List.map_toArray, List.map_cons, List.map_nil]); first | done | rfl | (simp only [List.length_drop, List.length_take]; rfl)) ?_; (with_reducible refine (newellaw07_awake.calls k1  true _ ?side1 A32.out).mono ?_); (case side1 => exact Glob.step HG.out (by repeat (first | (with_reducible first | exact HB.out | apply below_alloc | apply pw_below_drewN | apply below_drew1) | exact HB.out))); rintro e w48 ⟨rfl, hb⟩; refine ⟨_, rfl, ?_⟩; have n0_ := Aside0.mk (Kd.R_below (by (with_reducible repeat (first | apply Kd.R_alloc | apply Kd.R_drewN | apply Kd.R_drew)); exact HO962.out) hb); have n1_ := Aside0.mk (below_step (by repeat (first | (with_reducible first | exact HB.out | apply below_alloc | apply pw_below_drewN | apply below_drew1) | exact HB.out)) hb); clear HO962; clear HB; have HO962 := n0_; have HB := n1_; clear n0_ n1_; (try clear hb); (try clear hb2); (try clear hk); (try clear hi); obtain ⟨Ao49, co49, eo49⟩ := Kd.R_slice HO962.out; subst eo49) | (go_at_call 59; (with_reducible refine (span_Text.calls k1 _ _ t959 t965 _ ?side1 ?side2 ?side3 A36.out).mono ?_); (case side1 => repeat (first | exact (Kd.R_reads' HO962.out).2.2 | (with_reducible refine Kd.C_alloc ?_ _) | (with_reducible refine Kd.C_drewN ?_ _) | (with_reducible refine Kd.C_drew ?_))); (case side2 => exact (Kd.R_reads' HO962.out).2.1); (case side3 => exact Glob.step HG.out (by repeat (first | (with_reducible first | exact HB.out | apply below_alloc | apply pw_below_drewN | apply below_drew1) | exact HB.out))); rintro e w50 ⟨rfl, hb⟩; have n0_ := Aside0.mk (Kd.R_below (by (with_reducible repeat (first | apply Kd.R_alloc | apply Kd.R_drewN | apply Kd.R_drew)); exact HO962.out) hb); have n1_ := Aside0.mk (below_step (by repeat (first | (with_reducible first | exact HB.out | apply below_alloc | apply pw_below_drewN | apply below_drew1) | exact HB.out)) hb); clear HO962; clear HB; have HO962 := n0_; have HB := n1_; clear n0_ n1_; (try clear hb); (try clear hb2); (try clear hk); (try clear hi)) | (go_at_call 33; (with_reducible refine (newelhelp_Digits.calls k1 (wrap64 (Int.tmod (IntKind.u64.wrap (a1)) 60)) t966 _ ?side1 A38.out).mono ?_); (case side1 => exact Glob.step HG.out (by repeat (first | (with_reducible first | exact HB.out | apply below_alloc | apply pw_below_drewN | apply below_drew1) | exact HB.out))); rintro e w51 ⟨rfl, hb⟩; have n0_ := Aside0.mk (Kd.R_below (by (with_reducible repeat (first | apply Kd.R_alloc | apply Kd.R_drewN | apply Kd.R_drew)); exact HO962.out) hb); have n1_ := Aside0.mk (below_step (by repeat (first | (with_reducible first | exact HB.out | apply below_alloc | apply pw_below_drewN | apply below_drew1) | exact HB.out)) hb); clear HO962; clear HB; have HO962 := n0_; have HB := n1_; clear n0_ n1_; (try clear hb); (try clear hb2); (try clear hk); (try clear hi)) | (go_at_call 58; (with_reducible refine (span_Holds.calls k1 _ _ t959 t966 t967 _ ?side1 ?side2 ?side3 A39.out).mono ?_); (case side1 => repeat (first | exact (Kd.R_reads' HO962.out).2.2 | (with_reducible refine Kd.C_alloc ?_ _) | (with_reducible refine Kd.C_drewN ?_ _) | (with_reducible refine Kd.C_drew ?_))); (case side2 => exact (Kd.R_reads' HO962.out).2.1); (case side3 => exact Glob.step HG.out (by repeat (first | (with_reducible first | exact HB.out | apply below_alloc | apply pw_below_drewN | apply below_drew1) | exact HB.out))); rintro e w52 ⟨rfl, hb⟩; have n0_ := Aside0.mk (Kd.R_below (by (with_reducible repeat (first | apply Kd.R_alloc | apply Kd.R_drewN | apply Kd.R_drew)); exact HO962.out) hb); have n1_ := Aside0.mk (below_step (by repeat (first | (with_reducible first | exact HB.out | apply below_alloc | apply pw_below_drewN | apply below_drew1) | exact HB.out)) hb); clear HO962; clear HB; have HO962 := n0_; have HB := n1_; clear n0_ n1_; (try clear hb); (try clear hb2); (try clear hk); (try clear hi)))
          go_ret
          exact ⟨by first | rfl | (simp [errW_none, errW_some] <;> rfl) | (simp [*, errW_none, errW_some] <;> rfl), by repeat (first | (with_reducible first | exact HB.out | apply below_alloc | apply pw_below_drewN | apply below_drew1) | exact HB.out)⟩
        ·rw [if_neg c37] at H
         have c37b0 : (t965.toList == x5_1.toList) = false := beq_eq_false_iff_ne.mpr c37
         have c37b1 : (t965.toList != x5_1.toList) = true := bne_iff_ne.mpr c37
         exfalso
         obtain rfl := Option.some.inj H
         exact absurd hr_ (by decide)
       ·rw [if_neg c35] at H
        have c35b0 : ((t959.length : Int) == (wrap64 (17 + (wrap64 (Int.tmod (IntKind.u64.wrap (a0)) 6))))) = false := beq_eq_false_iff_ne.mpr c35
        have c35b1 : ((t959.length : Int) != (wrap64 (17 + (wrap64 (Int.tmod (IntKind.u64.wrap (a0)) 6))))) = true := bne_iff_ne.mpr c35
        exfalso
        obtain rfl := Option.some.inj H
        exact absurd hr_ (by decide)
      ·rw [if_neg c34] at H
       have c34b0 : (t960 == 0) = false := beq_eq_false_iff_ne.mpr c34
       have c34b1 : (t960 != 0) = true := bne_iff_ne.mpr c34
       exfalso
       obtain rfl := Option.some.inj H
       exact absurd hr_ (by decide)
     ·replace c33 := Bool.eq_false_iff.mpr c33
      subst c33
      have H1 : (some false) = some r := by rw [if_neg (show ¬ (false = true) by decide)] at H; exact H
      clear H
      have H := H1
      clear H1
      exfalso
      obtain rfl := Option.some.inj H
      exact absurd hr_ (by decide)

end Go.Proofs.YtgdjfcmmpjcaaaaDoor.Q

namespace Go.Proofs.YtgdjfcmmpjcaaaaDoor.Q
open Go.RowKit Go.Proofs.YtgdjfcmmpjcaaaaDoorW.PrintWords Go.Proofs.YtgdjfcmmpjcaaaaDoorW.PrintLast Go.Proofs.YtgdjfcmmpjcaaaaDoorW.Own Go.Proofs.YtgdjfcmmpjcaaaaDoorW.PrintMore
set_option linter.unusedVariables false
set_option linter.unusedSimpArgs false
namespace Rd
open Go Go.RowKit
def Opens {α : Type} (t : TypeId) (d : Kd α) (wf : α → Prop) (bulk : α → Nat) : Prop :=
  Tryd.prog.cellsOf t = d.sz ∧ ∀ (H : Type) (enc : TypeId × Value → H) (W : World) (fuel : Nat) (cs : List Value) (dd : DataW H) (ps : List MemPlace),
    DataW.trod enc Tryd.prog W 0 (fun _ => true) true fuel t cs = some (dd, ps) → ∃ x, d.K W x cs ∧ wf x ∧ bulk x ≤ Rows.uptoBulk dd
def OpensF {β : Type} (fs : List Field) (off : Nat) (d : Kd β) (wf : β → Prop) (bulk : β → Nat) : Prop :=
  ∀ (H : Type) (enc : TypeId × Value → H) (W : World) (n : Nat) (cs : List Value) (xs : List (DataW H × List MemPlace)), xs.length = fs.length →
    (∀ (i : Nat) (f : Field), fs[i]? = some f → DataW.trod enc Tryd.prog W 0 (fun _ => true) true n f.type ((cs.drop f.offset).take (Tryd.prog.cellsOf f.type)) = xs[i]?) → cs.length = off + d.sz →
    ∃ x, d.K W x (cs.drop off) ∧ wf x ∧ bulk x ≤ Rows.uptoBulkAll (xs.map (·.1))
theorem OpensF.cons {α β : Type} {f : Field} {fs : List Field} {off off' : Nat} {a : Kd α} {b : Kd β} {wf : α → Prop} {bulk : α → Nat} {wf' : β → Prop} {bulk' : β → Nat} (ho : f.offset = off) (ho' : off' = off + a.sz) (h : Opens f.type a wf bulk) (hr : OpensF fs off' b wf' bulk') :
    OpensF (f :: fs) off (Kd.pair a b) (fun x => wf x.1 ∧ wf' x.2) (fun x => bulk x.1 + bulk' x.2) := by
  intro H enc W n cs xs hl ht hc
  subst ho'
  obtain ⟨hsz, hop⟩ := h
  obtain ⟨x0, xs', rfl⟩ : ∃ x0 xs', xs = x0 :: xs' := by
    match xs, hl with
    | x0 :: xs', _ => exact ⟨x0, xs', rfl⟩
  have h0 := ht 0 f rfl
  rw [ho, hsz] at h0
  obtain ⟨x, hk, hw, hb⟩ := hop H enc W n _ _ _ h0
  have hc' : cs.length = off + a.sz + b.sz := by
    have e : (Kd.pair a b).sz = a.sz + b.sz := rfl
    rw [e] at hc
    omega
  obtain ⟨y, hk', hw', hb'⟩ := hr H enc W n cs xs' (by simpa using hl) (fun i g hg => by have := ht (i + 1) g (by simpa using hg); simpa using this) hc'
  refine ⟨(x, y), ⟨(cs.drop off).take a.sz, cs.drop (off + a.sz), ?_, hk, hk'⟩, ⟨hw, hw'⟩, ?_⟩
  · rw [← List.drop_drop, List.take_append_drop]
  · simp only [List.map_cons, Rows.uptoBulkAll]
    omega
theorem glob {W : World} (h : W.ShapedOpen Tryd.prog) : Glob W :=
  cell_of_shapedOpen_int (g := 0) (t := 3) (zero := #[.int .i64 0]) (k := .i64) h (of_decide_eq_true (by kernel_rfl)) (by kernel_rfl) rfl (by kernel_rfl) (by kernel_rfl) Tryd.underlying3
end Rd
end Go.Proofs.YtgdjfcmmpjcaaaaDoor.Q

-- Printed by this session's wip/np.py over the kit's print program. Not trusted: Lean checks it.
namespace Go.Proofs.YtgdjfcmmpjcaaaaDoor.Q
open Go.RowKit Go.Proofs.YtgdjfcmmpjcaaaaDoorW.PrintWords Go.Proofs.YtgdjfcmmpjcaaaaDoorW.PrintLast Go.Proofs.YtgdjfcmmpjcaaaaDoorW.Own Go.Proofs.YtgdjfcmmpjcaaaaDoorW.PrintMore
set_option linter.unusedVariables false
set_option linter.unusedSimpArgs false

/-- The pure statement of newellaw07_SpanMany. -/
def newellaw07_SpanMany.Pure : Prop := ∀ (a0 : Int) (a1 : Int), ((Lit.int .i64 a0).wf = true) → ((Lit.int .i64 a1).wf = true) → ∃ k, newellaw07_SpanMany.f k a0 a1 = some true
end Go.Proofs.YtgdjfcmmpjcaaaaDoor.Q

namespace Go.Proofs.YtgdjfcmmpjcaaaaDoorW.Px
open Go
theorem ba_ext {a b : ByteArray} (h : a.data.toList = b.data.toList) : a = b := by
  cases a; cases b; simp at h; subst h; rfl
theorem ba_size (a : ByteArray) : a.size = a.data.toList.length := Array.length_toList.symm
theorem ba_append (a b : ByteArray) : (a ++ b).data.toList = a.data.toList ++ b.data.toList := by simp [ByteArray.data_append]
theorem ba_toList (a : ByteArray) : a.toList = a.data.toList := Lib.toList_data a
theorem ba_extract (a : ByteArray) (i j : Nat) : (a.extract i j).data.toList = (a.data.toList.take j).drop i := by
  simp [ByteArray.data_extract, List.extract_eq_take_drop, List.drop_take]
end Go.Proofs.YtgdjfcmmpjcaaaaDoorW.Px

namespace Go.Proofs.YtgdjfcmmpjcaaaaDoor.Pure
open Go Go.RowKit Go.Proofs.YtgdjfcmmpjcaaaaDoor.Q Go.Proofs.YtgdjfcmmpjcaaaaDoorW.PrintWords
theorem awake7_60 : newellaw07_awake.f 60 = some true := by kernel_rfl
theorem awake7_ge (k : Nat) (h : 60 ≤ k) : newellaw07_awake.f k = some true := by
  obtain ⟨j, rfl⟩ := Nat.exists_eq_add_of_le h
  clear h
  induction j with
  | zero => exact awake7_60
  | succ j ih => exact newellaw07_awake.mono _ _ ih
end Go.Proofs.YtgdjfcmmpjcaaaaDoor.Pure

namespace Go.Proofs.YtgdjfcmmpjcaaaaDoor.Pure
open Go Go.RowKit Go.Proofs.YtgdjfcmmpjcaaaaDoor.Q Go.Proofs.YtgdjfcmmpjcaaaaDoorW.PrintWords Go.Proofs.YtgdjfcmmpjcaaaaDoorW.PrintLast Go.Proofs.YtgdjfcmmpjcaaaaDoorW.Own Go.Proofs.YtgdjfcmmpjcaaaaDoorW.PrintMore Go.Proofs.YtgdjfcmmpjcaaaaDoorW.Px
set_option linter.unusedSimpArgs false
set_option linter.unusedVariables false
def sign (n : Int) : Bool := decide (33 ≤ n) && decide (n ≤ 126) && n != 91 && n != 93 && n != 40 && n != 41 && n != 44
def sign8 (c : UInt8) : Bool := sign (c.toNat : Int)
theorem bad_all : (List.range 256).all (fun n => words_Right_1.f (n : Int) == some (!sign (n : Int))) = true := by kernel_rfl
theorem bad_told (n : Int) (h0 : 0 ≤ n) (h1 : n < 256) : words_Right_1.f n = some (!sign n) := by
  have := List.all_eq_true.1 bad_all n.toNat (by simp; omega)
  rw [Int.toNat_of_nonneg h0] at this
  exact beq_iff_eq.1 this
theorem find_loop (s : ByteArray) (hs : s.size ≤ 1000000) : ∀ (d i k : Nat), i + d = s.size → slices_IndexFunc_byte_byte.l0 (k + d + 1) (bytesOf s) (s.size : Int) (i : Int) = some (if (s.data.toList.drop i).all sign8 then -1 else ((i + ((s.data.toList.drop i).takeWhile sign8).length : Nat) : Int)) := by
  intro d
  induction d with
  | zero =>
    intro i k h
    rw [slices_IndexFunc_byte_byte.l0, if_neg (by omega), show s.data.toList.drop i = [] from List.drop_eq_nil_of_le (by rw [← ba_size]; omega)]
    rfl
  | succ d ih =>
    intro i k h
    have hw : wrap64 ((i : Int) + 1) = ((i + 1 : Nat) : Int) := by unfold wrap64; omega
    have hl : i < s.data.toList.length := by rw [← ba_size]; omega
    have hr : rd (bytesOf s) (i : Int) = (((s.data.toList[i]'hl).toNat : Nat) : Int) := by
      unfold rd bytesOf
      simp [List.getD_eq_getElem?_getD, List.getElem?_map, List.getElem?_eq_getElem hl]
    have hc := (s.data.toList[i]'hl).toNat_lt
    have p0 : (i : Int) < (s.size : Int) := by omega
    have p1 : (0 : Int) ≤ (i : Int) := by omega
    have p2 : (i : Int) < ((bytesOf s).length : Int) := by rw [bytesOf_length]; omega
    rw [show k + (d + 1) + 1 = (k + d + 1) + 1 from by omega, slices_IndexFunc_byte_byte.l0, if_pos p0, if_pos p1, if_pos p2, hr, bad_told _ (by omega) (by omega), Option.bind_some, List.drop_eq_getElem_cons hl]
    by_cases c : sign8 (s.data.toList[i]'hl) = true
    · rw [if_neg (by unfold sign8 at c; rw [c]; decide), hw, ih _ _ (by omega), List.all_cons, c, Bool.true_and, List.takeWhile_cons, if_pos c, List.length_cons]
      congr 1
      by_cases e : (s.data.toList.drop (i + 1)).all sign8 = true
      · rw [if_pos e, if_pos e]
      · rw [if_neg e, if_neg e]; omega
    · have cf : sign8 (s.data.toList[i]'hl) = false := by simpa using c
      rw [if_pos (by unfold sign8 at cf; rw [cf]; rfl), List.all_cons, cf, Bool.false_and, List.takeWhile_cons, if_neg c]
      simp
def rightB (l : List UInt8) : Bool := decide (1 ≤ l.length) && decide (l.length ≤ 100) && l.all sign8
theorem right_told (s : ByteArray) (k : Nat) (hk : 101 ≤ k) : words_Right.f k s = some (rightB s.data.toList) := by
  unfold words_Right.f rightB
  have hz := ba_size s
  by_cases h : 1 ≤ s.size ∧ s.size ≤ 100
  · rw [if_pos h, decide_eq_true (show 1 ≤ s.data.toList.length by omega), decide_eq_true (show s.data.toList.length ≤ 100 by omega)]
    unfold slices_ContainsFunc_byte_byte.f slices_IndexFunc_byte_byte.f
    have := find_loop s (by omega) s.size 0 (k - s.size - 1) (by omega)
    rw [show k - s.size - 1 + s.size + 1 = k from by omega, show ((0 : Nat) : Int) = 0 from rfl, List.drop_zero] at this
    rw [bytesOf_length, this, Option.bind_some, Option.bind_some]
    by_cases e : s.data.toList.all sign8 = true
    · rw [if_pos e, e]; rfl
    · rw [if_neg e, Bool.eq_false_iff.2 e, decide_eq_true (by omega)]; rfl
  · rw [if_neg h]
    by_cases a : 1 ≤ s.size
    · rw [decide_eq_false (show ¬ s.data.toList.length ≤ 100 by omega)]; simp
    · rw [decide_eq_false (show ¬ 1 ≤ s.data.toList.length by omega)]; simp
end Go.Proofs.YtgdjfcmmpjcaaaaDoor.Pure

-- Printed by this session's wip/np.py over the kit's print program. Not trusted: Lean checks it.
namespace Go.Proofs.YtgdjfcmmpjcaaaaDoor.Q
open Go.RowKit Go.Proofs.YtgdjfcmmpjcaaaaDoorW.PrintWords Go.Proofs.YtgdjfcmmpjcaaaaDoorW.PrintLast Go.Proofs.YtgdjfcmmpjcaaaaDoorW.Own Go.Proofs.YtgdjfcmmpjcaaaaDoorW.PrintMore
attribute [local go_sem] max2_int min2_int max_two min_two max_three min_three max_four min_four
set_option linter.unusedVariables false
set_option linter.unusedSimpArgs false

theorem eqA38 (d : Nat) (w : World) (x0 y0 : Int) (x1 y1 : ByteArray) :
    (Op.equalIn (d + 2) 38 (.agg #[.int .i64 x0, .string x1]) (.agg #[.int .i64 y0, .string y1])).run Tryd.prog w = .ok (x0 == y0 && (x1.toList == y1.toList)) w := by
  refine eqA_of Tryd.underlying38 (by kernel_rfl) ?_
  refine eqf_cons (by rfl) (by go_simp; rfl) (by go_simp; rfl) (by go_simp) ?_
  exact eqf_last (by rfl) (by go_simp; rfl) (by go_simp; rfl) (by go_simp)
end Go.Proofs.YtgdjfcmmpjcaaaaDoor.Q

-- Printed by this session's wip/np.py over the kit's print program. Not trusted: Lean checks it.
namespace Go.Proofs.YtgdjfcmmpjcaaaaDoor.Q
open Go.RowKit Go.Proofs.YtgdjfcmmpjcaaaaDoorW.PrintWords Go.Proofs.YtgdjfcmmpjcaaaaDoorW.PrintLast Go.Proofs.YtgdjfcmmpjcaaaaDoorW.Own Go.Proofs.YtgdjfcmmpjcaaaaDoorW.PrintMore
attribute [local go_sem] max2_int min2_int max_two min_two max_three min_three max_four min_four
set_option linter.unusedVariables false
set_option linter.unusedSimpArgs false

attribute [local go_sem high] eqA38
/-! ### api_Word_1: function 70 -/
def api_Word_1.f (a0_0 : Int) (a0_1 : ByteArray) (a1_0 : Int) (a1_1 : ByteArray) : Option (Bool) := some (a0_0 == a1_0 && (a0_1.toList == a1_1.toList))
set_option maxHeartbeats 8000000 in
set_option maxRecDepth 100000 in
theorem api_Word_1.calls (a0_0 : Int) (a0_1 : ByteArray) (a1_0 : Int) (a1_1 : ByteArray) (r : Bool) (w : World) (hG : Glob w) (h : api_Word_1.f a0_0 a0_1 a1_0 a1_1 = some r) :
 Calls Tryd.prog 70 #[.agg #[.int .i64 a0_0, .string a0_1], .agg #[.int .i64 a1_0, .string a1_1]] w fun e w' => e = .returned (.bool r) ∧ Below w.heap.size w w' := by
 have hu38 := Tryd.underlying38
 have HG := Aside0.mk hG
 clear hG
 have HB := Aside0.mk (Below.refl w.heap.size w)
 have H : (some (a0_0 == a1_0 && (a0_1.toList == a1_1.toList))) = some r := h
 clear h
 obtain rfl := Option.some.inj H
 go_enter Tryd.func70, Tryd.ntmps70
 go_wp2_with (first | ((with_reducible refine gate_dst (N := 2) rfl ?_); refine box_event ?hg (N := 2) ?hd (cs := #[.int .i64 a0_0, .string a0_1]) (t := 38) ?hr ?_; (case hd => rfl); (case hg => rfl); (case hr => first | (go_simp; done) | (go_simp; rfl)); intro gb172 hg w3 hbox hb; have n0_ := Aside0.mk (below_step (by repeat (first | (with_reducible first | exact HB.out | apply below_alloc | apply pw_below_drewN | apply below_drew1) | exact HB.out)) hb); have n1_ := Aside0.mk (hbox); have n2_ := Aside0.mk ((by rw [hg]; exact (below_size (by repeat (first | (with_reducible first | exact HB.out | apply below_alloc | apply pw_below_drewN | apply below_drew1) | exact HB.out))) : w.heap.size ≤ gb172)); have n3_ := Aside0.mk ((by rw [hg]; exact (below_size (by repeat (first | (with_reducible first | exact HB.out | apply below_alloc | apply pw_below_drewN | apply below_drew1) | exact HB.out))) : w.heap.size ≤ gb172)); clear HB; have HB := n0_; have BK172 := n1_; have GW172 := n2_; have GE172 := n3_; clear n0_ n1_ n2_ n3_; clear hb hbox hg) | ((with_reducible refine gate_dst (N := 3) rfl ?_); refine box_event ?hg (N := 3) ?hd (cs := #[.int .i64 a1_0, .string a1_1]) (t := 38) ?hr ?_; (case hd => rfl); (case hg => rfl); (case hr => first | (go_simp; done) | (go_simp; rfl)); intro gb173 hg w4 hbox hb; have n0_ := Aside0.mk (blk_below (g := gb172) (o := .cells #[.int .i64 a0_0, .string a0_1] 38 (0, 0)) (by (with_reducible repeat (first | refine blk_drewN ?_ _ | refine blk_drew ?_ | refine blk_alloc ?_ _)); exact BK172.out) hb); have n1_ := Aside0.mk (below_step (by repeat (first | (with_reducible first | exact HB.out | apply below_alloc | apply pw_below_drewN | apply below_drew1 | refine below_set ?_ GE172.out) | exact HB.out)) hb); have n2_ := Aside0.mk (hbox); have n3_ := Aside0.mk ((by rw [hg]; exact (below_size (by repeat (first | (with_reducible first | exact HB.out | apply below_alloc | apply pw_below_drewN | apply below_drew1 | refine below_set ?_ GE172.out) | exact HB.out))) : w.heap.size ≤ gb173)); have n4_ := Aside0.mk ((by rw [hg]; exact (below_size (by repeat (first | (with_reducible first | exact HB.out | apply below_alloc | apply pw_below_drewN | apply below_drew1 | refine below_set ?_ GE172.out) | exact HB.out))) : w.heap.size ≤ gb173)); have n5_ := Aside0.mk ((by rw [hg]; exact Nat.ne_of_lt (blk_lt (g := gb172) (o := .cells #[.int .i64 a0_0, .string a0_1] 38 (0, 0)) (by (with_reducible repeat (first | refine blk_drewN ?_ _ | refine blk_drew ?_ | refine blk_alloc ?_ _)); exact BK172.out)) : gb172 ≠ gb173)); have n6_ := Aside0.mk ((by rw [hg]; exact Nat.ne_of_gt (blk_lt (g := gb172) (o := .cells #[.int .i64 a0_0, .string a0_1] 38 (0, 0)) (by (with_reducible repeat (first | refine blk_drewN ?_ _ | refine blk_drew ?_ | refine blk_alloc ?_ _)); exact BK172.out)) : gb173 ≠ gb172)); clear BK172; clear HB; have BK172 := n0_; have HB := n1_; have BK173 := n2_; have GW173 := n3_; have GE173 := n4_; have NB172_173 := n5_; have NB173_172 := n6_; clear n0_ n1_ n2_ n3_ n4_ n5_ n6_; clear hb hbox hg; have hnb5 := NB172_173.out; have hnc5 := NB173_172.out; have hcz6_0 : w4.cell? ⟨gb172, 0, none⟩ = some (.int .i64 a0_0) := (blk_cell BK172.out 0).trans rfl; have hcz6_1 : w4.cell? ⟨gb172, 1, none⟩ = some (.string a0_1) := (blk_cell BK172.out 1).trans rfl; have hfz6_0 := blk_frozen BK172.out 0; have hfz6_1 := blk_frozen BK172.out 1; have hcz7_0 : w4.cell? ⟨gb173, 0, none⟩ = some (.int .i64 a1_0) := (blk_cell BK173.out 0).trans rfl; have hcz7_1 : w4.cell? ⟨gb173, 1, none⟩ = some (.string a1_1) := (blk_cell BK173.out 1).trans rfl; have hfz7_0 := blk_frozen BK173.out 0; have hfz7_1 := blk_frozen BK173.out 1))
 go_ret
 exact ⟨by first | rfl | (simp [errW_none, errW_some] <;> rfl) | (simp [*, errW_none, errW_some] <;> rfl), by repeat (first | (with_reducible first | exact HB.out | apply below_alloc | apply pw_below_drewN | apply below_drew1 | refine below_set ?_ GE172.out | refine below_set ?_ GE173.out) | exact HB.out)⟩

end Go.Proofs.YtgdjfcmmpjcaaaaDoor.Q

-- Printed by this session's wip/np.py over the kit's print program. Not trusted: Lean checks it.
namespace Go.Proofs.YtgdjfcmmpjcaaaaDoor.Q
open Go.RowKit Go.Proofs.YtgdjfcmmpjcaaaaDoorW.PrintWords Go.Proofs.YtgdjfcmmpjcaaaaDoorW.PrintLast Go.Proofs.YtgdjfcmmpjcaaaaDoorW.Own Go.Proofs.YtgdjfcmmpjcaaaaDoorW.PrintMore
attribute [local go_sem] max2_int min2_int max_two min_two max_three min_three max_four min_four
set_option linter.unusedVariables false
set_option linter.unusedSimpArgs false

/-! ### api_Word_69: function 69 -/
def api_Word_69.l0 : Nat → List (S38) → List (S38) → Int → Option (Bool)
 | 0, _, _, _ => none
 | k + 1, x0, x1, x7 => if x7 < (x0.length : Int) then (if 0 ≤ x7 then (if x7 < (x1.length : Int) then ((api_Word_1.f ((rd_T38 x0 x7).f0) ((rd_T38 x0 x7).f1) ((rd_T38 x1 x7).f0) ((rd_T38 x1 x7).f1)).bind fun t176 => (if t176 = true then (api_Word_69.l0 k x0 x1 (wrap64 (x7 + 1))) else (some false))) else (none)) else (none)) else (some true)
def api_Word_69.f (k : Nat) (l0 : List (S38)) (l1 : List (S38))  : Option (Bool) := if (l0.length : Int) = (l1.length : Int) then (api_Word_69.l0 k l0 l1 0) else (some false)
theorem api_Word_69.mono_l : ∀ k, (∀ y0 y1 y2, LeO (api_Word_69.l0 k y0 y1 y2) (api_Word_69.l0 (k + 1) y0 y1 y2))
 | 0 => fun _ _ _ r h => by simp [api_Word_69.l0] at h
 | k + 1 => by
  have ih0 := api_Word_69.mono_l k
  ·intro y0 y1 y2
   unfold api_Word_69.l0
   repeat' first
   | (with_reducible exact ih0 _ _ _)
   | (with_reducible exact LeO.refl _)
   | (with_reducible exact LeO.none _)
   | (with_reducible refine LeO.ite ?_ ?_)
   | (with_reducible refine LeO.bind ?_ (fun _ => ?_))
   | exact ih0 _ _ _
   | exact LeO.none _
   | refine LeO.ite ?_ ?_
   | refine LeO.bind ?_ (fun _ => ?_)
theorem api_Word_69.mono : ∀ a0 a1 k, LeO (api_Word_69.f k a0 a1) (api_Word_69.f (k + 1) a0 a1) := by
 intro a0 a1 k
 have ih0 := api_Word_69.mono_l k
 unfold api_Word_69.f
 repeat' first
  | (with_reducible exact ih0 _ _ _)
  | (with_reducible exact LeO.refl _)
  | (with_reducible exact LeO.none _)
  | (with_reducible refine LeO.ite ?_ ?_)
  | (with_reducible refine LeO.bind ?_ (fun _ => ?_))
  | exact ih0 _ _ _
  | exact LeO.none _
  | refine LeO.ite ?_ ?_
  | refine LeO.bind ?_ (fun _ => ?_)
def api_Word_69.T6 : Bool × List (List Nat × List Nat) := (true, [([], []), ([], []), ([], []), ([1, 2], [1, 2]), ([3], [3]), ([], []), ([], []), ([5, 6], [5, 6]), ([7], [7]), ([0, 4, 8], [0, 4, 8]), ([9], [9])])
def api_Word_69.B6 : List Nat := [0, 0, 0, 6, 14, 0, 0, 96, 224, 511, 1023]
theorem api_Word_69.tab6 : rtab .any (opsOf Tryd.f69 6) = api_Word_69.T6 := by kernel_rfl
theorem api_Word_69.bits6 : waitsOk api_Word_69.T6.2 api_Word_69.B6 = true := by kernel_rfl
set_option maxHeartbeats 8000000 in
set_option maxRecDepth 100000 in
theorem api_Word_69.calls (k : Nat) (A0 : Option Addr) (c0 : Nat) (l0 : List (S38)) (A1 : Option Addr) (c1 : Nat) (l1 : List (S38))  (r : Bool) (w : World) (hr0 : Kd.C k38 w A0 l0.length l0) (hc0 : l0.length ≤ c0) (hr1 : Kd.C k38 w A1 l1.length l1) (hc1 : l1.length ≤ c1) (hG : Glob w) (h : api_Word_69.f k l0 l1 = some r) :
 Calls Tryd.prog 69 #[.slice A0 l0.length c0, .slice A1 l1.length c1, .func (.func 70) #[] #[]] w fun e w' => e = .returned (.bool r) ∧ Below w.heap.size w w' := by
 have hu38 := Tryd.underlying38
 have HG := Aside0.mk hG
 clear hG
 have HR0 := Aside0.mk hr0
 have HC0 := Aside0.mk hc0
 clear hr0 hc0
 have HR1 := Aside0.mk hr1
 have HC1 := Aside0.mk hc1
 clear hr1 hc1
 have HB := Aside0.mk (Below.refl w.heap.size w)
 have H : (if (l0.length : Int) = (l1.length : Int) then (api_Word_69.l0 k l0 l1 0) else (some false)) = some r := h
 clear h
 by_cases c4 : (l0.length : Int) = (l1.length : Int)
 ·rw [if_pos c4] at H
  have c4b0 : ((l0.length : Int) == (l1.length : Int)) = true := beq_iff_eq.mpr c4
  have c4b1 : ((l0.length : Int) != (l1.length : Int)) = false := bne_eq_false_iff_eq.mpr c4
  have c4b2 : (l0.length == l1.length) = true := by first | simpa using c4 | (simp at c4 ⊢; omega)
  clear c4
  have H' := Aside0.mk H
  clear H
  go_enter Tryd.func69, Tryd.ntmps69
  go_wp2
  go_loopg [7] k (fun kq v7 w' => ∃ (x7_1 : Int), v7 = .int .i64 x7_1 ∧ Aside0 (api_Word_69.l0 kq l0 l1 x7_1 = some r) ∧ Aside0 (kq ≤ k) ∧ Aside0 (Below w.heap.size w w'))
  case atStart => exact ⟨(0), (by first | rfl | (simp; done) | (simp [*]; done) | (simp; exact isEmpty_bne _)), H', ⟨Nat.le_refl _⟩, ⟨by repeat (first | (with_reducible first | exact HB.out | apply below_alloc | apply pw_below_drewN | apply below_drew1) | exact HB.out)⟩⟩
  case round =>
   clear H'
   try clear c1
   try clear p2
   try clear c4
   try clear c4b0
   try clear c4b1
   try clear c4b2
   obtain ⟨x7_1, rfl, HA, HK1, HB⟩ := hrel
   cases gk with
   | zero => exact absurd HA.out (by simp [api_Word_69.l0])
   | succ k1 =>
    have H := HA.out
    clear HA
    simp only [api_Word_69.l0] at H
    by_cases c5 : x7_1 < (l0.length : Int)
    ·rw [if_pos c5] at H
     have c5b0 : decide (x7_1 < (l0.length : Int)) = true := decide_eq_true c5
     clear c5
     by_cases c6 : 0 ≤ x7_1
     ·rw [if_pos c6] at H
      have c6b0 : decide (0 ≤ x7_1) = true := decide_eq_true c6
      clear c6
      by_cases c7 : x7_1 < (l1.length : Int)
      ·rw [if_pos c7] at H
       have c7b0 : decide (x7_1 < (l1.length : Int)) = true := decide_eq_true c7
       clear c7
       replace H := Option.bind_eq_some_iff.mp H
       obtain ⟨t176, A80, H⟩ := H
       replace H : (if t176 = true then (api_Word_69.l0 k1 l0 l1 (wrap64 (x7_1 + 1))) else (some false)) = some r := H
       have A8 := Aside0.mk A80
       clear A80
       by_cases c9 : t176 = true
       ·subst c9
        have H1 : (api_Word_69.l0 k1 l0 l1 (wrap64 (x7_1 + 1))) = some r := by rw [if_pos rfl] at H; exact H
        clear H
        have H := H1
        clear H1
        have H' := Aside0.mk H
        clear H
        try go_wp2
        have n0_ := Aside0.mk (below_drew1 HB.out)
        clear HB
        have HB := n0_
        clear n0_
        have p174 : 0 ≤ (x7_1 : Int) := of_decide_eq_true (by first | (with_reducible assumption) | assumption)
        have q174 : x7_1 < (l0.length : Int) := of_decide_eq_true (by first | (with_reducible assumption) | assumption)
        obtain ⟨ad174, e174, hx174_0, hx174_1⟩ := at_T38 HR0.out x7_1 p174 q174
        have hw174_1 := hx174_1
        have hw174_0 := hx174_0
        cases e174
        replace hx174_0 := (HB.out.cell (World.block_lt_of_cell? w _ hx174_0)).trans hx174_0
        replace hx174_1 := (HB.out.cell (World.block_lt_of_cell? w _ hx174_1)).trans hx174_1
        replace p174 := eq_true p174
        replace q174 := eq_true q174
        have p175 : 0 ≤ (x7_1 : Int) := of_decide_eq_true (by first | (with_reducible assumption) | assumption)
        have q175 : x7_1 < (l1.length : Int) := of_decide_eq_true (by first | (with_reducible assumption) | assumption)
        obtain ⟨ad175, e175, hx175_0, hx175_1⟩ := at_T38 HR1.out x7_1 p175 q175
        have hw175_1 := hx175_1
        have hw175_0 := hx175_0
        cases e175
        replace hx175_0 := (HB.out.cell (World.block_lt_of_cell? w _ hx175_0)).trans hx175_0
        replace hx175_1 := (HB.out.cell (World.block_lt_of_cell? w _ hx175_1)).trans hx175_1
        replace p175 := eq_true p175
        replace q175 := eq_true q175
        refine start_ (n := 11) (S := fun w' => w'.cell? (ad174.add ((x7_1).toNat * 2)) = some (.int .i64 ((rd_T38 l0 x7_1).f0)) ∧ w'.cell? ⟨(ad174.add ((x7_1).toNat * 2)).block, (ad174.add ((x7_1).toNat * 2)).off + 1, none⟩ = some (.string ((rd_T38 l0 x7_1).f1)) ∧ w'.cell? (ad175.add ((x7_1).toNat * 2)) = some (.int .i64 ((rd_T38 l1 x7_1).f0)) ∧ w'.cell? ⟨(ad175.add ((x7_1).toNat * 2)).block, (ad175.add ((x7_1).toNat * 2)).off + 1, none⟩ = some (.string ((rd_T38 l1 x7_1).f1))) (ds := []) #[false, false, false, false, false, false, false, false, false, false, false] (by kernel_rfl) rfl rfl ⟨((HB.out.cell (World.block_lt_of_cell? w _ hw174_0)).trans hw174_0), ((HB.out.cell (World.block_lt_of_cell? w _ hw174_1)).trans hw174_1), ((HB.out.cell (World.block_lt_of_cell? w _ hw175_0)).trans hw175_0), ((HB.out.cell (World.block_lt_of_cell? w _ hw175_1)).trans hw175_1)⟩ (fun hHeld => ?_); refine with_tabW api_Word_69.tab6 api_Word_69.bits6 (fun HT_ HW_ => ?_)
        generalize wr.drew = w10 at HB hx174_0 hx174_1 hx175_0 hx175_1 hHeld ⊢
        refine pure_ (i := 0) (N := some 19) (v := ?_) (a' := ?_) #[true, false, false, false, false, false, false, false, false, false, false] rfl rfl (any_of HT_.out (by kernel_rfl)) (fun _ _ _ h => h) (Or.inl ⟨by rfl, ?_⟩) ?_ ?_
        rotate_left
        ·intro w'
         go_simp
         with_reducible rfl
        rotate_left
        ·simp only [Act.put, List.setIfInBounds_toArray, List.set_cons_zero, List.set_cons_succ, i64_w, i32_w]
         rfl
        refine pure_ (i := 1) (N := some 20) (v := ?_) (a' := ?_) #[true, true, false, false, false, false, false, false, false, false, false] rfl rfl (any_of HT_.out (by kernel_rfl)) (fun _ _ _ h => h) (Or.inl ⟨by rfl, ?_⟩) ?_ ?_
        rotate_left
        ·intro w'
         go_simp
         with_reducible rfl
        rotate_left
        ·simp only [Act.put, List.setIfInBounds_toArray, List.set_cons_zero, List.set_cons_succ, i64_w, i32_w]
         rfl
        refine pure_ (i := 2) (N := some 21) (v := ?_) (a' := ?_) #[true, true, true, false, false, false, false, false, false, false, false] rfl rfl (any_of HT_.out (by kernel_rfl)) (fun _ _ _ h => h) (Or.inl ⟨by rfl, ?_⟩) ?_ ?_
        rotate_left
        ·intro w'
         go_simp
         with_reducible rfl
        rotate_left
        ·simp only [Act.put, List.setIfInBounds_toArray, List.set_cons_zero, List.set_cons_succ, i64_w, i32_w]
         rfl
        refine pure_ (i := 3) (N := some 22) (v := ?_) (a' := ?_) #[true, true, true, true, false, false, false, false, false, false, false] rfl rfl (any_of HT_.out (by kernel_rfl)) (fun _ _ _ h => h) (Or.inl ⟨by rfl, ?_⟩) ?_ ?_
        rotate_left
        ·intro w'
         go_simp
         with_reducible rfl
        rotate_left
        ·simp only [Act.put, List.setIfInBounds_toArray, List.set_cons_zero, List.set_cons_succ, i64_w, i32_w]
         rfl
        refine pure_ (i := 5) (N := some 24) (v := ?_) (a' := ?_) #[true, true, true, true, false, true, false, false, false, false, false] rfl rfl (any_of HT_.out (by kernel_rfl)) (fun _ _ _ h => h) (Or.inl ⟨by rfl, ?_⟩) ?_ ?_
        rotate_left
        ·intro w'
         go_simp
         with_reducible rfl
        rotate_left
        ·simp only [Act.put, List.setIfInBounds_toArray, List.set_cons_zero, List.set_cons_succ, i64_w, i32_w]
         rfl
        refine pure_ (i := 6) (N := some 25) (v := ?_) (a' := ?_) #[true, true, true, true, false, true, true, false, false, false, false] rfl rfl (any_of HT_.out (by kernel_rfl)) (fun _ _ _ h => h) (Or.inl ⟨by rfl, ?_⟩) ?_ ?_
        rotate_left
        ·intro w'
         go_simp
         with_reducible rfl
        rotate_left
        ·simp only [Act.put, List.setIfInBounds_toArray, List.set_cons_zero, List.set_cons_succ, i64_w, i32_w]
         rfl
        refine pure_ (i := 7) (N := some 26) (v := ?_) (a' := ?_) #[true, true, true, true, false, true, true, true, false, false, false] rfl rfl (any_of HT_.out (by kernel_rfl)) (fun _ _ _ h => h) (Or.inl ⟨by rfl, ?_⟩) ?_ ?_
        rotate_left
        ·intro w'
         go_simp
         with_reducible rfl
        rotate_left
        ·simp only [Act.put, List.setIfInBounds_toArray, List.set_cons_zero, List.set_cons_succ, i64_w, i32_w]
         rfl
        refine take_ (i := 4) (N := some 23) (v := ?_) (a' := ?_) #[true, true, true, true, true, true, true, true, false, false, false] rfl rfl (take_ofW HT_.out HW_.out (by kernel_rfl)) (fun _ _ _ h => h) (Or.inl ⟨by rfl, ?_⟩) hHeld ?_ ?_
        rotate_left
        ·rintro w' ⟨s0, s1, s2, s3⟩
         go_simp
         with_reducible rfl
        rotate_left
        ·simp only [Act.put, List.setIfInBounds_toArray, List.set_cons_zero, List.set_cons_succ, i64_w, i32_w]
         rfl
        refine take_ (i := 8) (N := some 27) (v := ?_) (a' := ?_) #[true, true, true, true, true, true, true, true, true, false, false] rfl rfl (take_ofW HT_.out HW_.out (by kernel_rfl)) (fun _ _ _ h => h) (Or.inl ⟨by rfl, ?_⟩) hHeld ?_ ?_
        rotate_left
        ·rintro w' ⟨s0, s1, s2, s3⟩
         go_simp
         with_reducible rfl
        rotate_left
        ·simp only [Act.put, List.setIfInBounds_toArray, List.set_cons_zero, List.set_cons_succ, i64_w, i32_w]
         rfl
        refine one_ (i := 9) (N := some 28) #[true, true, true, true, true, true, true, true, true, true, false] rfl rfl (one_of HT_.out (by kernel_rfl)) (by decide) (fun K hK => ?_)
        first | (refine goes_ Tryd.func70 (by kernel_rfl) rfl #[.agg #[.int .i64 ((rd_T38 l0 x7_1).f0), .string ((rd_T38 l0 x7_1).f1)], .agg #[.int .i64 ((rd_T38 l1 x7_1).f0), .string ((rd_T38 l1 x7_1).f1)]] (by rfl) rfl rfl (by (try simp only [List.map_toArray, List.map_cons, List.map_nil]); first | done | rfl | (simp only [List.length_drop, List.length_take]; rfl)) ?_) | (refine goesV_ Tryd.func70 (by kernel_rfl) rfl #[.agg #[.int .i64 ((rd_T38 l0 x7_1).f0), .string ((rd_T38 l0 x7_1).f1)], .agg #[.int .i64 ((rd_T38 l1 x7_1).f0), .string ((rd_T38 l1 x7_1).f1)]] (by rfl) rfl rfl rfl (by (try simp only [List.map_toArray, List.map_cons, List.map_nil]); first | done | rfl | (simp only [List.length_drop, List.length_take]; rfl)) ?_)
        with_reducible refine (api_Word_1.calls ((rd_T38 l0 x7_1).f0) ((rd_T38 l0 x7_1).f1) ((rd_T38 l1 x7_1).f0) ((rd_T38 l1 x7_1).f1) true _ ?side1 A8.out).mono ?_
        (case side1 => exact Glob.step HG.out (by repeat (first | (with_reducible first | exact HB.out | apply below_alloc | apply pw_below_drewN | apply below_drew1) | exact HB.out)))
        rintro e w11 ⟨rfl, hb⟩
        refine ⟨_, rfl, ?_⟩
        have n0_ := Aside0.mk (below_step (by repeat (first | (with_reducible first | exact HB.out | apply below_alloc | apply pw_below_drewN | apply below_drew1) | exact HB.out)) hb)
        clear HB
        have HB := n0_
        clear n0_
        (try clear hb)
        (try clear hb2)
        (try clear hk)
        (try clear hi)
        refine hK.out _ _ ⟨((HB.out.cell (World.block_lt_of_cell? w _ hw174_0)).trans hw174_0), ((HB.out.cell (World.block_lt_of_cell? w _ hw174_1)).trans hw174_1), ((HB.out.cell (World.block_lt_of_cell? w _ hw175_0)).trans hw175_0), ((HB.out.cell (World.block_lt_of_cell? w _ hw175_1)).trans hw175_1)⟩ (fun hHeld => ?_)
        clear hK K
        refine norm_ (a' := ?_) ?_ ?_
        rotate_left
        ·show Act.put _ (some 28) _ = _
         simp only [Act.put, List.setIfInBounds_toArray, List.set_cons_zero, List.set_cons_succ, i64_w, i32_w]
         rfl
        refine pure_ (i := 10) (N := some 29) (v := ?_) (a' := ?_) #[true, true, true, true, true, true, true, true, true, true, true] rfl rfl (any_of HT_.out (by kernel_rfl)) (fun _ _ _ h => h) (Or.inl ⟨by rfl, ?_⟩) ?_ ?_
        rotate_left
        ·intro w'
         go_simp
         with_reducible rfl
        rotate_left
        ·simp only [Act.put, List.setIfInBounds_toArray, List.set_cons_zero, List.set_cons_succ, i64_w, i32_w]
         rfl
        refine done_ (done_of HT_.out (by kernel_rfl)) ?_
        try go_wp2
        go_roundg k1
        case measure => have := HK1.out; omega
        case rel => exact ⟨(wrap64 (x7_1 + 1)), (by first | rfl | (simp; done) | (simp [*]; done) | (simp; exact isEmpty_bne _)), H', ⟨by have := HK1.out; omega⟩, ⟨by repeat (first | (with_reducible first | exact HB.out | apply below_alloc | apply pw_below_drewN | apply below_drew1) | exact HB.out)⟩⟩
       ·replace c9 := Bool.eq_false_iff.mpr c9
        subst c9
        have H1 : (some false) = some r := by rw [if_neg (show ¬ (false = true) by decide)] at H; exact H
        clear H
        have H := H1
        clear H1
        obtain rfl := Option.some.inj H
        try go_wp2
        have n0_ := Aside0.mk (below_drew1 HB.out)
        clear HB
        have HB := n0_
        clear n0_
        have p174 : 0 ≤ (x7_1 : Int) := of_decide_eq_true (by first | (with_reducible assumption) | assumption)
        have q174 : x7_1 < (l0.length : Int) := of_decide_eq_true (by first | (with_reducible assumption) | assumption)
        obtain ⟨ad174, e174, hx174_0, hx174_1⟩ := at_T38 HR0.out x7_1 p174 q174
        have hw174_1 := hx174_1
        have hw174_0 := hx174_0
        cases e174
        replace hx174_0 := (HB.out.cell (World.block_lt_of_cell? w _ hx174_0)).trans hx174_0
        replace hx174_1 := (HB.out.cell (World.block_lt_of_cell? w _ hx174_1)).trans hx174_1
        replace p174 := eq_true p174
        replace q174 := eq_true q174
        have p175 : 0 ≤ (x7_1 : Int) := of_decide_eq_true (by first | (with_reducible assumption) | assumption)
        have q175 : x7_1 < (l1.length : Int) := of_decide_eq_true (by first | (with_reducible assumption) | assumption)
        obtain ⟨ad175, e175, hx175_0, hx175_1⟩ := at_T38 HR1.out x7_1 p175 q175
        have hw175_1 := hx175_1
        have hw175_0 := hx175_0
        cases e175
        replace hx175_0 := (HB.out.cell (World.block_lt_of_cell? w _ hx175_0)).trans hx175_0
        replace hx175_1 := (HB.out.cell (World.block_lt_of_cell? w _ hx175_1)).trans hx175_1
        replace p175 := eq_true p175
        replace q175 := eq_true q175
        refine start_ (n := 11) (S := fun w' => w'.cell? (ad174.add ((x7_1).toNat * 2)) = some (.int .i64 ((rd_T38 l0 x7_1).f0)) ∧ w'.cell? ⟨(ad174.add ((x7_1).toNat * 2)).block, (ad174.add ((x7_1).toNat * 2)).off + 1, none⟩ = some (.string ((rd_T38 l0 x7_1).f1)) ∧ w'.cell? (ad175.add ((x7_1).toNat * 2)) = some (.int .i64 ((rd_T38 l1 x7_1).f0)) ∧ w'.cell? ⟨(ad175.add ((x7_1).toNat * 2)).block, (ad175.add ((x7_1).toNat * 2)).off + 1, none⟩ = some (.string ((rd_T38 l1 x7_1).f1))) (ds := []) #[false, false, false, false, false, false, false, false, false, false, false] (by kernel_rfl) rfl rfl ⟨((HB.out.cell (World.block_lt_of_cell? w _ hw174_0)).trans hw174_0), ((HB.out.cell (World.block_lt_of_cell? w _ hw174_1)).trans hw174_1), ((HB.out.cell (World.block_lt_of_cell? w _ hw175_0)).trans hw175_0), ((HB.out.cell (World.block_lt_of_cell? w _ hw175_1)).trans hw175_1)⟩ (fun hHeld => ?_); refine with_tabW api_Word_69.tab6 api_Word_69.bits6 (fun HT_ HW_ => ?_)
        generalize wr.drew = w12 at HB hx174_0 hx174_1 hx175_0 hx175_1 hHeld ⊢
        refine pure_ (i := 0) (N := some 19) (v := ?_) (a' := ?_) #[true, false, false, false, false, false, false, false, false, false, false] rfl rfl (any_of HT_.out (by kernel_rfl)) (fun _ _ _ h => h) (Or.inl ⟨by rfl, ?_⟩) ?_ ?_
        rotate_left
        ·intro w'
         go_simp
         with_reducible rfl
        rotate_left
        ·simp only [Act.put, List.setIfInBounds_toArray, List.set_cons_zero, List.set_cons_succ, i64_w, i32_w]
         rfl
        refine pure_ (i := 1) (N := some 20) (v := ?_) (a' := ?_) #[true, true, false, false, false, false, false, false, false, false, false] rfl rfl (any_of HT_.out (by kernel_rfl)) (fun _ _ _ h => h) (Or.inl ⟨by rfl, ?_⟩) ?_ ?_
        rotate_left
        ·intro w'
         go_simp
         with_reducible rfl
        rotate_left
        ·simp only [Act.put, List.setIfInBounds_toArray, List.set_cons_zero, List.set_cons_succ, i64_w, i32_w]
         rfl
        refine pure_ (i := 2) (N := some 21) (v := ?_) (a' := ?_) #[true, true, true, false, false, false, false, false, false, false, false] rfl rfl (any_of HT_.out (by kernel_rfl)) (fun _ _ _ h => h) (Or.inl ⟨by rfl, ?_⟩) ?_ ?_
        rotate_left
        ·intro w'
         go_simp
         with_reducible rfl
        rotate_left
        ·simp only [Act.put, List.setIfInBounds_toArray, List.set_cons_zero, List.set_cons_succ, i64_w, i32_w]
         rfl
        refine pure_ (i := 3) (N := some 22) (v := ?_) (a' := ?_) #[true, true, true, true, false, false, false, false, false, false, false] rfl rfl (any_of HT_.out (by kernel_rfl)) (fun _ _ _ h => h) (Or.inl ⟨by rfl, ?_⟩) ?_ ?_
        rotate_left
        ·intro w'
         go_simp
         with_reducible rfl
        rotate_left
        ·simp only [Act.put, List.setIfInBounds_toArray, List.set_cons_zero, List.set_cons_succ, i64_w, i32_w]
         rfl
        refine pure_ (i := 5) (N := some 24) (v := ?_) (a' := ?_) #[true, true, true, true, false, true, false, false, false, false, false] rfl rfl (any_of HT_.out (by kernel_rfl)) (fun _ _ _ h => h) (Or.inl ⟨by rfl, ?_⟩) ?_ ?_
        rotate_left
        ·intro w'
         go_simp
         with_reducible rfl
        rotate_left
        ·simp only [Act.put, List.setIfInBounds_toArray, List.set_cons_zero, List.set_cons_succ, i64_w, i32_w]
         rfl
        refine pure_ (i := 6) (N := some 25) (v := ?_) (a' := ?_) #[true, true, true, true, false, true, true, false, false, false, false] rfl rfl (any_of HT_.out (by kernel_rfl)) (fun _ _ _ h => h) (Or.inl ⟨by rfl, ?_⟩) ?_ ?_
        rotate_left
        ·intro w'
         go_simp
         with_reducible rfl
        rotate_left
        ·simp only [Act.put, List.setIfInBounds_toArray, List.set_cons_zero, List.set_cons_succ, i64_w, i32_w]
         rfl
        refine pure_ (i := 7) (N := some 26) (v := ?_) (a' := ?_) #[true, true, true, true, false, true, true, true, false, false, false] rfl rfl (any_of HT_.out (by kernel_rfl)) (fun _ _ _ h => h) (Or.inl ⟨by rfl, ?_⟩) ?_ ?_
        rotate_left
        ·intro w'
         go_simp
         with_reducible rfl
        rotate_left
        ·simp only [Act.put, List.setIfInBounds_toArray, List.set_cons_zero, List.set_cons_succ, i64_w, i32_w]
         rfl
        refine take_ (i := 4) (N := some 23) (v := ?_) (a' := ?_) #[true, true, true, true, true, true, true, true, false, false, false] rfl rfl (take_ofW HT_.out HW_.out (by kernel_rfl)) (fun _ _ _ h => h) (Or.inl ⟨by rfl, ?_⟩) hHeld ?_ ?_
        rotate_left
        ·rintro w' ⟨s0, s1, s2, s3⟩
         go_simp
         with_reducible rfl
        rotate_left
        ·simp only [Act.put, List.setIfInBounds_toArray, List.set_cons_zero, List.set_cons_succ, i64_w, i32_w]
         rfl
        refine take_ (i := 8) (N := some 27) (v := ?_) (a' := ?_) #[true, true, true, true, true, true, true, true, true, false, false] rfl rfl (take_ofW HT_.out HW_.out (by kernel_rfl)) (fun _ _ _ h => h) (Or.inl ⟨by rfl, ?_⟩) hHeld ?_ ?_
        rotate_left
        ·rintro w' ⟨s0, s1, s2, s3⟩
         go_simp
         with_reducible rfl
        rotate_left
        ·simp only [Act.put, List.setIfInBounds_toArray, List.set_cons_zero, List.set_cons_succ, i64_w, i32_w]
         rfl
        refine one_ (i := 9) (N := some 28) #[true, true, true, true, true, true, true, true, true, true, false] rfl rfl (one_of HT_.out (by kernel_rfl)) (by decide) (fun K hK => ?_)
        first | (refine goes_ Tryd.func70 (by kernel_rfl) rfl #[.agg #[.int .i64 ((rd_T38 l0 x7_1).f0), .string ((rd_T38 l0 x7_1).f1)], .agg #[.int .i64 ((rd_T38 l1 x7_1).f0), .string ((rd_T38 l1 x7_1).f1)]] (by rfl) rfl rfl (by (try simp only [List.map_toArray, List.map_cons, List.map_nil]); first | done | rfl | (simp only [List.length_drop, List.length_take]; rfl)) ?_) | (refine goesV_ Tryd.func70 (by kernel_rfl) rfl #[.agg #[.int .i64 ((rd_T38 l0 x7_1).f0), .string ((rd_T38 l0 x7_1).f1)], .agg #[.int .i64 ((rd_T38 l1 x7_1).f0), .string ((rd_T38 l1 x7_1).f1)]] (by rfl) rfl rfl rfl (by (try simp only [List.map_toArray, List.map_cons, List.map_nil]); first | done | rfl | (simp only [List.length_drop, List.length_take]; rfl)) ?_)
        with_reducible refine (api_Word_1.calls ((rd_T38 l0 x7_1).f0) ((rd_T38 l0 x7_1).f1) ((rd_T38 l1 x7_1).f0) ((rd_T38 l1 x7_1).f1) false _ ?side1 A8.out).mono ?_
        (case side1 => exact Glob.step HG.out (by repeat (first | (with_reducible first | exact HB.out | apply below_alloc | apply pw_below_drewN | apply below_drew1) | exact HB.out)))
        rintro e w13 ⟨rfl, hb⟩
        refine ⟨_, rfl, ?_⟩
        have n0_ := Aside0.mk (below_step (by repeat (first | (with_reducible first | exact HB.out | apply below_alloc | apply pw_below_drewN | apply below_drew1) | exact HB.out)) hb)
        clear HB
        have HB := n0_
        clear n0_
        (try clear hb)
        (try clear hb2)
        (try clear hk)
        (try clear hi)
        refine hK.out _ _ ⟨((HB.out.cell (World.block_lt_of_cell? w _ hw174_0)).trans hw174_0), ((HB.out.cell (World.block_lt_of_cell? w _ hw174_1)).trans hw174_1), ((HB.out.cell (World.block_lt_of_cell? w _ hw175_0)).trans hw175_0), ((HB.out.cell (World.block_lt_of_cell? w _ hw175_1)).trans hw175_1)⟩ (fun hHeld => ?_)
        clear hK K
        refine norm_ (a' := ?_) ?_ ?_
        rotate_left
        ·show Act.put _ (some 28) _ = _
         simp only [Act.put, List.setIfInBounds_toArray, List.set_cons_zero, List.set_cons_succ, i64_w, i32_w]
         rfl
        refine pure_ (i := 10) (N := some 29) (v := ?_) (a' := ?_) #[true, true, true, true, true, true, true, true, true, true, true] rfl rfl (any_of HT_.out (by kernel_rfl)) (fun _ _ _ h => h) (Or.inl ⟨by rfl, ?_⟩) ?_ ?_
        rotate_left
        ·intro w'
         go_simp
         with_reducible rfl
        rotate_left
        ·simp only [Act.put, List.setIfInBounds_toArray, List.set_cons_zero, List.set_cons_succ, i64_w, i32_w]
         rfl
        refine done_ (done_of HT_.out (by kernel_rfl)) ?_
        try go_wp2
        go_ret
        exact ⟨by first | rfl | (simp [errW_none, errW_some] <;> rfl) | (simp [*, errW_none, errW_some] <;> rfl), by repeat (first | (with_reducible first | exact HB.out | apply below_alloc | apply pw_below_drewN | apply below_drew1) | exact HB.out)⟩
      ·rw [if_neg c7] at H
       exact absurd H (by simp)
     ·rw [if_neg c6] at H
      exact absurd H (by simp)
    ·rw [if_neg c5] at H
     have c5b0 : decide (x7_1 < (l0.length : Int)) = false := decide_eq_false c5
     clear c5
     obtain rfl := Option.some.inj H
     go_wp2
     go_ret
     exact ⟨by first | rfl | (simp [errW_none, errW_some] <;> rfl) | (simp [*, errW_none, errW_some] <;> rfl), by repeat (first | (with_reducible first | exact HB.out | apply below_alloc | apply pw_below_drewN | apply below_drew1) | exact HB.out)⟩
 ·rw [if_neg c4] at H
  have c4b0 : ((l0.length : Int) == (l1.length : Int)) = false := beq_eq_false_iff_ne.mpr c4
  have c4b1 : ((l0.length : Int) != (l1.length : Int)) = true := bne_iff_ne.mpr c4
  have c4b2 : (l0.length == l1.length) = false := by first | simpa using c4 | (simp at c4 ⊢; omega)
  obtain rfl := Option.some.inj H
  go_enter Tryd.func69, Tryd.ntmps69
  go_wp2
  go_ret
  exact ⟨by first | rfl | (simp [errW_none, errW_some] <;> rfl) | (simp [*, errW_none, errW_some] <;> rfl), by repeat (first | (with_reducible first | exact HB.out | apply below_alloc | apply pw_below_drewN | apply below_drew1) | exact HB.out)⟩

end Go.Proofs.YtgdjfcmmpjcaaaaDoor.Q

-- Printed by this session's wip/np.py over the kit's print program. Not trusted: Lean checks it.
namespace Go.Proofs.YtgdjfcmmpjcaaaaDoor.Q
open Go.RowKit Go.Proofs.YtgdjfcmmpjcaaaaDoorW.PrintWords Go.Proofs.YtgdjfcmmpjcaaaaDoorW.PrintLast Go.Proofs.YtgdjfcmmpjcaaaaDoorW.Own Go.Proofs.YtgdjfcmmpjcaaaaDoorW.PrintMore
attribute [local go_sem] max2_int min2_int max_two min_two max_three min_three max_four min_four
set_option linter.unusedVariables false
set_option linter.unusedSimpArgs false

/-! ### api_Word_30: function 30 -/
def api_Word_30.f (k : Nat) (l0 : List (S38)) (l1 : List (S38)) : Option (Bool) := (api_Word_69.f k l0 l1).bind fun t177 => (some t177)
theorem api_Word_30.mono : ∀ a0 a1 k, LeO (api_Word_30.f k a0 a1) (api_Word_30.f (k + 1) a0 a1) := by
 intro a0 a1 k
 unfold api_Word_30.f
 repeat' first
  | (with_reducible exact api_Word_69.mono _ _ _)
  | (with_reducible exact LeO.refl _)
  | (with_reducible exact LeO.none _)
  | (with_reducible refine LeO.ite ?_ ?_)
  | (with_reducible refine LeO.bind ?_ (fun _ => ?_))
  | exact api_Word_69.mono _ _ _
  | exact LeO.none _
  | refine LeO.ite ?_ ?_
  | refine LeO.bind ?_ (fun _ => ?_)
set_option maxHeartbeats 8000000 in
set_option maxRecDepth 100000 in
theorem api_Word_30.calls (k : Nat) (A0 : Option Addr) (c0 : Nat) (l0 : List (S38)) (A1 : Option Addr) (c1 : Nat) (l1 : List (S38)) (r : Bool) (w : World) (hr0 : Kd.C k38 w A0 l0.length l0) (hc0 : l0.length ≤ c0) (hr1 : Kd.C k38 w A1 l1.length l1) (hc1 : l1.length ≤ c1) (hG : Glob w) (h : api_Word_30.f k l0 l1 = some r) :
 Calls Tryd.prog 30 #[.slice A0 l0.length c0, .slice A1 l1.length c1] w fun e w' => e = .returned (.bool r) ∧ Below w.heap.size w w' := by
 have HG := Aside0.mk hG
 clear hG
 have HR0 := Aside0.mk hr0
 have HC0 := Aside0.mk hc0
 clear hr0 hc0
 have HR1 := Aside0.mk hr1
 have HC1 := Aside0.mk hc1
 clear hr1 hc1
 have HB := Aside0.mk (Below.refl w.heap.size w)
 have H : ((api_Word_69.f k l0 l1).bind fun t177 => (some t177)) = some r := h
 clear h
 replace H := Option.bind_eq_some_iff.mp H
 obtain ⟨t177, A30, H⟩ := H
 replace H : (some t177) = some r := H
 have A3 := Aside0.mk A30
 clear A30
 obtain rfl := Option.some.inj H
 go_enter Tryd.func30, Tryd.ntmps30
 go_wp2_with (first | ((with_reducible refine gate_callee (f := 69) rfl ?_); refine goesL_ (some 7) rfl rfl Tryd.func69 (by kernel_rfl) rfl #[.slice A0 l0.length c0, .slice A1 l1.length c1, .func (.func 70) #[] #[]] rfl (by (try simp only [List.map_toArray, List.map_cons, List.map_nil]); first | done | rfl | (simp only [List.length_drop, List.length_take]; rfl)) ?_; (with_reducible refine (api_Word_69.calls k _ _ l0 _ _ l1  t177 _ ?side1 ?side2 ?side3 ?side4 ?side5 A3.out).mono ?_); (case side1 => repeat (first | exact HR0.out | (with_reducible refine Kd.C_alloc ?_ _) | (with_reducible refine Kd.C_drewN ?_ _) | (with_reducible refine Kd.C_drew ?_))); (case side2 => exact HC0.out); (case side3 => repeat (first | exact HR1.out | (with_reducible refine Kd.C_alloc ?_ _) | (with_reducible refine Kd.C_drewN ?_ _) | (with_reducible refine Kd.C_drew ?_))); (case side4 => exact HC1.out); (case side5 => exact Glob.step HG.out (by repeat (first | (with_reducible first | exact HB.out | apply below_alloc | apply pw_below_drewN | apply below_drew1) | exact HB.out))); rintro e w4 ⟨rfl, hb⟩; refine ⟨_, rfl, ?_⟩; have n0_ := Aside0.mk (below_step (by repeat (first | (with_reducible first | exact HB.out | apply below_alloc | apply pw_below_drewN | apply below_drew1) | exact HB.out)) hb); clear HB; have HB := n0_; clear n0_; (try clear hb); (try clear hb2); (try clear hk); (try clear hi)))
 go_ret
 exact ⟨by first | rfl | (simp [errW_none, errW_some] <;> rfl) | (simp [*, errW_none, errW_some] <;> rfl), by repeat (first | (with_reducible first | exact HB.out | apply below_alloc | apply pw_below_drewN | apply below_drew1) | exact HB.out)⟩

end Go.Proofs.YtgdjfcmmpjcaaaaDoor.Q

-- Printed by this session's wip/np.py over the kit's print program. Not trusted: Lean checks it.
namespace Go.Proofs.YtgdjfcmmpjcaaaaDoor.Q
open Go.RowKit Go.Proofs.YtgdjfcmmpjcaaaaDoorW.PrintWords Go.Proofs.YtgdjfcmmpjcaaaaDoorW.PrintLast Go.Proofs.YtgdjfcmmpjcaaaaDoorW.Own Go.Proofs.YtgdjfcmmpjcaaaaDoorW.PrintMore
attribute [local go_sem] max2_int min2_int max_two min_two max_three min_three max_four min_four
set_option linter.unusedVariables false
set_option linter.unusedSimpArgs false

/-! ### newelref01_Digit: function 78 -/
def newelref01_Digit.f (a0 : Int) : Option (Bool) := if a0 ≥ 48 then (some (decide (a0 ≤ 57))) else (some false)
set_option maxHeartbeats 8000000 in
set_option maxRecDepth 100000 in
theorem newelref01_Digit.calls (a0 : Int) (r : Bool) (w : World) (hG : Glob w) (h : newelref01_Digit.f a0 = some r) :
 Calls Tryd.prog 78 #[.int .u8 a0] w fun e w' => e = .returned (.bool r) ∧ Drawn0 w w' := by
 have HG := Aside0.mk hG
 clear hG
 have H : (if a0 ≥ 48 then (some (decide (a0 ≤ 57))) else (some false)) = some r := h
 clear h
 by_cases c2 : a0 ≥ 48
 ·rw [if_pos c2] at H
  have c2b0 : decide (48 ≤ a0) = true := decide_eq_true c2
  clear c2
  obtain rfl := Option.some.inj H
  go_enter Tryd.func78, Tryd.ntmps78
  go_wp2
  go_ret
  exact ⟨by first | rfl | (simp; done) | (simp [*]; done), by repeat (first | exact Drawn0.refl _ | apply Drawn0.step)⟩
 ·rw [if_neg c2] at H
  have c2b0 : decide (48 ≤ a0) = false := decide_eq_false c2
  clear c2
  obtain rfl := Option.some.inj H
  go_enter Tryd.func78, Tryd.ntmps78
  go_wp2
  go_ret
  exact ⟨by first | rfl | (simp; done) | (simp [*]; done), by repeat (first | exact Drawn0.refl _ | apply Drawn0.step)⟩

end Go.Proofs.YtgdjfcmmpjcaaaaDoor.Q

namespace Go.Proofs.YtgdjfcmmpjcaaaaDoor.Pure
open Go Go.Proofs.YtgdjfcmmpjcaaaaDoorW.Px
set_option linter.unusedSimpArgs false
set_option linter.unusedVariables false
structure Pt where
  tx : List UInt8
  da : Bool
  nu : Bool
def isD (c : UInt8) : Bool := decide (48 ≤ c.toNat) && decide (c.toNat ≤ 57)
def lowB (c : UInt8) : UInt8 := if 65 ≤ c.toNat ∧ c.toNat ≤ 90 then c + 32 else c
def likeP (t : List UInt8) (c : UInt8) : Bool := match t.getLast? with
  | none => true
  | some d => isD d == isD c
def stepP (r : List Pt × Pt) (c : UInt8) : List Pt × Pt :=
  if c == 46 || c == 45 then (r.1 ++ [r.2], ⟨[], c == 45, false⟩)
  else if likeP r.2.tx c then (r.1, ⟨r.2.tx ++ [c], r.2.da, r.2.nu⟩)
  else (r.1 ++ [⟨r.2.tx, r.2.da, isD c⟩], ⟨[c], true, false⟩)
def runP (r : List Pt × Pt) (l : List UInt8) : List Pt × Pt := l.foldl stepP r
def allP (r : List Pt × Pt) : List Pt := r.1 ++ [r.2]
def p0 : List Pt × Pt := ([], ⟨[], false, false⟩)
def partsL (l : List UInt8) : List Pt := allP (runP p0 l)
abbrev Wl := Int × List UInt8
abbrev tA : List UInt8 := [97, 108, 112, 104, 97]
abbrev tB : List UInt8 := [98, 101, 116, 97]
abbrev tM : List UInt8 := [109, 105, 108, 101, 115, 116, 111, 110, 101]
abbrev tRc : List UInt8 := [114, 99]
abbrev tCr : List UInt8 := [99, 114]
abbrev tS : List UInt8 := [115, 110, 97, 112, 115, 104, 111, 116]
abbrev tGa : List UInt8 := [103, 97]
abbrev tFi : List UInt8 := [102, 105, 110, 97, 108]
abbrev tRe : List UInt8 := [114, 101, 108, 101, 97, 115, 101]
abbrev tSp : List UInt8 := [115, 112]
def kindL (t : List UInt8) (nu : Bool) : Int :=
  if t = tA ∨ nu = true ∧ t = [97] then 1
  else if t = tB ∨ nu = true ∧ t = [98] then 2
  else if t = tM ∨ nu = true ∧ t = [109] then 3
  else if t = tRc ∨ t = tCr then 4
  else if t = tS then 5
  else if t = tGa ∨ t = tFi ∨ t = tRe then 6
  else if t = tSp then 7
  else 8
def numL (t : List UInt8) (da : Bool) : Wl :=
  if t.dropWhile (· == 48) = [] then (6, []) else if da = true then (9, t.dropWhile (· == 48)) else (10, t.dropWhile (· == 48))
def letL (t : List UInt8) (nu : Bool) : Wl := if kindL t nu = 8 then (8, t) else (kindL t nu, [])
def numb (t : List UInt8) : Bool := match t with
  | [] => true
  | c :: _ => isD c
def wordL (p : Pt) : Wl := if numb p.tx = true then numL p.tx p.da else letL p.tx p.nu
def aheadL : List Wl → Bool
  | [] => false
  | w :: _ => w.1 == 6 || w.1 == 10
def pushL (w : Wl) (out : List Wl) : List Wl := if w.1 = 6 ∧ aheadL out = false then out else w :: out
def outL (l : List Pt) : List Wl := (l.map wordL).foldr pushL []
def splitL (l : List UInt8) : List Wl := outL (partsL (l.map lowB))
end Go.Proofs.YtgdjfcmmpjcaaaaDoor.Pure

namespace Go.Proofs.YtgdjfcmmpjcaaaaDoor.Pure
open Go Go.RowKit Go.Proofs.YtgdjfcmmpjcaaaaDoor.Q Go.Proofs.YtgdjfcmmpjcaaaaDoorW.PrintWords Go.Proofs.YtgdjfcmmpjcaaaaDoorW.PrintLast Go.Proofs.YtgdjfcmmpjcaaaaDoorW.Own Go.Proofs.YtgdjfcmmpjcaaaaDoorW.PrintMore Go.Proofs.YtgdjfcmmpjcaaaaDoorW.Px
set_option linter.unusedSimpArgs false
set_option linter.unusedVariables false
def ts (l : List UInt8) : ByteArray := ⟨l.toArray⟩
theorem ts_list (l : List UInt8) : (ts l).data.toList = l := rfl
theorem ts_toList (l : List UInt8) : (ts l).toList = l := by rw [ba_toList]; rfl
theorem ts_data (a : ByteArray) : ts a.data.toList = a := ba_ext rfl
theorem ts_size (l : List UInt8) : (ts l).size = l.length := by rw [ba_size]; rfl
theorem ts_append (a b : List UInt8) : ts a ++ ts b = ts (a ++ b) := ba_ext (by rw [ba_append]; rfl)
theorem bt_nat (l : List UInt8) (i : Nat) (h : i < l.length) : bt (ts l) (i : Int) = ((l[i].toNat : Nat) : Int) := by
  have h' : i < (ts l).size := by rw [ts_size]; exact h
  unfold bt
  simp [h']
  rfl
theorem num_byte (c : UInt8) : strOfNums [(c.toNat : Int)] = ts [c] := by
  apply ba_ext
  show [UInt8.ofNat (Int.toNat (c.toNat : Int))] = [c]
  rw [Int.toNat_natCast]; simp
theorem digit_told (c : UInt8) : chars_Digit.f (c.toNat : Int) = some (isD c) := by
  unfold chars_Digit.f isD
  by_cases h : (c.toNat : Int) ≥ 48
  · rw [if_pos h, decide_eq_true (show 48 ≤ c.toNat by omega), Bool.true_and]
    congr 1
    by_cases g : c.toNat ≤ 57
    · rw [decide_eq_true g, decide_eq_true (by omega)]
    · rw [decide_eq_false g, decide_eq_false (by omega)]
  · rw [if_neg h, decide_eq_false (show ¬ 48 ≤ c.toNat by omega), Bool.false_and]
def p93 (p : Pt) : S93 := ⟨ts p.tx, p.da, p.nu⟩
theorem last_of (n : Nat) (h : n < 4611686018427387904) : wrap64 (((n + 1 : Nat) : Int) - 1) = (n : Int) := by unfold wrap64; omega
theorem next_of (i : Nat) (h : i < 4611686018427387904) : wrap64 ((i : Int) + 1) = ((i + 1 : Nat) : Int) := by unfold wrap64; omega
theorem beq_toNat (c : UInt8) (n : Nat) (h : n < 256) : ((c.toNat : Int) = (n : Int)) ↔ c = UInt8.ofNat n := by
  constructor
  · intro h
    have : c.toNat = n := by omega
    rw [← this]; simp
  · rintro rfl
    simp; omega
section
variable {T : Type} (g : Pt → T)
theorem all_len (r : List Pt × Pt) : ((allP r).map g).length = r.1.length + 1 := by simp [allP]
theorem all_getD (r : List Pt × Pt) (z : T) : ((allP r).map g).getD ((r.1.length : Int)).toNat z = g r.2 := by
  simp [allP, List.getD_eq_getElem?_getD]
theorem all_set (r : List Pt × Pt) (x : T) : ((allP r).map g).set ((r.1.length : Int)).toNat x = r.1.map g ++ [x] := by
  simp [allP, List.set_append]
theorem all_put (r : List Pt × Pt) (p : Pt) (x : T) (h : x = g p) : ((allP r).map g).set ((r.1.length : Int)).toNat x = (allP (r.1, p)).map g := by
  rw [all_set, h]; simp [allP]
theorem all_add (r : List Pt × Pt) (p : Pt) (x : T) (h : x = g p) : (allP r).map g ++ [x] = (allP (r.1 ++ [r.2], p)).map g := by
  rw [h]; simp [allP]
end
theorem stepP_sep (r : List Pt × Pt) (c : UInt8) (h : c = 46 ∨ c = 45) : stepP r c = (r.1 ++ [r.2], ⟨[], c == 45, false⟩) := by
  unfold stepP
  rw [if_pos (by rcases h with rfl | rfl <;> decide)]
theorem stepP_like (r : List Pt × Pt) (c : UInt8) (h : ¬ (c = 46 ∨ c = 45)) (h2 : likeP r.2.tx c = true) : stepP r c = (r.1, ⟨r.2.tx ++ [c], r.2.da, r.2.nu⟩) := by
  unfold stepP
  rw [if_neg (by simpa using h), if_pos h2]
theorem stepP_new (r : List Pt × Pt) (c : UInt8) (h : ¬ (c = 46 ∨ c = 45)) (h2 : likeP r.2.tx c = false) : stepP r c = (r.1 ++ [⟨r.2.tx, r.2.da, isD c⟩], ⟨[c], true, false⟩) := by
  unfold stepP
  rw [if_neg (by simpa using h), h2, if_neg (by simp)]
theorem runP_drop (r : List Pt × Pt) (v : List UInt8) (i : Nat) (h : i < v.length) : runP r (v.drop i) = runP (stepP r v[i]) (v.drop (i + 1)) := by
  rw [List.drop_eq_getElem_cons h]; rfl
theorem like_last (t : List UInt8) (c : UInt8) (h : t ≠ []) : likeP t c = (isD (t.getLast h) == isD c) := by
  unfold likeP
  rw [List.getLast?_eq_some_getLast h]
end Go.Proofs.YtgdjfcmmpjcaaaaDoor.Pure

namespace Go.Proofs.YtgdjfcmmpjcaaaaDoor.Pure
open Go Go.RowKit Go.Proofs.YtgdjfcmmpjcaaaaDoor.Q Go.Proofs.YtgdjfcmmpjcaaaaDoorW.PrintWords Go.Proofs.YtgdjfcmmpjcaaaaDoorW.PrintLast Go.Proofs.YtgdjfcmmpjcaaaaDoorW.Own Go.Proofs.YtgdjfcmmpjcaaaaDoorW.PrintMore Go.Proofs.YtgdjfcmmpjcaaaaDoorW.Px
set_option linter.unusedSimpArgs false
set_option linter.unusedVariables false
def tailP (v : List UInt8) (i : Nat) (p : Pt) : Prop := p.tx = [] ∨ ∃ n, i = n + 1 ∧ p.tx.getLast? = v[n]?
theorem tail_next (v : List UInt8) (i : Nat) (h : i < v.length) (t : List UInt8) (a b : Bool) : tailP v (i + 1) ⟨t ++ [v[i]], a, b⟩ := by
  refine Or.inr ⟨i, rfl, ?_⟩
  simp [List.getElem?_eq_getElem h]
theorem parts_loop (v : List UInt8) (hv : v.length ≤ 1000000) : ∀ (d i k : Nat) (r : List Pt × Pt), i + d = v.length → r.1.length ≤ i → r.2.tx.length ≤ i → tailP v i r.2 →
    words_parts.l0 (k + d + 1) (ts v) ((allP r).map p93) (v.length : Int) (i : Int) = some ((allP (runP r (v.drop i))).map p93) := by
  intro d
  induction d with
  | zero =>
    intro i k r h _ _ _
    rw [words_parts.l0, if_neg (by omega), List.drop_eq_nil_of_le (by omega)]
    rfl
  | succ d ih =>
    intro i k r h h1 h2 h3
    have hi : i < v.length := by omega
    have q0 : (i : Int) < (v.length : Int) := by omega
    have q0' : (i : Int) < ((ts v).size : Int) := by rw [ts_size]; omega
    have hl := all_len p93 r
    have hx : wrap64 ((((allP r).map p93).length : Int) - 1) = (r.1.length : Int) := by rw [hl]; exact last_of _ (by omega)
    have q1 : (0 : Int) ≤ (r.1.length : Int) := by omega
    have q2 : (r.1.length : Int) < (((allP r).map p93).length : Int) := by rw [hl]; omega
    have q3 : (0 : Int) ≤ (i : Int) := by omega
    have q4 : ((allP r).map p93).length < 5864062014805 := by rw [hl]; omega
    have hn := next_of i (by omega)
    have hr : rd_T93 ((allP r).map p93) (r.1.length : Int) = p93 r.2 := all_getD p93 r _
    have hb := bt_nat v i hi
    have tn := tail_next v i hi
    have step : ∀ r', stepP r v[i] = r' → r'.1.length ≤ i + 1 → r'.2.tx.length ≤ i + 1 → tailP v (i + 1) r'.2 → words_parts.l0 (k + d + 1) (ts v) ((allP r').map p93) (v.length : Int) ((i + 1 : Nat) : Int) = some ((allP (runP r (v.drop i))).map p93) := by
      intro r' e a b t
      rw [ih (i + 1) k r' (by omega) a b t, runP_drop r v i hi, e]
    rw [show k + (d + 1) + 1 = (k + d + 1) + 1 from by omega, words_parts.l0, if_pos q0, if_pos q3, if_pos q0', hx, if_pos q1, if_pos q2, hr, hb, hn]
    generalize hc : v[i] = c at *
    by_cases c1 : c = 46
    · rw [if_pos (by rw [c1]; rfl), if_pos q4, all_add p93 r ⟨[], c == 45, false⟩ _ (by rw [c1]; rfl)]
      exact step _ (stepP_sep r c (Or.inl c1)) (by simp; omega) (by simp) (Or.inl rfl)
    · rw [if_neg (by rw [show (46 : Int) = ((46 : Nat) : Int) from rfl, beq_toNat c 46 (by omega)]; exact c1)]
      by_cases c2 : c = 45
      · rw [if_pos (by rw [c2]; rfl), if_pos q4, all_add p93 r ⟨[], c == 45, false⟩ _ (by rw [c2]; rfl)]
        exact step _ (stepP_sep r c (Or.inr c2)) (by simp; omega) (by simp) (Or.inl rfl)
      · rw [if_neg (by rw [show (45 : Int) = ((45 : Nat) : Int) from rfl, beq_toNat c 45 (by omega)]; exact c2)]
        have nc : ¬ (c = 46 ∨ c = 45) := by rintro (h | h); exact c1 h; exact c2 h
        have e1 : strOfNums [(c.toNat : Int)] = ts [c] := num_byte c
        have q7 : (p93 r.2).f0.size + (ts [c]).size ≤ 9223372036854775807 := by show (ts r.2.tx).size + (ts [c]).size ≤ _; rw [ts_size, ts_size]; simp; omega
        have same : likeP r.2.tx c = true → (if (p93 r.2).f0.size + (strOfNums [(c.toNat : Int)]).size ≤ 9223372036854775807 then (words_parts.l0 (k + d + 1) (ts v) (((allP r).map p93).set ((r.1.length : Int)).toNat (⟨(p93 r.2).f0 ++ (strOfNums [(c.toNat : Int)]), (p93 r.2).f1, (p93 r.2).f2⟩ : S93)) (v.length : Int) ((i + 1 : Nat) : Int)) else none) = some ((allP (runP r (v.drop i))).map p93) := by
          intro lk
          rw [e1, if_pos q7, all_put p93 r ⟨r.2.tx ++ [c], r.2.da, r.2.nu⟩ _ (by unfold p93; rw [ts_append])]
          exact step _ (stepP_like r c nc lk) (by simp; omega) (by simp; omega) (tn _ _ _)
        by_cases z : r.2.tx = []
        · have z' : (p93 r.2).f0.toList = ([] : List UInt8) := by show (ts r.2.tx).toList = []; rw [ts_toList]; exact z
          rw [if_pos z', Option.bind_some]
          exact same (by rw [z]; rfl)
        · have z' : ¬ (p93 r.2).f0.toList = ([] : List UInt8) := by show ¬ (ts r.2.tx).toList = []; rw [ts_toList]; exact z
          obtain ⟨n, hin, hlast⟩ : ∃ n, i = n + 1 ∧ r.2.tx.getLast? = v[n]? := by
            rcases h3 with h3 | h3
            · exact absurd h3 z
            · exact h3
          have hnv : n < v.length := by omega
          have hnn : n < 4611686018427387904 := by omega
          have hg : r.2.tx.getLast z = v[n] := by
            rw [List.getLast?_eq_some_getLast z, List.getElem?_eq_getElem hnv] at hlast
            exact Option.some.inj hlast
          have hp : wrap64 ((i : Int) - 1) = (n : Int) := by rw [hin]; exact last_of n hnn
          rw [if_neg z', digit_told, Option.bind_some, hp, if_pos (by omega), if_pos (by rw [ts_size]; omega), bt_nat v n hnv, digit_told, Option.bind_some, ← hg]
          by_cases e : isD (r.2.tx.getLast z) = isD c
          · rw [if_neg (by rw [e]; simp), Option.bind_some]
            exact same (by rw [like_last _ _ z, e]; simp)
          · rw [if_pos (by simpa using fun h => e h.symm), Option.bind_some, Option.bind_some]
            have ea : ((allP r).map p93).set ((r.1.length : Int)).toNat (⟨(p93 r.2).f0, (p93 r.2).f1, isD c⟩ : S93) = (allP (r.1, ⟨r.2.tx, r.2.da, isD c⟩)).map p93 := all_put p93 r _ _ rfl
            rw [ea]
            have la := all_len p93 (r.1, ⟨r.2.tx, r.2.da, isD c⟩)
            have q8 : ((allP (r.1, ⟨r.2.tx, r.2.da, isD c⟩)).map p93).length < 5864062014805 := by rw [la]; simp; omega
            rw [if_pos q8, Option.bind_some, all_add p93 (r.1, ⟨r.2.tx, r.2.da, isD c⟩) ⟨[], true, false⟩ (⟨(⟨#[]⟩ : ByteArray), true, false⟩ : S93) rfl]
            generalize hR : ((r.1 ++ [(⟨r.2.tx, r.2.da, isD c⟩ : Pt)], (⟨[], true, false⟩ : Pt)) : List Pt × Pt) = R
            have R1 : R.1 = r.1 ++ [(⟨r.2.tx, r.2.da, isD c⟩ : Pt)] := by rw [← hR]
            have R2 : R.2 = ⟨[], true, false⟩ := by rw [← hR]
            have Rl : R.1.length = r.1.length + 1 := by rw [R1]; simp
            have lR := all_len p93 R
            have hxR : wrap64 ((((allP R).map p93).length : Int) - 1) = (R.1.length : Int) := by rw [lR]; exact last_of _ (by omega)
            have hrR : rd_T93 ((allP R).map p93) (R.1.length : Int) = p93 R.2 := all_getD p93 R _
            rw [hxR, if_pos (by omega), if_pos (by rw [lR]; omega), Option.bind_some, hrR, e1]
            have q9 : (p93 R.2).f0.size + (ts [c]).size ≤ 9223372036854775807 := by rw [R2]; show (ts []).size + (ts [c]).size ≤ _; rw [ts_size, ts_size]; simp
            rw [if_pos q9, all_put p93 R ⟨[c], true, false⟩ _ (by rw [R2]; unfold p93; rw [ts_append]; rfl)]
            exact step (R.1, ⟨[c], true, false⟩) (by rw [stepP_new r c nc (by rw [like_last _ _ z]; simpa using e), R1]) (by simp; omega) (by simp) (tn [] true false)
theorem parts_told (v : List UInt8) (hv : v.length ≤ 1000000) (k : Nat) (hk : v.length + 1 ≤ k) : words_parts.f k (ts v) = some ((partsL v).map p93) := by
  have := parts_loop v hv v.length 0 (k - v.length - 1) p0 (by omega) (by simp [p0]) (by simp [p0]) (Or.inl rfl)
  rw [show k - v.length - 1 + v.length + 1 = k from by omega, ← ts_size v] at this
  exact this
end Go.Proofs.YtgdjfcmmpjcaaaaDoor.Pure

namespace Go.Proofs.YtgdjfcmmpjcaaaaDoor.Pure
open Go Go.RowKit Go.Proofs.YtgdjfcmmpjcaaaaDoor.Q Go.Proofs.YtgdjfcmmpjcaaaaDoorW.PrintWords Go.Proofs.YtgdjfcmmpjcaaaaDoorW.PrintLast Go.Proofs.YtgdjfcmmpjcaaaaDoorW.Own Go.Proofs.YtgdjfcmmpjcaaaaDoorW.PrintMore Go.Proofs.YtgdjfcmmpjcaaaaDoorW.Px
set_option linter.unusedSimpArgs false
set_option linter.unusedVariables false
def w38 (w : Wl) : S38 := ⟨w.1, ts w.2⟩
def pr (w : Wl) : Int × ByteArray := (w.1, ts w.2)
theorem kindL_plain (t : List UInt8) (nu : Bool) (ka : ∀ c : List UInt8, (c = [97] ∨ c = [98] ∨ c = [109]) → (nu = true ∧ t = c) = False) : kindL t nu = if t = tA then 1 else if t = tB then 2 else if t = tM then 3 else if t = tRc ∨ t = tCr then 4 else if t = tS then 5 else if t = tGa ∨ t = tFi ∨ t = tRe then 6 else if t = tSp then 7 else 8 := by
  have a := ka [97] (by simp)
  have b := ka [98] (by simp)
  have c := ka [109] (by simp)
  unfold kindL
  simp only [a, b, c, or_false]
theorem letters_told (t : List UInt8) (da nu : Bool) (k : Nat) (hk : 4 ≤ k) : words_letters.f k (ts t) da nu = some (pr (letL t nu)) := by
  obtain ⟨j, rfl⟩ : ∃ j, k = j + 1 + 1 + 1 := ⟨k - 3, by omega⟩
  have gen : ∀ s x, (s = t ∨ nu = true ∧ (s = tA ∧ t = [97] ∨ s = tB ∧ t = [98] ∨ s = tM ∧ t = [109])) → (s = t → ¬ (nu = true ∧ (t = [97] ∨ t = [98] ∨ t = [109]))) → x = ts s → words_letters.j0 (j + 1 + 1 + 1) x (ts t) da nu = some (pr (letL t nu)) := by
    rintro s _ hs hne rfl
    rcases hs with rfl | ⟨hn, ⟨rfl, rfl⟩ | ⟨rfl, rfl⟩ | ⟨rfl, rfl⟩⟩
    · have hx := hne rfl
      have ka : ∀ c, (c = [97] ∨ c = [98] ∨ c = [109]) → (nu = true ∧ s = c) = False := by
        intro c hc
        apply eq_false
        rintro ⟨h1, h2⟩
        exact hx ⟨h1, h2 ▸ hc⟩
      rw [words_letters.j0, ts_toList]
      unfold letL
      rw [kindL_plain s nu ka]
      by_cases h1 : s = tA
      · rw [if_pos h1, if_pos h1]; rfl
      · rw [if_neg h1, if_neg h1]
        by_cases h2 : s = tB
        · rw [if_pos h2, if_pos h2]; rfl
        · rw [if_neg h2, if_neg h2]
          by_cases h3 : s = tM
          · rw [if_pos h3, if_pos h3]; rfl
          · rw [if_neg h3, if_neg h3]
            have j2 : ∀ b, (¬ b = true → ¬ (s = tGa ∨ s = tFi ∨ s = tRe)) → (b = true → (s = tGa ∨ s = tFi ∨ s = tRe)) → words_letters.j2 (j + 1) (ts s) b (ts s) da nu = some (pr (if (if s = tGa ∨ s = tFi ∨ s = tRe then (6 : Int) else if s = tSp then 7 else 8) = 8 then (8, s) else ((if s = tGa ∨ s = tFi ∨ s = tRe then (6 : Int) else if s = tSp then 7 else 8), []))) := by
              intro b hb1 hb2
              rw [words_letters.j2, ts_toList]
              by_cases hb : b = true
              · rw [if_pos hb, if_pos (hb2 hb)]; rfl
              · rw [if_neg hb, if_neg (hb1 hb)]
                by_cases h7 : s = tSp
                · rw [if_pos h7, if_pos h7]; rfl
                · rw [if_neg h7, if_neg h7]; rfl
            have j1 : ∀ b, (¬ b = true → ¬ (s = tRc ∨ s = tCr)) → (b = true → (s = tRc ∨ s = tCr)) → words_letters.j1 (j + 1 + 1) (ts s) b (ts s) da nu = some (pr (if (if s = tRc ∨ s = tCr then (4 : Int) else if s = tS then 5 else if s = tGa ∨ s = tFi ∨ s = tRe then (6 : Int) else if s = tSp then 7 else 8) = 8 then (8, s) else ((if s = tRc ∨ s = tCr then (4 : Int) else if s = tS then 5 else if s = tGa ∨ s = tFi ∨ s = tRe then (6 : Int) else if s = tSp then 7 else 8), []))) := by
              intro b hb1 hb2
              rw [words_letters.j1, ts_toList]
              by_cases hb : b = true
              · rw [if_pos hb, if_pos (hb2 hb)]; rfl
              · rw [if_neg hb, if_neg (hb1 hb)]
                by_cases h5 : s = tS
                · rw [if_pos h5, if_pos h5]; rfl
                · rw [if_neg h5, if_neg h5]
                  by_cases h6 : s = tGa
                  · rw [if_pos h6]; exact j2 _ (fun h => absurd (by rw [show s = [103, 97] from h6]; rfl) h) (fun _ => Or.inl h6)
                  · rw [if_neg h6]
                    by_cases h8 : s = tFi
                    · rw [if_pos h8]; exact j2 _ (fun h => absurd (by rw [show s = [102, 105, 110, 97, 108] from h8]; rfl) h) (fun _ => Or.inr (Or.inl h8))
                    · rw [if_neg h8]
                      refine j2 _ ?_ ?_
                      · rintro h (g | g | g)
                        · exact h6 g
                        · exact h8 g
                        · exact h (by rw [show s = [114, 101, 108, 101, 97, 115, 101] from g]; rfl)
                      · intro h; exact Or.inr (Or.inr (beq_iff_eq.1 h))
            by_cases h4 : s = tRc
            · rw [if_pos h4]; exact j1 _ (fun h => absurd (by rw [show s = [114, 99] from h4]; rfl) h) (fun _ => Or.inl h4)
            · rw [if_neg h4]
              refine j1 _ ?_ ?_
              · rintro h (g | g)
                · exact h4 g
                · exact h (by rw [show s = [99, 114] from g]; rfl)
              · intro h; exact Or.inr (beq_iff_eq.1 h)
    · subst hn; rw [words_letters.j0, ts_toList, if_pos rfl]; rfl
    · subst hn; rw [words_letters.j0, ts_toList, if_neg (by decide), if_pos rfl]; rfl
    · subst hn; rw [words_letters.j0, ts_toList, if_neg (by decide), if_neg (by decide), if_pos rfl]; rfl
  unfold words_letters.f
  rw [ts_toList]
  by_cases hn : nu = true
  · rw [if_pos hn]
    by_cases h1 : t = [97]
    · rw [if_pos h1]; exact gen tA _ (Or.inr ⟨hn, Or.inl ⟨rfl, h1⟩⟩) (fun h => by rw [h1] at h; exact absurd h (by decide)) rfl
    · rw [if_neg h1]
      by_cases h2 : t = [98]
      · rw [if_pos h2]; exact gen tB _ (Or.inr ⟨hn, Or.inr (Or.inl ⟨rfl, h2⟩)⟩) (fun h => by rw [h2] at h; exact absurd h (by decide)) rfl
      · rw [if_neg h2]
        by_cases h3 : t = [109]
        · rw [if_pos h3]; exact gen tM _ (Or.inr ⟨hn, Or.inr (Or.inr ⟨rfl, h3⟩)⟩) (fun h => by rw [h3] at h; exact absurd h (by decide)) rfl
        · rw [if_neg h3]
          refine gen t _ (Or.inl rfl) ?_ rfl
          rintro _ ⟨_, g | g | g⟩
          · exact h1 g
          · exact h2 g
          · exact h3 g
  · rw [if_neg hn]
    exact gen t _ (Or.inl rfl) (fun _ h => hn h.1) rfl
theorem trim_told (t : List UInt8) : strings_TrimLeft.f (ts t) (⟨#[48]⟩ : ByteArray) = some (ts (t.dropWhile (· == 48))) := by
  unfold strings_TrimLeft.f
  rw [if_pos ⟨rfl, by decide⟩]
  rfl
theorem word_told (p : Pt) (k : Nat) (hk : 5 ≤ k) : words_word.f k (p93 p).f0 (p93 p).f1 (p93 p).f2 = some (pr (wordL p)) := by
  obtain ⟨j, rfl⟩ : ∃ j, k = j + 1 := ⟨k - 1, by omega⟩
  obtain ⟨t, da, nu⟩ := p
  show words_word.f (j + 1) (ts t) da nu = _
  have nums : words_word.j0 (j + 1) false (ts t) da nu = some (pr (numL t da)) := by
    rw [words_word.j0, if_neg (by simp), trim_told, Option.bind_some, ts_toList]
    unfold numL
    by_cases z : t.dropWhile (· == 48) = []
    · rw [if_pos z, if_pos z]; rfl
    · rw [if_neg z, if_neg z]
      by_cases d : da = true
      · rw [if_pos d, if_pos d]; rfl
      · rw [if_neg d, if_neg d]; rfl
  unfold words_word.f wordL
  rw [ts_toList]
  cases t with
  | nil => rw [if_pos rfl, nums]; rfl
  | cons c t =>
    have hb : bt (ts (c :: t)) 0 = (c.toNat : Int) := bt_nat (c :: t) 0 (by simp)
    rw [if_neg (by simp), if_pos (by rw [ts_size, List.length_cons]; omega), hb, digit_told, Option.bind_some]
    show _ = some (pr (if isD c = true then numL (c :: t) da else letL (c :: t) nu))
    by_cases d : isD c = true
    · rw [if_pos d, d]; exact nums
    · rw [if_neg d, Bool.eq_false_iff.2 d]
      show words_word.j0 (j + 1) true _ _ _ = _
      rw [words_word.j0, if_pos rfl, letters_told _ _ _ _ (by omega)]
      rfl
end Go.Proofs.YtgdjfcmmpjcaaaaDoor.Pure
