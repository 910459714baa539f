/- Texts put together: what functions of the program compute, and plain words about them. -/
import Derived.Test.YtgdjfcmmpjcaaaaDoorLawChoosePlainM1
import Derived.Test.YtgdjfcmmpjcaaaaDoorLawChoosePlainM2

-- Printed by this session's wip/np.py over the kit's print program. Not trusted: Lean checks it.
namespace Go.Proofs.YtgdjfcmmpjcaaaaDoor.Q
open Go.RowKit Go.Proofs.YtgdjfcmmpjcaaaaDoorW.PrintWords Go.Proofs.YtgdjfcmmpjcaaaaDoorW.PrintLast Go.Proofs.YtgdjfcmmpjcaaaaDoorW.Own Go.Proofs.YtgdjfcmmpjcaaaaDoorW.PrintMore
attribute [local go_sem] max2_int min2_int max_two min_two max_three min_three max_four min_four
set_option linter.unusedVariables false
set_option linter.unusedSimpArgs false

/-! ### words_parts: function 71 -/
def words_parts.l0 : Nat → ByteArray → List (S93) → Int → Int → Option ((List (S93)))
 | 0, _, _, _, _ => none
 | k + 1, x0, x3, x10, x11 => if x11 < x10 then (if 0 ≤ x11 then (if x11 < (x0.size : Int) then (if 0 ≤ (wrap64 ((x3.length : Int) - 1)) then (if (wrap64 ((x3.length : Int) - 1)) < (x3.length : Int) then (if (bt x0 x11) = 46 then (if x3.length < 5864062014805 then (words_parts.l0 k x0 (x3 ++ [(⟨(⟨#[]⟩ : ByteArray), ((bt x0 x11) == 45), false⟩ : S93)]) x10 (wrap64 (x11 + 1))) else (none)) else (if (bt x0 x11) = 45 then (if x3.length < 5864062014805 then (words_parts.l0 k x0 (x3 ++ [(⟨(⟨#[]⟩ : ByteArray), true, false⟩ : S93)]) x10 (wrap64 (x11 + 1))) else (none)) else (if ((rd_T93 x3 (wrap64 ((x3.length : Int) - 1))).f0).toList = ([] : List UInt8) then ((some (([bt x0 x11] : List Int) : List Int)).bind fun y116 => (if ((rd_T93 x3 (wrap64 ((x3.length : Int) - 1))).f0).size + (strOfNums y116).size ≤ 9223372036854775807 then (words_parts.l0 k x0 (x3.set ((wrap64 ((x3.length : Int) - 1)) : Int).toNat (⟨((rd_T93 x3 (wrap64 ((x3.length : Int) - 1))).f0) ++ (strOfNums y116), (rd_T93 x3 (wrap64 ((x3.length : Int) - 1))).f1, (rd_T93 x3 (wrap64 ((x3.length : Int) - 1))).f2⟩ : S93)) x10 (wrap64 (x11 + 1))) else (none))) else ((chars_Digit.f (bt x0 x11)).bind fun t120 => (if 0 ≤ (wrap64 (x11 - 1)) then (if (wrap64 (x11 - 1)) < (x0.size : Int) then ((chars_Digit.f (bt x0 (wrap64 (x11 - 1)))).bind fun t121 => (if (t120 != t121) = true then ((chars_Digit.f (bt x0 x11)).bind fun t122 => ((some (x3.set ((wrap64 ((x3.length : Int) - 1)) : Int).toNat (⟨(rd_T93 x3 (wrap64 ((x3.length : Int) - 1))).f0, (rd_T93 x3 (wrap64 ((x3.length : Int) - 1))).f1, t122⟩ : S93) : List (S93))).bind fun y123 => (if y123.length < 5864062014805 then ((some (y123 ++ [(⟨(⟨#[]⟩ : ByteArray), true, false⟩ : S93)] : List (S93))).bind fun y124 => (if 0 ≤ (wrap64 ((y124.length : Int) - 1)) then (if (wrap64 ((y124.length : Int) - 1)) < (y124.length : Int) then ((some (([bt x0 x11] : List Int) : List Int)).bind fun y128 => (if ((rd_T93 y124 (wrap64 ((y124.length : Int) - 1))).f0).size + (strOfNums y128).size ≤ 9223372036854775807 then (words_parts.l0 k x0 (y124.set ((wrap64 ((y124.length : Int) - 1)) : Int).toNat (⟨((rd_T93 y124 (wrap64 ((y124.length : Int) - 1))).f0) ++ (strOfNums y128), (rd_T93 y124 (wrap64 ((y124.length : Int) - 1))).f1, (rd_T93 y124 (wrap64 ((y124.length : Int) - 1))).f2⟩ : S93)) x10 (wrap64 (x11 + 1))) else (none))) else (none)) else (none))) else (none)))) else ((some (([bt x0 x11] : List Int) : List Int)).bind fun y133 => (if ((rd_T93 x3 (wrap64 ((x3.length : Int) - 1))).f0).size + (strOfNums y133).size ≤ 9223372036854775807 then (words_parts.l0 k x0 (x3.set ((wrap64 ((x3.length : Int) - 1)) : Int).toNat (⟨((rd_T93 x3 (wrap64 ((x3.length : Int) - 1))).f0) ++ (strOfNums y133), (rd_T93 x3 (wrap64 ((x3.length : Int) - 1))).f1, (rd_T93 x3 (wrap64 ((x3.length : Int) - 1))).f2⟩ : S93)) x10 (wrap64 (x11 + 1))) else (none))))) else (none)) else (none)))))) else (none)) else (none)) else (none)) else (none)) else (some x3)
def words_parts.f (k : Nat) (a0 : ByteArray) : Option ((List (S93))) := words_parts.l0 k a0 (([(⟨(⟨#[]⟩ : ByteArray), false, false⟩ : S93)] : List (S93))) (a0.size : Int) 0
theorem words_parts.mono_l : ∀ k, (∀ y0 y1 y2 y3, LeO (words_parts.l0 k y0 y1 y2 y3) (words_parts.l0 (k + 1) y0 y1 y2 y3))
 | 0 => fun _ _ _ _ r h => by simp [words_parts.l0] at h
 | k + 1 => by
  have ih0 := words_parts.mono_l k
  ·intro y0 y1 y2 y3
   unfold words_parts.l0
   repeat' first
   | (with_reducible exact ih0 _ _ _ _)
   | (with_reducible exact LeO.refl _)
   | (with_reducible exact LeO.none _)
   | (with_reducible refine LeO.ite ?_ ?_)
   | (with_reducible refine LeO.bind ?_ (fun _ => ?_))
   | exact ih0 _ _ _ _
   | exact LeO.none _
   | refine LeO.ite ?_ ?_
   | refine LeO.bind ?_ (fun _ => ?_)
theorem words_parts.mono : ∀ a0 k, LeO (words_parts.f k a0) (words_parts.f (k + 1) a0) := by
 intro a0 k
 have ih0 := words_parts.mono_l k
 unfold words_parts.f
 repeat' first
  | (with_reducible exact ih0 _ _ _ _)
  | (with_reducible exact LeO.refl _)
  | (with_reducible exact LeO.none _)
  | (with_reducible refine LeO.ite ?_ ?_)
  | (with_reducible refine LeO.bind ?_ (fun _ => ?_))
  | exact ih0 _ _ _ _
  | exact LeO.none _
  | refine LeO.ite ?_ ?_
  | refine LeO.bind ?_ (fun _ => ?_)
def words_parts.T5 : Bool × List (List Nat × List Nat) := (true, [([], []), ([], []), ([0, 1], [0, 1]), ([], []), ([], []), ([4], [4]), ([5], [5]), ([3, 6], [3, 6]), ([2, 0, 1, 2], [2]), ([7, 8, 0, 1, 2, 3, 4, 5, 6, 7, 8], [7])])
def words_parts.B5 : List Nat := [0, 0, 3, 0, 0, 16, 48, 120, 7, 511]
theorem words_parts.tab5 : rtab .any (opsOf Tryd.f71 5) = words_parts.T5 := by kernel_rfl
theorem words_parts.bits5 : waitsOk words_parts.T5.2 words_parts.B5 = true := by kernel_rfl
def words_parts.T8 : Bool × List (List Nat × List Nat) := (true, [([], []), ([0], [0]), ([1], [1]), ([2], [2]), ([3], [3]), ([4], [4]), ([5], [5]), ([6, 5, 5], [5, 6]), ([5], [5]), ([5], [5]), ([9, 5], [5, 9]), ([8, 10, 5], [5, 8, 10]), ([11, 7, 5], [5, 11]), ([7, 12, 5], [5, 7, 12]), ([5, 13], [5, 13]), ([14, 12], [14])])
def words_parts.B8 : List Nat := [0, 1, 3, 7, 15, 31, 63, 127, 63, 63, 575, 1855, 4095, 8191, 16383, 32767]
theorem words_parts.tab8 : rtab .any (opsOf Tryd.f71 8) = words_parts.T8 := by kernel_rfl
theorem words_parts.bits8 : waitsOk words_parts.T8.2 words_parts.B8 = true := by kernel_rfl
def words_parts.T12 : Bool × List (List Nat × List Nat) := (true, [([], []), ([0], [0]), ([1], [1]), ([2], [2]), ([], []), ([4], [4]), ([5], [5]), ([3, 6], [3, 6]), ([0, 0, 1, 2, 3, 4, 5, 6, 7], [0]), ([8, 0, 1, 2, 3, 4, 5, 6, 7], [8]), ([9, 7, 0, 1, 2, 3, 4, 5, 6, 7], [7, 9])])
def words_parts.B12 : List Nat := [0, 1, 3, 7, 0, 16, 48, 127, 255, 511, 1023]
theorem words_parts.tab12 : rtab .any (opsOf Tryd.f71 12) = words_parts.T12 := by kernel_rfl
theorem words_parts.bits12 : waitsOk words_parts.T12.2 words_parts.B12 = true := by kernel_rfl
set_option maxHeartbeats 8000000 in
set_option maxRecDepth 100000 in
theorem words_parts.calls (k : Nat) (a0 : ByteArray) (r : List (S93)) (w : World) (hG : Glob w) (h : words_parts.f k a0 = some r) :
 Calls Tryd.prog 71 #[.string a0] w fun e w' => ∃ v0_ : Value, e = .returned (v0_) ∧ Kd.R k93 93 w' w.heap.size (fun _ => True) v0_ r ∧ Below w.heap.size w w' := by
 have hu93 := Tryd.underlying93
 have HG := Aside0.mk hG
 clear hG
 have HB := Aside0.mk (Below.refl w.heap.size w)
 have H : (words_parts.l0 k a0 (([(⟨(⟨#[]⟩ : ByteArray), false, false⟩ : S93)] : List (S93))) (a0.size : Int) 0) = some r := h
 clear h
 obtain ⟨y105, hy105⟩ : ∃ y_ : List (S93), y_ = (([(⟨(⟨#[]⟩ : ByteArray), false, false⟩ : S93)] : List (S93))) := ⟨_, rfl⟩
 replace H : (words_parts.l0 k a0 y105 (a0.size : Int) 0) = some r := by first | (rw [hy105]; with_reducible exact H) | (have H2_ := (Option.bind_some _ _).symm.trans H; rw [hy105]; with_reducible exact H2_) | (have H2_ := (Option.bind_some _ _).symm.trans H; with_reducible exact H2_) | with_reducible exact H | (rw [hy105]; exact H) | exact H
 have Ny105 := Aside0.mk hy105
 clear hy105
 have H' := Aside0.mk H
 clear H
 go_enter Tryd.func71, Tryd.ntmps71
 go_wp2_with (first | ((with_reducible refine gate_dst (N := 8) rfl ?_); refine Kd.R_lit k93 _ 93 ?hg (N := 8) ?hd (xs := ([(⟨(⟨#[]⟩ : ByteArray), false, false⟩ : S93)] : List (S93))) (inner := [.string (⟨#[]⟩ : ByteArray), .bool false, .bool false]) (ok := fun _ => True) (okp := fun _ => True) ?hr ?hp (fun _ hk => hk) trivial (Below.refl _ _) (Nat.le_refl _) (by simp) ?_; (case hd => rfl); (case hg => rfl); (case hr => first | (go_simp; done) | (go_simp; rfl)); (case hp => exact (Reps.c3 (show Kd.M k93 _ _ _ (⟨(⟨#[]⟩ : ByteArray), false, false⟩ : S93) [.string (⟨#[]⟩ : ByteArray), .bool false, .bool false] from (k93_mkM _ _ _ (⟨(⟨#[]⟩ : ByteArray), false, false⟩ : S93) )) (Reps.none _ _))); intro v106 w2 ho3 hb hg_ hnew_; clear hg_ hnew_; (first | rw [← Ny105.out] at ho3 | (simp only [Int.reduceToNat] at ho3; rw [← Ny105.out] at ho3)); have n0_ := Aside0.mk (Kd.R_lower ho3 (below_size (by repeat (first | (with_reducible first | exact HB.out | apply below_alloc | apply pw_below_drewN | apply below_drew1) | exact HB.out)))); have n1_ := Aside0.mk (below_step (by repeat (first | (with_reducible first | exact HB.out | apply below_alloc | apply pw_below_drewN | apply below_drew1) | exact HB.out)) hb); clear HB; have HO107 := n0_; have HB := n1_; clear n0_ n1_; clear hb ho3))
 (try simp only [Act.put, List.setIfInBounds_toArray, List.set_cons_zero, List.set_cons_succ])
 go_loopg [3, 11] k (fun kq v3 v11 w' => ∃ (x3_1 : List (S93)) (x11_1 : Int), v11 = .int .i64 x11_1 ∧ Aside0 (words_parts.l0 kq a0 x3_1 (a0.size : Int) x11_1 = some r) ∧ Aside0 (kq ≤ k) ∧ Aside0 (Kd.R k93 93 w' w.heap.size (fun _ => True) v3 x3_1) ∧ Aside0 (Below w.heap.size w w'))
 case atStart => exact ⟨(y105), (0), (by first | rfl | (simp; done) | (simp [*]; done) | (simp; exact isEmpty_bne _)), H', ⟨Nat.le_refl _⟩, ⟨by (with_reducible repeat (first | apply Kd.R_alloc | apply Kd.R_drewN | apply Kd.R_drew)); exact HO107.out⟩, ⟨by repeat (first | (with_reducible first | exact HB.out | apply below_alloc | apply pw_below_drewN | apply below_drew1) | exact HB.out)⟩⟩
 case round =>
  clear H'
  try clear p2
  try clear c3
  obtain ⟨x3_1, x11_1, rfl, HA, HK1, HO_3, HB⟩ := hrel
  cases gk with
  | zero => exact absurd HA.out (by simp [words_parts.l0])
  | succ k1 =>
   have H := HA.out
   clear HA
   simp only [words_parts.l0] at H
   by_cases c4 : x11_1 < (a0.size : Int)
   ·rw [if_pos c4] at H
    have c4b0 : decide (x11_1 < (a0.size : Int)) = true := decide_eq_true c4
    clear c4
    by_cases c5 : 0 ≤ x11_1
    ·rw [if_pos c5] at H
     have c5b0 : decide (0 ≤ x11_1) = true := decide_eq_true c5
     clear c5
     by_cases c6 : x11_1 < (a0.size : Int)
     ·rw [if_pos c6] at H
      have c6b0 : decide (x11_1 < (a0.size : Int)) = true := decide_eq_true c6
      clear c6
      obtain ⟨ji8, hji8⟩ : ∃ j_ : Int, (wrap64 ((x3_1.length : Int) - 1)) = j_ := ⟨_, rfl⟩
      replace H : (if 0 ≤ (ji8) then (if (ji8) < (x3_1.length : Int) then (if (bt a0 x11_1) = 46 then (if x3_1.length < 5864062014805 then (words_parts.l0 k1 a0 (x3_1 ++ [(⟨(⟨#[]⟩ : ByteArray), ((bt a0 x11_1) == 45), false⟩ : S93)]) (a0.size : Int) (wrap64 (x11_1 + 1))) else (none)) else (if (bt a0 x11_1) = 45 then (if x3_1.length < 5864062014805 then (words_parts.l0 k1 a0 (x3_1 ++ [(⟨(⟨#[]⟩ : ByteArray), true, false⟩ : S93)]) (a0.size : Int) (wrap64 (x11_1 + 1))) else (none)) else (if ((rd_T93 x3_1 (ji8)).f0).toList = ([] : List UInt8) then ((some (([bt a0 x11_1] : List Int) : List Int)).bind fun y116 => (if ((rd_T93 x3_1 (ji8)).f0).size + (strOfNums y116).size ≤ 9223372036854775807 then (words_parts.l0 k1 a0 (x3_1.set ((ji8) : Int).toNat (⟨((rd_T93 x3_1 (ji8)).f0) ++ (strOfNums y116), (rd_T93 x3_1 (ji8)).f1, (rd_T93 x3_1 (ji8)).f2⟩ : S93)) (a0.size : Int) (wrap64 (x11_1 + 1))) else (none))) else ((chars_Digit.f (bt a0 x11_1)).bind fun t120 => (if 0 ≤ (wrap64 (x11_1 - 1)) then (if (wrap64 (x11_1 - 1)) < (a0.size : Int) then ((chars_Digit.f (bt a0 (wrap64 (x11_1 - 1)))).bind fun t121 => (if (t120 != t121) = true then ((chars_Digit.f (bt a0 x11_1)).bind fun t122 => ((some (x3_1.set ((ji8) : Int).toNat (⟨(rd_T93 x3_1 (ji8)).f0, (rd_T93 x3_1 (ji8)).f1, t122⟩ : S93) : List (S93))).bind fun y123 => (if y123.length < 5864062014805 then ((some (y123 ++ [(⟨(⟨#[]⟩ : ByteArray), true, false⟩ : S93)] : List (S93))).bind fun y124 => (if 0 ≤ (wrap64 ((y124.length : Int) - 1)) then (if (wrap64 ((y124.length : Int) - 1)) < (y124.length : Int) then ((some (([bt a0 x11_1] : List Int) : List Int)).bind fun y128 => (if ((rd_T93 y124 (wrap64 ((y124.length : Int) - 1))).f0).size + (strOfNums y128).size ≤ 9223372036854775807 then (words_parts.l0 k1 a0 (y124.set ((wrap64 ((y124.length : Int) - 1)) : Int).toNat (⟨((rd_T93 y124 (wrap64 ((y124.length : Int) - 1))).f0) ++ (strOfNums y128), (rd_T93 y124 (wrap64 ((y124.length : Int) - 1))).f1, (rd_T93 y124 (wrap64 ((y124.length : Int) - 1))).f2⟩ : S93)) (a0.size : Int) (wrap64 (x11_1 + 1))) else (none))) else (none)) else (none))) else (none)))) else ((some (([bt a0 x11_1] : List Int) : List Int)).bind fun y133 => (if ((rd_T93 x3_1 (ji8)).f0).size + (strOfNums y133).size ≤ 9223372036854775807 then (words_parts.l0 k1 a0 (x3_1.set ((ji8) : Int).toNat (⟨((rd_T93 x3_1 (ji8)).f0) ++ (strOfNums y133), (rd_T93 x3_1 (ji8)).f1, (rd_T93 x3_1 (ji8)).f2⟩ : S93)) (a0.size : Int) (wrap64 (x11_1 + 1))) else (none))))) else (none)) else (none)))))) else (none)) else (none)) = some r := by first | (rw [hji8] at H; exact H) | (simp only [hji8] at H ⊢; exact H)
      have hji8w : (IntKind.i64.wrap ((x3_1.length : Int) - 1)) = ji8 := (i64_w _).trans hji8
      by_cases c9 : 0 ≤ (ji8)
      ·rw [if_pos c9] at H
       have c9b0 : decide (0 ≤ (ji8)) = true := decide_eq_true c9
       clear c9
       by_cases c10 : (ji8) < (x3_1.length : Int)
       ·rw [if_pos c10] at H
        have c10b0 : decide ((ji8) < (x3_1.length : Int)) = true := decide_eq_true c10
        clear c10
        by_cases c12 : (bt a0 x11_1) = 46
        ·rw [if_pos c12] at H
         have c12b0 : ((bt a0 x11_1) == 46) = true := beq_iff_eq.mpr c12
         have c12b1 : ((bt a0 x11_1) != 46) = false := bne_eq_false_iff_eq.mpr c12
         clear c12
         by_cases c13 : x3_1.length < 5864062014805
         ·rw [if_pos c13] at H
          have LMc13 := Aside0.mk c13
          clear c13
          obtain ⟨y108, hy108⟩ : ∃ y_ : List (S93), y_ = (x3_1 ++ [(⟨(⟨#[]⟩ : ByteArray), ((bt a0 x11_1) == 45), false⟩ : S93)]) := ⟨_, rfl⟩
          replace H : (words_parts.l0 k1 a0 y108 (a0.size : Int) (wrap64 (x11_1 + 1))) = some r := by first | (rw [hy108]; with_reducible exact H) | (have H2_ := (Option.bind_some _ _).symm.trans H; rw [hy108]; with_reducible exact H2_) | (have H2_ := (Option.bind_some _ _).symm.trans H; with_reducible exact H2_) | with_reducible exact H | (rw [hy108]; exact H) | exact H
          have Ny108 := Aside0.mk hy108
          clear hy108
          have H' := Aside0.mk H
          clear H
          try go_wp2
          have n0_ := Aside0.mk (Kd.R_drew HO_3.out)
          have n1_ := Aside0.mk (below_drew1 HB.out)
          clear HO_3
          clear HB
          have HO_3 := n0_
          have HB := n1_
          clear n0_ n1_
          have p7 : 0 ≤ (x11_1 : Int) := of_decide_eq_true (by first | (with_reducible assumption) | assumption)
          have q7 : x11_1 < (a0.size : Int) := of_decide_eq_true (by first | (with_reducible assumption) | assumption)
          have hx7 := bt_at a0 x11_1
          replace p7 := eq_true p7
          replace q7 := eq_true q7
          obtain ⟨Ao15, co15, eo15⟩ := Kd.R_slice HO_3.out
          (first | subst eo15 | (injection eo15 with f1_ f2_ f3_; have f4_ := f1_.symm; have f5_ := f3_.symm; clear f1_ f2_ f3_; subst f4_; subst f5_))
          have p11 : 0 ≤ ((ji8) : Int) := of_decide_eq_true (by first | (with_reducible assumption) | assumption)
          have q11 : ((ji8) : Int) < ((x3_1.length : Int) : Int) := of_decide_eq_true (by first | (with_reducible assumption) | assumption)
          obtain ⟨go11, co11, eo11, gb11, gl11, cl11, HG11⟩ := Kd.R_form HO_3.out (by omega)
          (first | cases eo11 | (injection eo11 with ea_ en_ ec_; (first | subst ea_ | (injection ea_ with ea_; subst ea_)); subst ec_; clear en_))
          have GB11 := Aside0.mk gb11
          have GG11 := Aside0.mk HG11
          clear gb11 gl11 HG11
          obtain ⟨ce11, hcl11, hM11, hcc11, hfr11⟩ := Kd.R_elem HO_3.out z93 ((ji8) : Int) p11 q11
          obtain rfl := k93_openM hM11
          have hx11_0 : World.cell? _ ⟨go11, ((ji8) : Int).toNat * 3, none⟩ = some (.string ((rd_T93 x3_1 (ji8)).f0)) := hcc11 0 _ rfl
          have hx11_1 : World.cell? _ ⟨go11, ((ji8) : Int).toNat * 3 + 1, none⟩ = some (.bool ((rd_T93 x3_1 (ji8)).f1)) := hcc11 1 _ rfl
          have hx11_2 : World.cell? _ ⟨go11, ((ji8) : Int).toNat * 3 + 2, none⟩ = some (.bool ((rd_T93 x3_1 (ji8)).f2)) := hcc11 2 _ rfl
          have hf11_0 : World.frozen? _ ⟨go11, ((ji8) : Int).toNat * 3, none⟩ = false := hfr11 0
          have hf11_1 : World.frozen? _ ⟨go11, ((ji8) : Int).toNat * 3 + 1, none⟩ = false := hfr11 1
          have hf11_2 : World.frozen? _ ⟨go11, ((ji8) : Int).toNat * 3 + 2, none⟩ = false := hfr11 2
          clear hcl11 hcc11 hfr11 hM11
          replace p11 := eq_true p11
          replace q11 := eq_true q11
          refine start_ (n := 10) (S := fun w' => True) (ds := []) #[false, false, false, false, false, false, false, false, false, false] (by kernel_rfl) rfl rfl trivial (fun hHeld => ?_); refine with_tabW words_parts.tab5 words_parts.bits5 (fun HT_ HW_ => ?_)
          generalize wr.drew = w14 at HO_3 HB GG11 hf11_0 hf11_1 hf11_2 hx11_0 hx11_1 hx11_2 hHeld ⊢
          refine pure_ (i := 0) (N := some 14) (v := ?_) (a' := ?_) #[true, false, false, false, false, false, false, false, false, false] rfl rfl (any_of HT_.out (by kernel_rfl)) (fun _ _ _ h => h) (Or.inl ⟨by rfl, ?_⟩) ?_ ?_
          rotate_left
          ·intro w'
           go_simp
           with_reducible rfl
          rotate_left
          ·simp only [Act.put, List.setIfInBounds_toArray, List.set_cons_zero, List.set_cons_succ, i64_w, i32_w]
           rfl
          refine pure_ (i := 1) (N := some 15) (v := ?_) (a' := ?_) #[true, true, false, false, false, false, false, false, false, false] rfl rfl (any_of HT_.out (by kernel_rfl)) (fun _ _ _ h => h) (Or.inl ⟨by rfl, ?_⟩) ?_ ?_
          rotate_left
          ·intro w'
           go_simp
           with_reducible rfl
          rotate_left
          ·simp only [Act.put, List.setIfInBounds_toArray, List.set_cons_zero, List.set_cons_succ, i64_w, i32_w]
           rfl
          refine pure_ (i := 3) (N := some 17) (v := ?_) (a' := ?_) #[true, true, false, true, false, false, false, false, false, false] rfl rfl (any_of HT_.out (by kernel_rfl)) (fun _ _ _ h => h) (Or.inl ⟨by rfl, ?_⟩) ?_ ?_
          rotate_left
          ·intro w'
           go_simp
           with_reducible rfl
          rotate_left
          ·simp only [Act.put, List.setIfInBounds_toArray, List.set_cons_zero, List.set_cons_succ, i64_w, i32_w]
           rfl
          refine pure_ (i := 4) (N := some 18) (v := ?_) (a' := ?_) #[true, true, false, true, true, false, false, false, false, false] rfl rfl (any_of HT_.out (by kernel_rfl)) (fun _ _ _ h => h) (Or.inl ⟨by rfl, ?_⟩) ?_ ?_
          rotate_left
          ·intro w'
           go_simp
           with_reducible rfl
          rotate_left
          ·simp only [Act.put, List.setIfInBounds_toArray, List.set_cons_zero, List.set_cons_succ, i64_w, i32_w]
           rfl
          refine pure_ (i := 5) (N := some 19) (v := ?_) (a' := ?_) #[true, true, false, true, true, true, false, false, false, false] rfl rfl (any_of HT_.out (by kernel_rfl)) (fun _ _ _ h => h) (Or.inl ⟨by rfl, ?_⟩) ?_ ?_
          rotate_left
          ·intro w'
           go_simp
           with_reducible rfl
          rotate_left
          ·simp only [Act.put, List.setIfInBounds_toArray, List.set_cons_zero, List.set_cons_succ, i64_w, i32_w]
           rfl
          refine pure_ (i := 6) (N := some 20) (v := ?_) (a' := ?_) #[true, true, false, true, true, true, true, false, false, false] rfl rfl (any_of HT_.out (by kernel_rfl)) (fun _ _ _ h => h) (Or.inl ⟨by rfl, ?_⟩) ?_ ?_
          rotate_left
          ·intro w'
           go_simp
           with_reducible rfl
          rotate_left
          ·simp only [Act.put, List.setIfInBounds_toArray, List.set_cons_zero, List.set_cons_succ, i64_w, i32_w]
           rfl
          refine pure_ (i := 7) (N := some 21) (v := ?_) (a' := ?_) #[true, true, false, true, true, true, true, true, false, false] rfl rfl (any_of HT_.out (by kernel_rfl)) (fun _ _ _ h => h) (Or.inl ⟨by rfl, ?_⟩) ?_ ?_
          rotate_left
          ·intro w'
           go_simp
           with_reducible rfl
          rotate_left
          ·simp only [Act.put, List.setIfInBounds_toArray, List.set_cons_zero, List.set_cons_succ, i64_w, i32_w]
           rfl
          refine take_ (i := 2) (N := some 16) (v := ?_) (a' := ?_) #[true, true, true, true, true, true, true, true, false, false] rfl rfl (take_ofW HT_.out HW_.out (by kernel_rfl)) (fun _ _ _ h => h) (Or.inl ⟨by rfl, ?_⟩) hHeld ?_ ?_
          rotate_left
          ·intro w' _
           go_simp
           with_reducible rfl
          rotate_left
          ·simp only [Act.put, List.setIfInBounds_toArray, List.set_cons_zero, List.set_cons_succ, i64_w, i32_w]
           rfl
          refine pure_ (i := 8) (N := some 5) (v := ?_) (a' := ?_) #[true, true, true, true, true, true, true, true, true, false] rfl rfl (any_of HT_.out (by kernel_rfl)) (fun _ _ _ h => h) (Or.inl ⟨by rfl, ?_⟩) ?_ ?_
          rotate_left
          ·intro w'
           go_simp
           with_reducible rfl
          rotate_left
          ·simp only [Act.put, List.setIfInBounds_toArray, List.set_cons_zero, List.set_cons_succ, i64_w, i32_w]
           rfl
          refine pure_ (i := 9) (N := some 6) (v := ?_) (a' := ?_) #[true, true, true, true, true, true, true, true, true, true] rfl rfl (any_of HT_.out (by kernel_rfl)) (fun _ _ _ h => h) (Or.inl ⟨by rfl, ?_⟩) ?_ ?_
          rotate_left
          ·intro w'
           go_simp
           with_reducible rfl
          rotate_left
          ·simp only [Act.put, List.setIfInBounds_toArray, List.set_cons_zero, List.set_cons_succ, i64_w, i32_w]
           rfl
          refine done_ (done_of HT_.out (by kernel_rfl)) ?_
          try go_wp2_with (first | ((with_reducible refine gate_builtin (b := .append) (xs := #[.tmp 29, .tmp 33]) rfl ?_); at_builtin; refine Kd.R_append k93 (w0 := w) w.heap.size rfl (.tmp 29) (.tmp 33) 87 93 (.agg #[(.string ⟨#[]⟩), (.bool false), (.bool false)]) 24 rfl Tryd.underlying87 info93 rfl (by decide) (by omega) (.slice (some ⟨go11, 0, none⟩) x3_1.length co15) x3_1 (⟨(⟨#[]⟩ : ByteArray), ((bt a0 x11_1) == 45), false⟩ : S93) [.string (⟨#[]⟩ : ByteArray), .bool ((bt a0 x11_1) == 45), .bool false] (fun _ => True) (fun _ => False) rfl rfl ?aP (fun _ hk => hk.elim) ?aF ?aO ?aB ?aS ?aL ?_; (case aP => exact k93_mkM _ _ _ (⟨(⟨#[]⟩ : ByteArray), ((bt a0 x11_1) == 45), false⟩ : S93)); (case aB => exact (by repeat (first | (with_reducible first | exact HB.out | apply below_alloc | apply pw_below_drewN | apply below_drew1) | exact HB.out))); (case aF => exact (fun _ _ => trivial)); (case aO => exact (by (with_reducible repeat (first | apply Kd.R_alloc | apply Kd.R_drewN | apply Kd.R_drew)); exact HO_3.out)); (case aS => exact (below_size (by repeat (first | (with_reducible first | exact HB.out | apply below_alloc | apply pw_below_drewN | apply below_drew1) | exact HB.out)))); (case aL => have := LMc13.out; omega); intro v109 w16 ho hb hg hat; rw [← Ny108.out] at ho; have n0_ := Aside0.mk (hb); have n1_ := Aside0.mk (ho); clear HB; clear HO_3; have HB := n0_; have HO110 := n1_; clear n0_ n1_; clear ho hb hg hat))
          go_roundg k1
          case measure => have := HK1.out; omega
          case rel => exact ⟨(y108), (wrap64 (x11_1 + 1)), (by first | rfl | (simp; done) | (simp [*]; done) | (simp; exact isEmpty_bne _)), H', ⟨by have := HK1.out; omega⟩, ⟨by (with_reducible repeat (first | apply Kd.R_alloc | apply Kd.R_drewN | apply Kd.R_drew)); exact HO110.out⟩, ⟨by repeat (first | (with_reducible first | exact HB.out | apply below_alloc | apply pw_below_drewN | apply below_drew1) | exact HB.out)⟩⟩
         ·rw [if_neg c13] at H
          exact absurd H (by simp)
        ·rw [if_neg c12] at H
         have c12b0 : ((bt a0 x11_1) == 46) = false := beq_eq_false_iff_ne.mpr c12
         have c12b1 : ((bt a0 x11_1) != 46) = true := bne_iff_ne.mpr c12
         by_cases c17 : (bt a0 x11_1) = 45
         ·rw [if_pos c17] at H
          have c17b0 : ((bt a0 x11_1) == 45) = true := beq_iff_eq.mpr c17
          have c17b1 : ((bt a0 x11_1) != 45) = false := bne_eq_false_iff_eq.mpr c17
          clear c17
          by_cases c18 : x3_1.length < 5864062014805
          ·rw [if_pos c18] at H
           have LMc18 := Aside0.mk c18
           clear c18
           obtain ⟨y111, hy111⟩ : ∃ y_ : List (S93), y_ = (x3_1 ++ [(⟨(⟨#[]⟩ : ByteArray), true, false⟩ : S93)]) := ⟨_, rfl⟩
           replace H : (words_parts.l0 k1 a0 y111 (a0.size : Int) (wrap64 (x11_1 + 1))) = some r := by first | (rw [hy111]; with_reducible exact H) | (have H2_ := (Option.bind_some _ _).symm.trans H; rw [hy111]; with_reducible exact H2_) | (have H2_ := (Option.bind_some _ _).symm.trans H; with_reducible exact H2_) | with_reducible exact H | (rw [hy111]; exact H) | exact H
           have Ny111 := Aside0.mk hy111
           clear hy111
           have H' := Aside0.mk H
           clear H
           try go_wp2
           have n0_ := Aside0.mk (Kd.R_drew HO_3.out)
           have n1_ := Aside0.mk (below_drew1 HB.out)
           clear HO_3
           clear HB
           have HO_3 := n0_
           have HB := n1_
           clear n0_ n1_
           have p7 : 0 ≤ (x11_1 : Int) := of_decide_eq_true (by first | (with_reducible assumption) | assumption)
           have q7 : x11_1 < (a0.size : Int) := of_decide_eq_true (by first | (with_reducible assumption) | assumption)
           have hx7 := bt_at a0 x11_1
           replace p7 := eq_true p7
           replace q7 := eq_true q7
           obtain ⟨Ao20, co20, eo20⟩ := Kd.R_slice HO_3.out
           (first | subst eo20 | (injection eo20 with f1_ f2_ f3_; have f4_ := f1_.symm; have f5_ := f3_.symm; clear f1_ f2_ f3_; subst f4_; subst f5_))
           have p11 : 0 ≤ ((ji8) : Int) := of_decide_eq_true (by first | (with_reducible assumption) | assumption)
           have q11 : ((ji8) : Int) < ((x3_1.length : Int) : Int) := of_decide_eq_true (by first | (with_reducible assumption) | assumption)
           obtain ⟨go11, co11, eo11, gb11, gl11, cl11, HG11⟩ := Kd.R_form HO_3.out (by omega)
           (first | cases eo11 | (injection eo11 with ea_ en_ ec_; (first | subst ea_ | (injection ea_ with ea_; subst ea_)); subst ec_; clear en_))
           have GB11 := Aside0.mk gb11
           have GG11 := Aside0.mk HG11
           clear gb11 gl11 HG11
           obtain ⟨ce11, hcl11, hM11, hcc11, hfr11⟩ := Kd.R_elem HO_3.out z93 ((ji8) : Int) p11 q11
           obtain rfl := k93_openM hM11
           have hx11_0 : World.cell? _ ⟨go11, ((ji8) : Int).toNat * 3, none⟩ = some (.string ((rd_T93 x3_1 (ji8)).f0)) := hcc11 0 _ rfl
           have hx11_1 : World.cell? _ ⟨go11, ((ji8) : Int).toNat * 3 + 1, none⟩ = some (.bool ((rd_T93 x3_1 (ji8)).f1)) := hcc11 1 _ rfl
           have hx11_2 : World.cell? _ ⟨go11, ((ji8) : Int).toNat * 3 + 2, none⟩ = some (.bool ((rd_T93 x3_1 (ji8)).f2)) := hcc11 2 _ rfl
           have hf11_0 : World.frozen? _ ⟨go11, ((ji8) : Int).toNat * 3, none⟩ = false := hfr11 0
           have hf11_1 : World.frozen? _ ⟨go11, ((ji8) : Int).toNat * 3 + 1, none⟩ = false := hfr11 1
           have hf11_2 : World.frozen? _ ⟨go11, ((ji8) : Int).toNat * 3 + 2, none⟩ = false := hfr11 2
           clear hcl11 hcc11 hfr11 hM11
           replace p11 := eq_true p11
           replace q11 := eq_true q11
           refine start_ (n := 10) (S := fun w' => True) (ds := []) #[false, false, false, false, false, false, false, false, false, false] (by kernel_rfl) rfl rfl trivial (fun hHeld => ?_); refine with_tabW words_parts.tab5 words_parts.bits5 (fun HT_ HW_ => ?_)
           generalize wr.drew = w19 at HO_3 HB GG11 hf11_0 hf11_1 hf11_2 hx11_0 hx11_1 hx11_2 hHeld ⊢
           refine pure_ (i := 0) (N := some 14) (v := ?_) (a' := ?_) #[true, false, false, false, false, false, false, false, false, false] rfl rfl (any_of HT_.out (by kernel_rfl)) (fun _ _ _ h => h) (Or.inl ⟨by rfl, ?_⟩) ?_ ?_
           rotate_left
           ·intro w'
            go_simp
            with_reducible rfl
           rotate_left
           ·simp only [Act.put, List.setIfInBounds_toArray, List.set_cons_zero, List.set_cons_succ, i64_w, i32_w]
            rfl
           refine pure_ (i := 1) (N := some 15) (v := ?_) (a' := ?_) #[true, true, false, false, false, false, false, false, false, false] rfl rfl (any_of HT_.out (by kernel_rfl)) (fun _ _ _ h => h) (Or.inl ⟨by rfl, ?_⟩) ?_ ?_
           rotate_left
           ·intro w'
            go_simp
            with_reducible rfl
           rotate_left
           ·simp only [Act.put, List.setIfInBounds_toArray, List.set_cons_zero, List.set_cons_succ, i64_w, i32_w]
            rfl
           refine pure_ (i := 3) (N := some 17) (v := ?_) (a' := ?_) #[true, true, false, true, false, false, false, false, false, false] rfl rfl (any_of HT_.out (by kernel_rfl)) (fun _ _ _ h => h) (Or.inl ⟨by rfl, ?_⟩) ?_ ?_
           rotate_left
           ·intro w'
            go_simp
            with_reducible rfl
           rotate_left
           ·simp only [Act.put, List.setIfInBounds_toArray, List.set_cons_zero, List.set_cons_succ, i64_w, i32_w]
            rfl
           refine pure_ (i := 4) (N := some 18) (v := ?_) (a' := ?_) #[true, true, false, true, true, false, false, false, false, false] rfl rfl (any_of HT_.out (by kernel_rfl)) (fun _ _ _ h => h) (Or.inl ⟨by rfl, ?_⟩) ?_ ?_
           rotate_left
           ·intro w'
            go_simp
            with_reducible rfl
           rotate_left
           ·simp only [Act.put, List.setIfInBounds_toArray, List.set_cons_zero, List.set_cons_succ, i64_w, i32_w]
            rfl
           refine pure_ (i := 5) (N := some 19) (v := ?_) (a' := ?_) #[true, true, false, true, true, true, false, false, false, false] rfl rfl (any_of HT_.out (by kernel_rfl)) (fun _ _ _ h => h) (Or.inl ⟨by rfl, ?_⟩) ?_ ?_
           rotate_left
           ·intro w'
            go_simp
            with_reducible rfl
           rotate_left
           ·simp only [Act.put, List.setIfInBounds_toArray, List.set_cons_zero, List.set_cons_succ, i64_w, i32_w]
            rfl
           refine pure_ (i := 6) (N := some 20) (v := ?_) (a' := ?_) #[true, true, false, true, true, true, true, false, false, false] rfl rfl (any_of HT_.out (by kernel_rfl)) (fun _ _ _ h => h) (Or.inl ⟨by rfl, ?_⟩) ?_ ?_
           rotate_left
           ·intro w'
            go_simp
            with_reducible rfl
           rotate_left
           ·simp only [Act.put, List.setIfInBounds_toArray, List.set_cons_zero, List.set_cons_succ, i64_w, i32_w]
            rfl
           refine pure_ (i := 7) (N := some 21) (v := ?_) (a' := ?_) #[true, true, false, true, true, true, true, true, false, false] rfl rfl (any_of HT_.out (by kernel_rfl)) (fun _ _ _ h => h) (Or.inl ⟨by rfl, ?_⟩) ?_ ?_
           rotate_left
           ·intro w'
            go_simp
            with_reducible rfl
           rotate_left
           ·simp only [Act.put, List.setIfInBounds_toArray, List.set_cons_zero, List.set_cons_succ, i64_w, i32_w]
            rfl
           refine take_ (i := 2) (N := some 16) (v := ?_) (a' := ?_) #[true, true, true, true, true, true, true, true, false, false] rfl rfl (take_ofW HT_.out HW_.out (by kernel_rfl)) (fun _ _ _ h => h) (Or.inl ⟨by rfl, ?_⟩) hHeld ?_ ?_
           rotate_left
           ·intro w' _
            go_simp
            with_reducible rfl
           rotate_left
           ·simp only [Act.put, List.setIfInBounds_toArray, List.set_cons_zero, List.set_cons_succ, i64_w, i32_w]
            rfl
           refine pure_ (i := 8) (N := some 5) (v := ?_) (a' := ?_) #[true, true, true, true, true, true, true, true, true, false] rfl rfl (any_of HT_.out (by kernel_rfl)) (fun _ _ _ h => h) (Or.inl ⟨by rfl, ?_⟩) ?_ ?_
           rotate_left
           ·intro w'
            go_simp
            with_reducible rfl
           rotate_left
           ·simp only [Act.put, List.setIfInBounds_toArray, List.set_cons_zero, List.set_cons_succ, i64_w, i32_w]
            rfl
           refine pure_ (i := 9) (N := some 6) (v := ?_) (a' := ?_) #[true, true, true, true, true, true, true, true, true, true] rfl rfl (any_of HT_.out (by kernel_rfl)) (fun _ _ _ h => h) (Or.inl ⟨by rfl, ?_⟩) ?_ ?_
           rotate_left
           ·intro w'
            go_simp
            with_reducible rfl
           rotate_left
           ·simp only [Act.put, List.setIfInBounds_toArray, List.set_cons_zero, List.set_cons_succ, i64_w, i32_w]
            rfl
           refine done_ (done_of HT_.out (by kernel_rfl)) ?_
           try go_wp2_with (first | ((with_reducible refine gate_builtin (b := .append) (xs := #[.tmp 29, .tmp 33]) rfl ?_); at_builtin; refine Kd.R_append k93 (w0 := w) w.heap.size rfl (.tmp 29) (.tmp 33) 87 93 (.agg #[(.string ⟨#[]⟩), (.bool false), (.bool false)]) 24 rfl Tryd.underlying87 info93 rfl (by decide) (by omega) (.slice (some ⟨go11, 0, none⟩) x3_1.length co20) x3_1 (⟨(⟨#[]⟩ : ByteArray), true, false⟩ : S93) [.string (⟨#[]⟩ : ByteArray), .bool true, .bool false] (fun _ => True) (fun _ => False) rfl rfl ?aP (fun _ hk => hk.elim) ?aF ?aO ?aB ?aS ?aL ?_; (case aP => exact k93_mkM _ _ _ (⟨(⟨#[]⟩ : ByteArray), true, false⟩ : S93)); (case aB => exact (by repeat (first | (with_reducible first | exact HB.out | apply below_alloc | apply pw_below_drewN | apply below_drew1) | exact HB.out))); (case aF => exact (fun _ _ => trivial)); (case aO => exact (by (with_reducible repeat (first | apply Kd.R_alloc | apply Kd.R_drewN | apply Kd.R_drew)); exact HO_3.out)); (case aS => exact (below_size (by repeat (first | (with_reducible first | exact HB.out | apply below_alloc | apply pw_below_drewN | apply below_drew1) | exact HB.out)))); (case aL => have := LMc18.out; omega); intro v112 w21 ho hb hg hat; rw [← Ny111.out] at ho; have n0_ := Aside0.mk (hb); have n1_ := Aside0.mk (ho); clear HB; clear HO_3; have HB := n0_; have HO113 := n1_; clear n0_ n1_; clear ho hb hg hat))
           go_roundg k1
           case measure => have := HK1.out; omega
           case rel => exact ⟨(y111), (wrap64 (x11_1 + 1)), (by first | rfl | (simp; done) | (simp [*]; done) | (simp; exact isEmpty_bne _)), H', ⟨by have := HK1.out; omega⟩, ⟨by (with_reducible repeat (first | apply Kd.R_alloc | apply Kd.R_drewN | apply Kd.R_drew)); exact HO113.out⟩, ⟨by repeat (first | (with_reducible first | exact HB.out | apply below_alloc | apply pw_below_drewN | apply below_drew1) | exact HB.out)⟩⟩
          ·rw [if_neg c18] at H
           exact absurd H (by simp)
         ·rw [if_neg c17] at H
          have c17b0 : ((bt a0 x11_1) == 45) = false := beq_eq_false_iff_ne.mpr c17
          have c17b1 : ((bt a0 x11_1) != 45) = true := bne_iff_ne.mpr c17
          by_cases c22 : ((rd_T93 x3_1 (ji8)).f0).toList = ([] : List UInt8)
          ·rw [if_pos c22] at H
           have c22b0 : (((rd_T93 x3_1 (ji8)).f0).toList == ([] : List UInt8)) = true := beq_iff_eq.mpr c22
           have c22b1 : (((rd_T93 x3_1 (ji8)).f0).toList != ([] : List UInt8)) = false := bne_eq_false_iff_eq.mpr c22
           (try (have c22b2 : (((rd_T93 x3_1 (ji8)).f0).toList).isEmpty = true := by simpa using c22))
           clear c22
           obtain ⟨y116, hy116⟩ : ∃ y_ : List Int, y_ = (([bt a0 x11_1] : List Int)) := ⟨_, rfl⟩
           replace H : (if ((rd_T93 x3_1 (ji8)).f0).size + (strOfNums y116).size ≤ 9223372036854775807 then (words_parts.l0 k1 a0 (x3_1.set ((ji8) : Int).toNat (⟨((rd_T93 x3_1 (ji8)).f0) ++ (strOfNums y116), (rd_T93 x3_1 (ji8)).f1, (rd_T93 x3_1 (ji8)).f2⟩ : S93)) (a0.size : Int) (wrap64 (x11_1 + 1))) else (none)) = some r := by first | (rw [hy116]; with_reducible exact H) | (have H2_ := (Option.bind_some _ _).symm.trans H; rw [hy116]; with_reducible exact H2_) | (have H2_ := (Option.bind_some _ _).symm.trans H; with_reducible exact H2_) | with_reducible exact H | (rw [hy116]; exact H) | exact H
           have Ny116 := Aside0.mk hy116
           clear hy116
           by_cases c23 : ((rd_T93 x3_1 (ji8)).f0).size + (strOfNums y116).size ≤ 9223372036854775807
           ·rw [if_pos c23] at H
            have c23b0 := eq_true c23
            have c23b1 : decide (((rd_T93 x3_1 (ji8)).f0).size + (strOfNums y116).size ≤ 9223372036854775807) = true := decide_eq_true c23
            try have c23b2 : (9223372036854775807 < ((rd_T93 x3_1 (ji8)).f0).size + (strOfNums y116).size) = False := eq_false (Nat.not_lt.2 c23)
            obtain ⟨y119, hy119⟩ : ∃ y_ : List (S93), y_ = (x3_1.set ((ji8) : Int).toNat (⟨((rd_T93 x3_1 (ji8)).f0) ++ (strOfNums y116), (rd_T93 x3_1 (ji8)).f1, (rd_T93 x3_1 (ji8)).f2⟩ : S93)) := ⟨_, rfl⟩
            replace H : (words_parts.l0 k1 a0 y119 (a0.size : Int) (wrap64 (x11_1 + 1))) = some r := by first | (rw [hy119]; with_reducible exact H) | (have H2_ := (Option.bind_some _ _).symm.trans H; rw [hy119]; with_reducible exact H2_) | (have H2_ := (Option.bind_some _ _).symm.trans H; with_reducible exact H2_) | with_reducible exact H | (rw [hy119]; exact H) | exact H
            have Ny119 := Aside0.mk hy119
            clear hy119
            have H' := Aside0.mk H
            clear H
            try go_wp2
            have n0_ := Aside0.mk (Kd.R_drew HO_3.out)
            have n1_ := Aside0.mk (below_drew1 HB.out)
            clear HO_3
            clear HB
            have HO_3 := n0_
            have HB := n1_
            clear n0_ n1_
            have p7 : 0 ≤ (x11_1 : Int) := of_decide_eq_true (by first | (with_reducible assumption) | assumption)
            have q7 : x11_1 < (a0.size : Int) := of_decide_eq_true (by first | (with_reducible assumption) | assumption)
            have hx7 := bt_at a0 x11_1
            replace p7 := eq_true p7
            replace q7 := eq_true q7
            obtain ⟨Ao26, co26, eo26⟩ := Kd.R_slice HO_3.out
            (first | subst eo26 | (injection eo26 with f1_ f2_ f3_; have f4_ := f1_.symm; have f5_ := f3_.symm; clear f1_ f2_ f3_; subst f4_; subst f5_))
            have p11 : 0 ≤ ((ji8) : Int) := of_decide_eq_true (by first | (with_reducible assumption) | assumption)
            have q11 : ((ji8) : Int) < ((x3_1.length : Int) : Int) := of_decide_eq_true (by first | (with_reducible assumption) | assumption)
            obtain ⟨go11, co11, eo11, gb11, gl11, cl11, HG11⟩ := Kd.R_form HO_3.out (by omega)
            (first | cases eo11 | (injection eo11 with ea_ en_ ec_; (first | subst ea_ | (injection ea_ with ea_; subst ea_)); subst ec_; clear en_))
            have GB11 := Aside0.mk gb11
            have GG11 := Aside0.mk HG11
            clear gb11 gl11 HG11
            obtain ⟨ce11, hcl11, hM11, hcc11, hfr11⟩ := Kd.R_elem HO_3.out z93 ((ji8) : Int) p11 q11
            obtain rfl := k93_openM hM11
            have hx11_0 : World.cell? _ ⟨go11, ((ji8) : Int).toNat * 3, none⟩ = some (.string ((rd_T93 x3_1 (ji8)).f0)) := hcc11 0 _ rfl
            have hx11_1 : World.cell? _ ⟨go11, ((ji8) : Int).toNat * 3 + 1, none⟩ = some (.bool ((rd_T93 x3_1 (ji8)).f1)) := hcc11 1 _ rfl
            have hx11_2 : World.cell? _ ⟨go11, ((ji8) : Int).toNat * 3 + 2, none⟩ = some (.bool ((rd_T93 x3_1 (ji8)).f2)) := hcc11 2 _ rfl
            have hf11_0 : World.frozen? _ ⟨go11, ((ji8) : Int).toNat * 3, none⟩ = false := hfr11 0
            have hf11_1 : World.frozen? _ ⟨go11, ((ji8) : Int).toNat * 3 + 1, none⟩ = false := hfr11 1
            have hf11_2 : World.frozen? _ ⟨go11, ((ji8) : Int).toNat * 3 + 2, none⟩ = false := hfr11 2
            clear hcl11 hcc11 hfr11 hM11
            replace p11 := eq_true p11
            replace q11 := eq_true q11
            refine start_ (n := 10) (S := fun w' => True) (ds := []) #[false, false, false, false, false, false, false, false, false, false] (by kernel_rfl) rfl rfl trivial (fun hHeld => ?_); refine with_tabW words_parts.tab5 words_parts.bits5 (fun HT_ HW_ => ?_)
            generalize wr.drew = w25 at HO_3 HB GG11 hf11_0 hf11_1 hf11_2 hx11_0 hx11_1 hx11_2 hHeld ⊢
            refine pure_ (i := 0) (N := some 14) (v := ?_) (a' := ?_) #[true, false, false, false, false, false, false, false, false, false] rfl rfl (any_of HT_.out (by kernel_rfl)) (fun _ _ _ h => h) (Or.inl ⟨by rfl, ?_⟩) ?_ ?_
            rotate_left
            ·intro w'
             go_simp
             with_reducible rfl
            rotate_left
            ·simp only [Act.put, List.setIfInBounds_toArray, List.set_cons_zero, List.set_cons_succ, i64_w, i32_w]
             rfl
            refine pure_ (i := 1) (N := some 15) (v := ?_) (a' := ?_) #[true, true, false, false, false, false, false, false, false, false] rfl rfl (any_of HT_.out (by kernel_rfl)) (fun _ _ _ h => h) (Or.inl ⟨by rfl, ?_⟩) ?_ ?_
            rotate_left
            ·intro w'
             go_simp
             with_reducible rfl
            rotate_left
            ·simp only [Act.put, List.setIfInBounds_toArray, List.set_cons_zero, List.set_cons_succ, i64_w, i32_w]
             rfl
            refine pure_ (i := 3) (N := some 17) (v := ?_) (a' := ?_) #[true, true, false, true, false, false, false, false, false, false] rfl rfl (any_of HT_.out (by kernel_rfl)) (fun _ _ _ h => h) (Or.inl ⟨by rfl, ?_⟩) ?_ ?_
            rotate_left
            ·intro w'
             go_simp
             with_reducible rfl
            rotate_left
            ·simp only [Act.put, List.setIfInBounds_toArray, List.set_cons_zero, List.set_cons_succ, i64_w, i32_w]
             rfl
            refine pure_ (i := 4) (N := some 18) (v := ?_) (a' := ?_) #[true, true, false, true, true, false, false, false, false, false] rfl rfl (any_of HT_.out (by kernel_rfl)) (fun _ _ _ h => h) (Or.inl ⟨by rfl, ?_⟩) ?_ ?_
            rotate_left
            ·intro w'
             go_simp
             with_reducible rfl
            rotate_left
            ·simp only [Act.put, List.setIfInBounds_toArray, List.set_cons_zero, List.set_cons_succ, i64_w, i32_w]
             rfl
            refine pure_ (i := 5) (N := some 19) (v := ?_) (a' := ?_) #[true, true, false, true, true, true, false, false, false, false] rfl rfl (any_of HT_.out (by kernel_rfl)) (fun _ _ _ h => h) (Or.inl ⟨by rfl, ?_⟩) ?_ ?_
            rotate_left
            ·intro w'
             go_simp
             with_reducible rfl
            rotate_left
            ·simp only [Act.put, List.setIfInBounds_toArray, List.set_cons_zero, List.set_cons_succ, i64_w, i32_w]
             rfl
            refine pure_ (i := 6) (N := some 20) (v := ?_) (a' := ?_) #[true, true, false, true, true, true, true, false, false, false] rfl rfl (any_of HT_.out (by kernel_rfl)) (fun _ _ _ h => h) (Or.inl ⟨by rfl, ?_⟩) ?_ ?_
            rotate_left
            ·intro w'
             go_simp
             with_reducible rfl
            rotate_left
            ·simp only [Act.put, List.setIfInBounds_toArray, List.set_cons_zero, List.set_cons_succ, i64_w, i32_w]
             rfl
            refine pure_ (i := 7) (N := some 21) (v := ?_) (a' := ?_) #[true, true, false, true, true, true, true, true, false, false] rfl rfl (any_of HT_.out (by kernel_rfl)) (fun _ _ _ h => h) (Or.inl ⟨by rfl, ?_⟩) ?_ ?_
            rotate_left
            ·intro w'
             go_simp
             with_reducible rfl
            rotate_left
            ·simp only [Act.put, List.setIfInBounds_toArray, List.set_cons_zero, List.set_cons_succ, i64_w, i32_w]
             rfl
            refine take_ (i := 2) (N := some 16) (v := ?_) (a' := ?_) #[true, true, true, true, true, true, true, true, false, false] rfl rfl (take_ofW HT_.out HW_.out (by kernel_rfl)) (fun _ _ _ h => h) (Or.inl ⟨by rfl, ?_⟩) hHeld ?_ ?_
            rotate_left
            ·intro w' _
             go_simp
             with_reducible rfl
            rotate_left
            ·simp only [Act.put, List.setIfInBounds_toArray, List.set_cons_zero, List.set_cons_succ, i64_w, i32_w]
             rfl
            refine pure_ (i := 8) (N := some 5) (v := ?_) (a' := ?_) #[true, true, true, true, true, true, true, true, true, false] rfl rfl (any_of HT_.out (by kernel_rfl)) (fun _ _ _ h => h) (Or.inl ⟨by rfl, ?_⟩) ?_ ?_
            rotate_left
            ·intro w'
             go_simp
             with_reducible rfl
            rotate_left
            ·simp only [Act.put, List.setIfInBounds_toArray, List.set_cons_zero, List.set_cons_succ, i64_w, i32_w]
             rfl
            refine pure_ (i := 9) (N := some 6) (v := ?_) (a' := ?_) #[true, true, true, true, true, true, true, true, true, true] rfl rfl (any_of HT_.out (by kernel_rfl)) (fun _ _ _ h => h) (Or.inl ⟨by rfl, ?_⟩) ?_ ?_
            rotate_left
            ·intro w'
             go_simp
             with_reducible rfl
            rotate_left
            ·simp only [Act.put, List.setIfInBounds_toArray, List.set_cons_zero, List.set_cons_succ, i64_w, i32_w]
             rfl
            refine done_ (done_of HT_.out (by kernel_rfl)) ?_
            try go_wp2
            have n0_ := Aside0.mk (Kd.R_drew HO_3.out)
            have n1_ := Aside0.mk (below_drew1 HB.out)
            clear HO_3
            clear HB
            have HO_3 := n0_
            have HB := n1_
            clear n0_ n1_
            have p114 : 0 ≤ ((ji8) : Int) := of_decide_eq_true (by first | (with_reducible assumption) | assumption)
            have q114 : (ji8) < (x3_1.length : Int) := of_decide_eq_true (by first | (with_reducible assumption) | assumption)
            obtain ⟨ad114, e114, hx114_0, hx114_1, hx114_2⟩ := at_T93 (Kd.R_reads' HO_3.out).2.2 (ji8) p114 q114
            obtain rfl : (⟨go11, 0, none⟩ : Addr) = ad114 := (by injection e114)
            (first | simp only [add_plain] at hx114_0 | simp only [add_at] at hx114_0 | simp only [Addr.add, Nat.zero_add] at hx114_0 | skip)
            (first | simp only [add_plain] at hx114_1 | simp only [add_at] at hx114_1 | simp only [Addr.add, Nat.zero_add] at hx114_1 | skip)
            (first | simp only [add_plain] at hx114_2 | simp only [add_at] at hx114_2 | simp only [Addr.add, Nat.zero_add] at hx114_2 | skip)
            replace p114 := eq_true p114
            replace q114 := eq_true q114
            refine start_ (n := 16) (S := fun w' => w'.cell? ⟨go11, ((ji8)).toNat * 3, none⟩ = some (.string ((rd_T93 x3_1 (ji8)).f0)) ∧ w'.cell? ⟨go11, ((ji8)).toNat * 3 + 1, none⟩ = some (.bool ((rd_T93 x3_1 (ji8)).f1)) ∧ w'.cell? ⟨go11, ((ji8)).toNat * 3 + 2, none⟩ = some (.bool ((rd_T93 x3_1 (ji8)).f2))) (ds := []) #[false, false, false, false, false, false, false, false, false, false, false, false, false, false, false, false] (by kernel_rfl) rfl rfl ⟨hx114_0, hx114_1, hx114_2⟩ (fun hHeld => ?_); refine with_tabW words_parts.tab8 words_parts.bits8 (fun HT_ HW_ => ?_)
            generalize w25.drew = w27 at HO_3 HB hx114_0 hx114_1 hx114_2 hHeld ⊢
            refine pure_ (i := 0) (N := some 36) (v := ?_) (a' := ?_) #[true, false, false, false, false, false, false, false, false, false, false, false, false, false, false, false] rfl rfl (any_of HT_.out (by kernel_rfl)) (fun _ _ _ h => h) (Or.inl ⟨by rfl, ?_⟩) ?_ ?_
            rotate_left
            ·intro w'
             go_simp
             with_reducible rfl
            rotate_left
            ·simp only [Act.put, List.setIfInBounds_toArray, List.set_cons_zero, List.set_cons_succ, i64_w, i32_w]
             rfl
            refine pure_ (i := 1) (N := some 37) (v := ?_) (a' := ?_) #[true, true, false, false, false, false, false, false, false, false, false, false, false, false, false, false] rfl rfl (any_of HT_.out (by kernel_rfl)) (fun _ _ _ h => h) (Or.inl ⟨by rfl, ?_⟩) ?_ ?_
            rotate_left
            ·intro w'
             go_simp
             with_reducible rfl
            rotate_left
            ·simp only [Act.put, List.setIfInBounds_toArray, List.set_cons_zero, List.set_cons_succ, i64_w, i32_w]
             rfl
            refine pure_ (i := 2) (N := some 38) (v := ?_) (a' := ?_) #[true, true, true, false, false, false, false, false, false, false, false, false, false, false, false, false] rfl rfl (any_of HT_.out (by kernel_rfl)) (fun _ _ _ h => h) (Or.inl ⟨by rfl, ?_⟩) ?_ ?_
            rotate_left
            ·intro w'
             go_simp
             with_reducible rfl
            rotate_left
            ·simp only [Act.put, List.setIfInBounds_toArray, List.set_cons_zero, List.set_cons_succ, i64_w, i32_w]
             rfl
            refine take_ (i := 3) (N := some 39) (v := ?_) (a' := ?_) #[true, true, true, true, false, false, false, false, false, false, false, false, false, false, false, false] rfl rfl (take_ofW HT_.out HW_.out (by kernel_rfl)) (fun _ _ _ h => h) (Or.inl ⟨by rfl, ?_⟩) hHeld ?_ ?_
            rotate_left
            ·rintro w' ⟨s0, s1, s2⟩
             go_simp
             with_reducible rfl
            rotate_left
            ·simp only [Act.put, List.setIfInBounds_toArray, List.set_cons_zero, List.set_cons_succ, i64_w, i32_w]
             rfl
            refine pure_ (i := 4) (N := some 40) (v := ?_) (a' := ?_) #[true, true, true, true, true, false, false, false, false, false, false, false, false, false, false, false] rfl rfl (any_of HT_.out (by kernel_rfl)) (fun _ _ _ h => h) (Or.inl ⟨by rfl, ?_⟩) ?_ ?_
            rotate_left
            ·intro w'
             go_simp
             with_reducible rfl
            rotate_left
            ·simp only [Act.put, List.setIfInBounds_toArray, List.set_cons_zero, List.set_cons_succ, i64_w, i32_w]
             rfl
            refine pure_ (i := 5) (N := some 41) (v := ?_) (a' := ?_) #[true, true, true, true, true, true, false, false, false, false, false, false, false, false, false, false] rfl rfl (any_of HT_.out (by kernel_rfl)) (fun _ _ _ h => h) (Or.inl ⟨by rfl, ?_⟩) ?_ ?_
            rotate_left
            ·intro w'
             go_simp
             with_reducible rfl
            rotate_left
            ·simp only [Act.put, List.setIfInBounds_toArray, List.set_cons_zero, List.set_cons_succ, i64_w, i32_w]
             rfl
            refine pure_ (i := 6) (N := some 42) (v := undef) (a' := ?_) #[true, true, true, true, true, true, true, false, false, false, false, false, false, false, false, false] rfl rfl (any_of HT_.out (by kernel_rfl)) (fun _ _ _ h => h) (Or.inr ⟨by rfl, rfl⟩) ?_ ?_
            rotate_left
            ·simp only [Act.put, List.setIfInBounds_toArray, List.set_cons_zero, List.set_cons_succ, i64_w, i32_w]
             rfl
            refine pure_ (i := 7) (N := some 43) (v := undef) (a' := ?_) #[true, true, true, true, true, true, true, true, false, false, false, false, false, false, false, false] rfl rfl (any_of HT_.out (by kernel_rfl)) (fun _ _ _ h => h) (Or.inr ⟨by rfl, rfl⟩) ?_ ?_
            rotate_left
            ·simp only [Act.put, List.setIfInBounds_toArray, List.set_cons_zero, List.set_cons_succ, i64_w, i32_w]
             rfl
            refine pure_ (i := 8) (N := some 44) (v := undef) (a' := ?_) #[true, true, true, true, true, true, true, true, true, false, false, false, false, false, false, false] rfl rfl (any_of HT_.out (by kernel_rfl)) (fun _ _ _ h => h) (Or.inr ⟨by rfl, rfl⟩) ?_ ?_
            rotate_left
            ·simp only [Act.put, List.setIfInBounds_toArray, List.set_cons_zero, List.set_cons_succ, i64_w, i32_w]
             rfl
            refine pure_ (i := 9) (N := some 45) (v := undef) (a' := ?_) #[true, true, true, true, true, true, true, true, true, true, false, false, false, false, false, false] rfl rfl (any_of HT_.out (by kernel_rfl)) (fun _ _ _ h => h) (Or.inr ⟨by rfl, rfl⟩) ?_ ?_
            rotate_left
            ·simp only [Act.put, List.setIfInBounds_toArray, List.set_cons_zero, List.set_cons_succ, i64_w, i32_w]
             rfl
            refine pure_ (i := 10) (N := some 46) (v := undef) (a' := ?_) #[true, true, true, true, true, true, true, true, true, true, true, false, false, false, false, false] rfl rfl (any_of HT_.out (by kernel_rfl)) (fun _ _ _ h => h) (Or.inr ⟨by rfl, rfl⟩) ?_ ?_
            rotate_left
            ·simp only [Act.put, List.setIfInBounds_toArray, List.set_cons_zero, List.set_cons_succ, i64_w, i32_w]
             rfl
            refine pure_ (i := 11) (N := some 47) (v := undef) (a' := ?_) #[true, true, true, true, true, true, true, true, true, true, true, true, false, false, false, false] rfl rfl (any_of HT_.out (by kernel_rfl)) (fun _ _ _ h => h) (Or.inr ⟨by rfl, rfl⟩) ?_ ?_
            rotate_left
            ·simp only [Act.put, List.setIfInBounds_toArray, List.set_cons_zero, List.set_cons_succ, i64_w, i32_w]
             rfl
            refine pure_ (i := 12) (N := some 48) (v := undef) (a' := ?_) #[true, true, true, true, true, true, true, true, true, true, true, true, true, false, false, false] rfl rfl (any_of HT_.out (by kernel_rfl)) (fun _ _ _ h => h) (Or.inr ⟨by rfl, rfl⟩) ?_ ?_
            rotate_left
            ·simp only [Act.put, List.setIfInBounds_toArray, List.set_cons_zero, List.set_cons_succ, i64_w, i32_w]
             rfl
            refine pure_ (i := 13) (N := some 49) (v := undef) (a' := ?_) #[true, true, true, true, true, true, true, true, true, true, true, true, true, true, false, false] rfl rfl (any_of HT_.out (by kernel_rfl)) (fun _ _ _ h => h) (Or.inr ⟨by rfl, rfl⟩) ?_ ?_
            rotate_left
            ·simp only [Act.put, List.setIfInBounds_toArray, List.set_cons_zero, List.set_cons_succ, i64_w, i32_w]
             rfl
            refine pure_ (i := 14) (N := some 50) (v := ?_) (a' := ?_) #[true, true, true, true, true, true, true, true, true, true, true, true, true, true, true, false] rfl rfl (any_of HT_.out (by kernel_rfl)) (fun _ _ _ h => h) (Or.inl ⟨by rfl, ?_⟩) ?_ ?_
            rotate_left
            ·intro w'
             go_simp
             with_reducible rfl
            rotate_left
            ·simp only [Act.put, List.setIfInBounds_toArray, List.set_cons_zero, List.set_cons_succ, i64_w, i32_w]
             rfl
            refine pure_ (i := 15) (N := some 35) (v := ?_) (a' := ?_) #[true, true, true, true, true, true, true, true, true, true, true, true, true, true, true, true] rfl rfl (any_of HT_.out (by kernel_rfl)) (fun _ _ _ h => h) (Or.inl ⟨by rfl, ?_⟩) ?_ ?_
            rotate_left
            ·intro w'
             go_simp
             with_reducible rfl
            rotate_left
            ·simp only [Act.put, List.setIfInBounds_toArray, List.set_cons_zero, List.set_cons_succ, i64_w, i32_w]
             rfl
            refine done_ (done_of HT_.out (by kernel_rfl)) ?_
            try go_wp2
            have n0_ := Aside0.mk (Kd.R_drew HO_3.out)
            have n1_ := Aside0.mk (below_drew1 HB.out)
            clear HO_3
            clear HB
            have HO_3 := n0_
            have HB := n1_
            clear n0_ n1_
            have p115 : 0 ≤ ((ji8) : Int) := of_decide_eq_true (by first | (with_reducible assumption) | assumption)
            have q115 : (ji8) < (x3_1.length : Int) := of_decide_eq_true (by first | (with_reducible assumption) | assumption)
            obtain ⟨ad115, e115, hx115_0, hx115_1, hx115_2⟩ := at_T93 (Kd.R_reads' HO_3.out).2.2 (ji8) p115 q115
            obtain rfl : (⟨go11, 0, none⟩ : Addr) = ad115 := (by injection e115)
            (first | simp only [add_plain] at hx115_0 | simp only [add_at] at hx115_0 | simp only [Addr.add, Nat.zero_add] at hx115_0 | skip)
            (first | simp only [add_plain] at hx115_1 | simp only [add_at] at hx115_1 | simp only [Addr.add, Nat.zero_add] at hx115_1 | skip)
            (first | simp only [add_plain] at hx115_2 | simp only [add_at] at hx115_2 | simp only [Addr.add, Nat.zero_add] at hx115_2 | skip)
            replace p115 := eq_true p115
            replace q115 := eq_true q115
            refine start_ (n := 11) (S := fun w' => w'.cell? ⟨go11, ((ji8)).toNat * 3, none⟩ = some (.string ((rd_T93 x3_1 (ji8)).f0)) ∧ w'.cell? ⟨go11, ((ji8)).toNat * 3 + 1, none⟩ = some (.bool ((rd_T93 x3_1 (ji8)).f1)) ∧ w'.cell? ⟨go11, ((ji8)).toNat * 3 + 2, none⟩ = some (.bool ((rd_T93 x3_1 (ji8)).f2))) (ds := [10]) #[false, false, false, false, false, false, false, false, false, false, false] (by kernel_rfl) rfl rfl ⟨hx115_0, hx115_1, hx115_2⟩ (fun hHeld => ?_); refine with_tabW words_parts.tab12 words_parts.bits12 (fun HT_ HW_ => ?_)
            generalize w27.drew = w28 at HO_3 HB hx115_0 hx115_1 hx115_2 hHeld ⊢
            refine pure_ (i := 0) (N := some 65) (v := ?_) (a' := ?_) #[true, false, false, false, false, false, false, false, false, false, false] rfl rfl (any_of HT_.out (by kernel_rfl)) (fun _ _ _ h => h) (Or.inl ⟨by rfl, ?_⟩) ?_ ?_
            rotate_left
            ·intro w'
             go_simp
             with_reducible rfl
            rotate_left
            ·simp only [Act.put, List.setIfInBounds_toArray, List.set_cons_zero, List.set_cons_succ, i64_w, i32_w]
             rfl
            refine pure_ (i := 1) (N := some 66) (v := ?_) (a' := ?_) #[true, true, false, false, false, false, false, false, false, false, false] rfl rfl (any_of HT_.out (by kernel_rfl)) (fun _ _ _ h => h) (Or.inl ⟨by rfl, ?_⟩) ?_ ?_
            rotate_left
            ·intro w'
             go_simp
             with_reducible rfl
            rotate_left
            ·simp only [Act.put, List.setIfInBounds_toArray, List.set_cons_zero, List.set_cons_succ, i64_w, i32_w]
             rfl
            refine pure_ (i := 2) (N := some 67) (v := ?_) (a' := ?_) #[true, true, true, false, false, false, false, false, false, false, false] rfl rfl (any_of HT_.out (by kernel_rfl)) (fun _ _ _ h => h) (Or.inl ⟨by rfl, ?_⟩) ?_ ?_
            rotate_left
            ·intro w'
             go_simp
             with_reducible rfl
            rotate_left
            ·simp only [Act.put, List.setIfInBounds_toArray, List.set_cons_zero, List.set_cons_succ, i64_w, i32_w]
             rfl
            refine pure_ (i := 4) (N := some 69) (v := ?_) (a' := ?_) #[true, true, true, false, true, false, false, false, false, false, false] rfl rfl (any_of HT_.out (by kernel_rfl)) (fun _ _ _ h => h) (Or.inl ⟨by rfl, ?_⟩) ?_ ?_
            rotate_left
            ·intro w'
             go_simp
             with_reducible rfl
            rotate_left
            ·simp only [Act.put, List.setIfInBounds_toArray, List.set_cons_zero, List.set_cons_succ, i64_w, i32_w]
             rfl
            refine take_ (i := 3) (N := some 68) (v := ?_) (a' := ?_) #[true, true, true, true, true, false, false, false, false, false, false] rfl rfl (take_ofW HT_.out HW_.out (by kernel_rfl)) (fun _ _ _ h => h) (Or.inl ⟨by rfl, ?_⟩) hHeld ?_ ?_
            rotate_left
            ·rintro w' ⟨s0, s1, s2⟩
             go_simp
             with_reducible rfl
            rotate_left
            ·simp only [Act.put, List.setIfInBounds_toArray, List.set_cons_zero, List.set_cons_succ, i64_w, i32_w]
             rfl
            refine one_ (i := 5) (N := some 70) #[true, true, true, true, true, true, false, false, false, false, false] rfl rfl (one_of HT_.out (by kernel_rfl)) (by decide) (fun K hK => ?_)
            refine Kd.R_lit_step (Kd.int .u8) _ 5 ?hg (N := 70) ?hd (xs := ([bt a0 x11_1] : List Int)) (inner := [.int .u8 (bt a0 x11_1)]) (ok := fun _ => True) (okp := fun _ => True) ?hr ?hp (fun _ hk => hk) trivial (Below.refl _ _) (Nat.le_refl _) (by simp) ?_; (case hd => rfl); (case hg => rfl); (case hr => first | (go_simp; done) | (go_simp; rfl)); (case hp => exact (Reps.one (show Kd.M (Kd.int .u8) _ _ _ (bt a0 x11_1) [.int .u8 (bt a0 x11_1)] from rfl) (Reps.none _ _)))
            intro v117 w29 ho30 hb hg_ hnew_
            have HS0_ := (hb.cell (World.block_lt_of_cell? _ _ (hHeld.1))).trans (hHeld.1)
            have HS1_ := (hb.cell (World.block_lt_of_cell? _ _ (hHeld.2.1))).trans (hHeld.2.1)
            have HS2_ := (hb.cell (World.block_lt_of_cell? _ _ (hHeld.2.2))).trans (hHeld.2.2)
            clear hg_ hnew_
            (first | rw [← Ny116.out] at ho30 | (simp only [Int.reduceToNat] at ho30; rw [← Ny116.out] at ho30))
            have n0_ := Aside0.mk (Kd.R_below (by (with_reducible repeat (first | apply Kd.R_alloc | apply Kd.R_drewN | apply Kd.R_drew)); exact HO_3.out) hb)
            have n1_ := Aside0.mk (Kd.R_lower ho30 (below_size (by repeat (first | (with_reducible first | exact HB.out | apply below_alloc | apply pw_below_drewN | apply below_drew1) | exact HB.out))))
            have n2_ := Aside0.mk (below_step (by repeat (first | (with_reducible first | exact HB.out | apply below_alloc | apply pw_below_drewN | apply below_drew1) | exact HB.out)) hb)
            clear HO_3
            clear HB
            have HO_3 := n0_
            have HO118 := n1_
            have HB := n2_
            clear n0_ n1_ n2_
            clear hb ho30
            have p24 : 0 ≤ ((ji8) : Int) := of_decide_eq_true (by first | (with_reducible assumption) | assumption)
            have q24 : ((ji8) : Int) < ((x3_1.length : Int) : Int) := of_decide_eq_true (by first | (with_reducible assumption) | assumption)
            obtain ⟨ce24, hcl24, hM24, hcc24, hfr24⟩ := Kd.R_elem HO_3.out z93 ((ji8) : Int) p24 q24
            obtain rfl := k93_openM hM24
            have hx24_0 : World.cell? _ ⟨go11, ((ji8) : Int).toNat * 3, none⟩ = some (.string ((rd_T93 x3_1 (ji8)).f0)) := hcc24 0 _ rfl
            have hx24_1 : World.cell? _ ⟨go11, ((ji8) : Int).toNat * 3 + 1, none⟩ = some (.bool ((rd_T93 x3_1 (ji8)).f1)) := hcc24 1 _ rfl
            have hx24_2 : World.cell? _ ⟨go11, ((ji8) : Int).toNat * 3 + 2, none⟩ = some (.bool ((rd_T93 x3_1 (ji8)).f2)) := hcc24 2 _ rfl
            have hf24_0 : World.frozen? _ ⟨go11, ((ji8) : Int).toNat * 3, none⟩ = false := hfr24 0
            have hf24_1 : World.frozen? _ ⟨go11, ((ji8) : Int).toNat * 3 + 1, none⟩ = false := hfr24 1
            have hf24_2 : World.frozen? _ ⟨go11, ((ji8) : Int).toNat * 3 + 2, none⟩ = false := hfr24 2
            clear hcl24 hcc24 hfr24 hM24
            replace p24 := eq_true p24
            replace q24 := eq_true q24
            obtain ⟨ce32, hcl32, hM32, hcc32, hfr32⟩ := Kd.R_elem HO_3.out z93 ((ji8) : Int) (of_decide_eq_true (by first | (with_reducible assumption) | assumption)) (by have h_ : ((ji8) : Int) < ((x3_1.length : Int) : Int) := of_decide_eq_true (by first | (with_reducible assumption) | assumption); first | exact h_ | (have e_ := (Kd.R_reads' HO_3.out).1; omega) | simpa using h_)
            obtain rfl := k93_openM hM32
            have HP32 := (Kd.R_seg HO_3.out ((ji8) : Int) (of_decide_eq_true (by first | (with_reducible assumption) | assumption)) (by have h_ : ((ji8) : Int) < ((x3_1.length : Int) : Int) := of_decide_eq_true (by first | (with_reducible assumption) | assumption); first | exact h_ | (have e_ := (Kd.R_reads' HO_3.out).1; omega) | simpa using h_) (seg := [.string (((rd_T93 x3_1 (ji8)).f0) ++ (strOfNums y116))]) (j := 0) hcl32 hcc32 (show 1 ≤ 3 from by decide) (x' := (⟨((rd_T93 x3_1 (ji8)).f0) ++ (strOfNums y116), (rd_T93 x3_1 (ji8)).f1, (rd_T93 x3_1 (ji8)).f2⟩ : S93)) (k93_mkM _ _ _ (⟨((rd_T93 x3_1 (ji8)).f0) ++ (strOfNums y116), (rd_T93 x3_1 (ji8)).f1, (rd_T93 x3_1 (ji8)).f2⟩ : S93) ) (fun _ hk => hk)).1
            rw [← Ny119.out] at HP32
            have HQ32 := Aside0.mk HP32
            clear hcl32 hcc32 hfr32 hM32 HP32
            refine hK.out _ _ ⟨HS0_, HS1_, HS2_⟩ (fun hHeld => ?_)
            clear hK K
            refine norm_ (a' := ?_) ?_ ?_
            rotate_left
            ·show Act.put _ (some 70) _ = _
             simp only [Act.put, List.setIfInBounds_toArray, List.set_cons_zero, List.set_cons_succ, i64_w, i32_w]
             rfl
            refine one_ (i := 6) (N := some 71) #[true, true, true, true, true, true, true, false, false, false, false] rfl rfl (one_of HT_.out (by kernel_rfl)) (by decide) (fun K hK => ?_)
            have hcv31 := own_string (P := Tryd.prog) Tryd.underlying30 Tryd.underlying5 Tryd.underlying9 (Kd.own_of_R HO118.out)
            refine value_ (w1 := ?_) (v := ?_) (by rfl) rfl ?_ ?_
            rotate_left 2
            ·go_simp
             constructor
             ·rfl
             ·rfl
            clear hcv31
            refine hK.out _ _ ⟨hHeld.1, hHeld.2.1, hHeld.2.2⟩ (fun hHeld => ?_)
            clear hK K
            refine norm_ (a' := ?_) ?_ ?_
            rotate_left
            ·show Act.put _ (some 71) _ = _
             simp only [Act.put, List.setIfInBounds_toArray, List.set_cons_zero, List.set_cons_succ, i64_w, i32_w]
             rfl
            refine pure_ (i := 7) (N := some 72) (v := ?_) (a' := ?_) #[true, true, true, true, true, true, true, true, false, false, false] rfl rfl (any_of HT_.out (by kernel_rfl)) (fun _ _ _ h => h) (Or.inl ⟨by rfl, ?_⟩) ?_ ?_
            rotate_left
            ·intro w'
             go_simp
             with_reducible rfl
            rotate_left
            ·simp only [Act.put, List.setIfInBounds_toArray, List.set_cons_zero, List.set_cons_succ, i64_w, i32_w]
             rfl
            refine pure_ (i := 8) (N := some 73) (v := ?_) (a' := ?_) #[true, true, true, true, true, true, true, true, true, false, false] rfl rfl (any_of HT_.out (by kernel_rfl)) (fun _ _ _ h => h) (Or.inl ⟨by rfl, ?_⟩) ?_ ?_
            rotate_left
            ·intro w'
             go_simp
             with_reducible rfl
            rotate_left
            ·simp only [Act.put, List.setIfInBounds_toArray, List.set_cons_zero, List.set_cons_succ, i64_w, i32_w]
             rfl
            refine pure_ (i := 9) (N := some 74) (v := ?_) (a' := ?_) #[true, true, true, true, true, true, true, true, true, true, false] rfl rfl (any_of HT_.out (by kernel_rfl)) (fun _ _ _ h => h) (Or.inl ⟨by rfl, ?_⟩) ?_ ?_
            rotate_left
            ·intro w'
             go_simp
             with_reducible rfl
            rotate_left
            ·simp only [Act.put, List.setIfInBounds_toArray, List.set_cons_zero, List.set_cons_succ, i64_w, i32_w]
             rfl
            refine last_ (i := 10) (N := none) #[true, true, true, true, true, true, true, true, true, true, true] rfl rfl (one_of HT_.out (by kernel_rfl)) (by decide) (fun K hK => ?_)
            refine skip_ (w1 := ?_) (by rfl) rfl ?_ ?_
            rotate_left
            ·go_simp
             rfl
            refine hK.out _ _ ?_
            clear hK K
            refine done_ (done_of HT_.out (by kernel_rfl)) ?_
            try go_wp2
            go_roundg k1
            case measure => have := HK1.out; omega
            case rel => exact ⟨(y119), (wrap64 (x11_1 + 1)), (by first | rfl | (simp; done) | (simp [*]; done) | (simp; exact isEmpty_bne _)), H', ⟨by have := HK1.out; omega⟩, ⟨by (with_reducible repeat (first | apply Kd.R_alloc | apply Kd.R_drewN | apply Kd.R_drew)); exact HQ32.out⟩, ⟨by repeat (first | (with_reducible first | exact HB.out | apply below_alloc | apply pw_below_drewN | apply below_drew1 | refine below_set ?_ GB11.out) | exact HB.out)⟩⟩
           ·rw [if_neg c23] at H
            exact absurd H (by simp)
          ·rw [if_neg c22] at H
           have c22b0 : (((rd_T93 x3_1 (ji8)).f0).toList == ([] : List UInt8)) = false := beq_eq_false_iff_ne.mpr c22
           have c22b1 : (((rd_T93 x3_1 (ji8)).f0).toList != ([] : List UInt8)) = true := bne_iff_ne.mpr c22
           (try (have c22b2 : (((rd_T93 x3_1 (ji8)).f0).toList).isEmpty = false := by simpa using c22))
           replace H := Option.bind_eq_some_iff.mp H
           obtain ⟨t120, A330, H⟩ := H
           replace H : (if 0 ≤ (wrap64 (x11_1 - 1)) then (if (wrap64 (x11_1 - 1)) < (a0.size : Int) then ((chars_Digit.f (bt a0 (wrap64 (x11_1 - 1)))).bind fun t121 => (if (t120 != t121) = true then ((chars_Digit.f (bt a0 x11_1)).bind fun t122 => ((some (x3_1.set ((ji8) : Int).toNat (⟨(rd_T93 x3_1 (ji8)).f0, (rd_T93 x3_1 (ji8)).f1, t122⟩ : S93) : List (S93))).bind fun y123 => (if y123.length < 5864062014805 then ((some (y123 ++ [(⟨(⟨#[]⟩ : ByteArray), true, false⟩ : S93)] : List (S93))).bind fun y124 => (if 0 ≤ (wrap64 ((y124.length : Int) - 1)) then (if (wrap64 ((y124.length : Int) - 1)) < (y124.length : Int) then ((some (([bt a0 x11_1] : List Int) : List Int)).bind fun y128 => (if ((rd_T93 y124 (wrap64 ((y124.length : Int) - 1))).f0).size + (strOfNums y128).size ≤ 9223372036854775807 then (words_parts.l0 k1 a0 (y124.set ((wrap64 ((y124.length : Int) - 1)) : Int).toNat (⟨((rd_T93 y124 (wrap64 ((y124.length : Int) - 1))).f0) ++ (strOfNums y128), (rd_T93 y124 (wrap64 ((y124.length : Int) - 1))).f1, (rd_T93 y124 (wrap64 ((y124.length : Int) - 1))).f2⟩ : S93)) (a0.size : Int) (wrap64 (x11_1 + 1))) else (none))) else (none)) else (none))) else (none)))) else ((some (([bt a0 x11_1] : List Int) : List Int)).bind fun y133 => (if ((rd_T93 x3_1 (ji8)).f0).size + (strOfNums y133).size ≤ 9223372036854775807 then (words_parts.l0 k1 a0 (x3_1.set ((ji8) : Int).toNat (⟨((rd_T93 x3_1 (ji8)).f0) ++ (strOfNums y133), (rd_T93 x3_1 (ji8)).f1, (rd_T93 x3_1 (ji8)).f2⟩ : S93)) (a0.size : Int) (wrap64 (x11_1 + 1))) else (none))))) else (none)) else (none)) = some r := H
           have A33 := Aside0.mk A330
           clear A330
           obtain ⟨ji34, hji34⟩ : ∃ j_ : Int, (wrap64 (x11_1 - 1)) = j_ := ⟨_, rfl⟩
           replace H : (if 0 ≤ (ji34) then (if (ji34) < (a0.size : Int) then ((chars_Digit.f (bt a0 (ji34))).bind fun t121 => (if (t120 != t121) = true then ((chars_Digit.f (bt a0 x11_1)).bind fun t122 => ((some (x3_1.set ((ji8) : Int).toNat (⟨(rd_T93 x3_1 (ji8)).f0, (rd_T93 x3_1 (ji8)).f1, t122⟩ : S93) : List (S93))).bind fun y123 => (if y123.length < 5864062014805 then ((some (y123 ++ [(⟨(⟨#[]⟩ : ByteArray), true, false⟩ : S93)] : List (S93))).bind fun y124 => (if 0 ≤ (wrap64 ((y124.length : Int) - 1)) then (if (wrap64 ((y124.length : Int) - 1)) < (y124.length : Int) then ((some (([bt a0 x11_1] : List Int) : List Int)).bind fun y128 => (if ((rd_T93 y124 (wrap64 ((y124.length : Int) - 1))).f0).size + (strOfNums y128).size ≤ 9223372036854775807 then (words_parts.l0 k1 a0 (y124.set ((wrap64 ((y124.length : Int) - 1)) : Int).toNat (⟨((rd_T93 y124 (wrap64 ((y124.length : Int) - 1))).f0) ++ (strOfNums y128), (rd_T93 y124 (wrap64 ((y124.length : Int) - 1))).f1, (rd_T93 y124 (wrap64 ((y124.length : Int) - 1))).f2⟩ : S93)) (a0.size : Int) (wrap64 (x11_1 + 1))) else (none))) else (none)) else (none))) else (none)))) else ((some (([bt a0 x11_1] : List Int) : List Int)).bind fun y133 => (if ((rd_T93 x3_1 (ji8)).f0).size + (strOfNums y133).size ≤ 9223372036854775807 then (words_parts.l0 k1 a0 (x3_1.set ((ji8) : Int).toNat (⟨((rd_T93 x3_1 (ji8)).f0) ++ (strOfNums y133), (rd_T93 x3_1 (ji8)).f1, (rd_T93 x3_1 (ji8)).f2⟩ : S93)) (a0.size : Int) (wrap64 (x11_1 + 1))) else (none))))) else (none)) else (none)) = some r := by first | (rw [hji34] at H; exact H) | (simp only [hji34] at H ⊢; exact H)
           (try rw [hji34] at A33)
           have hji34w : (IntKind.i64.wrap (x11_1 - 1)) = ji34 := (i64_w _).trans hji34
           by_cases c35 : 0 ≤ (ji34)
           ·rw [if_pos c35] at H
            have c35b0 : decide (0 ≤ (ji34)) = true := decide_eq_true c35
            clear c35
            by_cases c36 : (ji34) < (a0.size : Int)
            ·rw [if_pos c36] at H
             have c36b0 : decide ((ji34) < (a0.size : Int)) = true := decide_eq_true c36
             clear c36
             replace H := Option.bind_eq_some_iff.mp H
             obtain ⟨t121, A380, H⟩ := H
             replace H : (if (t120 != t121) = true then ((chars_Digit.f (bt a0 x11_1)).bind fun t122 => ((some (x3_1.set ((ji8) : Int).toNat (⟨(rd_T93 x3_1 (ji8)).f0, (rd_T93 x3_1 (ji8)).f1, t122⟩ : S93) : List (S93))).bind fun y123 => (if y123.length < 5864062014805 then ((some (y123 ++ [(⟨(⟨#[]⟩ : ByteArray), true, false⟩ : S93)] : List (S93))).bind fun y124 => (if 0 ≤ (wrap64 ((y124.length : Int) - 1)) then (if (wrap64 ((y124.length : Int) - 1)) < (y124.length : Int) then ((some (([bt a0 x11_1] : List Int) : List Int)).bind fun y128 => (if ((rd_T93 y124 (wrap64 ((y124.length : Int) - 1))).f0).size + (strOfNums y128).size ≤ 9223372036854775807 then (words_parts.l0 k1 a0 (y124.set ((wrap64 ((y124.length : Int) - 1)) : Int).toNat (⟨((rd_T93 y124 (wrap64 ((y124.length : Int) - 1))).f0) ++ (strOfNums y128), (rd_T93 y124 (wrap64 ((y124.length : Int) - 1))).f1, (rd_T93 y124 (wrap64 ((y124.length : Int) - 1))).f2⟩ : S93)) (a0.size : Int) (wrap64 (x11_1 + 1))) else (none))) else (none)) else (none))) else (none)))) else ((some (([bt a0 x11_1] : List Int) : List Int)).bind fun y133 => (if ((rd_T93 x3_1 (ji8)).f0).size + (strOfNums y133).size ≤ 9223372036854775807 then (words_parts.l0 k1 a0 (x3_1.set ((ji8) : Int).toNat (⟨((rd_T93 x3_1 (ji8)).f0) ++ (strOfNums y133), (rd_T93 x3_1 (ji8)).f1, (rd_T93 x3_1 (ji8)).f2⟩ : S93)) (a0.size : Int) (wrap64 (x11_1 + 1))) else (none)))) = some r := H
             have A38 := Aside0.mk A380
             clear A380
             by_cases c39 : (t120 != t121) = true
             ·rw [if_pos c39] at H
              have c39b0 : (t120 != t121) = true := c39
              (try (have c39b1 : decide (t120 = t121) = false := by simpa using c39))
              (try (have c39b2 : (t120 == t121) = false := by simpa using c39))
              (try (have c39b3 : ¬ (t120 = t121) := by simpa using c39))
              clear c39
              replace H := Option.bind_eq_some_iff.mp H
              obtain ⟨t122, A400, H⟩ := H
              replace H : ((some (x3_1.set ((ji8) : Int).toNat (⟨(rd_T93 x3_1 (ji8)).f0, (rd_T93 x3_1 (ji8)).f1, t122⟩ : S93) : List (S93))).bind fun y123 => (if y123.length < 5864062014805 then ((some (y123 ++ [(⟨(⟨#[]⟩ : ByteArray), true, false⟩ : S93)] : List (S93))).bind fun y124 => (if 0 ≤ (wrap64 ((y124.length : Int) - 1)) then (if (wrap64 ((y124.length : Int) - 1)) < (y124.length : Int) then ((some (([bt a0 x11_1] : List Int) : List Int)).bind fun y128 => (if ((rd_T93 y124 (wrap64 ((y124.length : Int) - 1))).f0).size + (strOfNums y128).size ≤ 9223372036854775807 then (words_parts.l0 k1 a0 (y124.set ((wrap64 ((y124.length : Int) - 1)) : Int).toNat (⟨((rd_T93 y124 (wrap64 ((y124.length : Int) - 1))).f0) ++ (strOfNums y128), (rd_T93 y124 (wrap64 ((y124.length : Int) - 1))).f1, (rd_T93 y124 (wrap64 ((y124.length : Int) - 1))).f2⟩ : S93)) (a0.size : Int) (wrap64 (x11_1 + 1))) else (none))) else (none)) else (none))) else (none))) = some r := H
              have A40 := Aside0.mk A400
              clear A400
              obtain ⟨y123, hy123⟩ : ∃ y_ : List (S93), y_ = (x3_1.set ((ji8) : Int).toNat (⟨(rd_T93 x3_1 (ji8)).f0, (rd_T93 x3_1 (ji8)).f1, t122⟩ : S93)) := ⟨_, rfl⟩
              replace H : (if y123.length < 5864062014805 then ((some (y123 ++ [(⟨(⟨#[]⟩ : ByteArray), true, false⟩ : S93)] : List (S93))).bind fun y124 => (if 0 ≤ (wrap64 ((y124.length : Int) - 1)) then (if (wrap64 ((y124.length : Int) - 1)) < (y124.length : Int) then ((some (([bt a0 x11_1] : List Int) : List Int)).bind fun y128 => (if ((rd_T93 y124 (wrap64 ((y124.length : Int) - 1))).f0).size + (strOfNums y128).size ≤ 9223372036854775807 then (words_parts.l0 k1 a0 (y124.set ((wrap64 ((y124.length : Int) - 1)) : Int).toNat (⟨((rd_T93 y124 (wrap64 ((y124.length : Int) - 1))).f0) ++ (strOfNums y128), (rd_T93 y124 (wrap64 ((y124.length : Int) - 1))).f1, (rd_T93 y124 (wrap64 ((y124.length : Int) - 1))).f2⟩ : S93)) (a0.size : Int) (wrap64 (x11_1 + 1))) else (none))) else (none)) else (none))) else (none)) = some r := by first | (rw [hy123]; with_reducible exact H) | (have H2_ := (Option.bind_some _ _).symm.trans H; rw [hy123]; with_reducible exact H2_) | (have H2_ := (Option.bind_some _ _).symm.trans H; with_reducible exact H2_) | with_reducible exact H | (rw [hy123]; exact H) | exact H
              have Ny123 := Aside0.mk hy123
              clear hy123
              by_cases c42 : y123.length < 5864062014805
              ·rw [if_pos c42] at H
               have LMc42 := Aside0.mk c42
               clear c42
               obtain ⟨y124, hy124⟩ : ∃ y_ : List (S93), y_ = (y123 ++ [(⟨(⟨#[]⟩ : ByteArray), true, false⟩ : S93)]) := ⟨_, rfl⟩
               replace H : (if 0 ≤ (wrap64 ((y124.length : Int) - 1)) then (if (wrap64 ((y124.length : Int) - 1)) < (y124.length : Int) then ((some (([bt a0 x11_1] : List Int) : List Int)).bind fun y128 => (if ((rd_T93 y124 (wrap64 ((y124.length : Int) - 1))).f0).size + (strOfNums y128).size ≤ 9223372036854775807 then (words_parts.l0 k1 a0 (y124.set ((wrap64 ((y124.length : Int) - 1)) : Int).toNat (⟨((rd_T93 y124 (wrap64 ((y124.length : Int) - 1))).f0) ++ (strOfNums y128), (rd_T93 y124 (wrap64 ((y124.length : Int) - 1))).f1, (rd_T93 y124 (wrap64 ((y124.length : Int) - 1))).f2⟩ : S93)) (a0.size : Int) (wrap64 (x11_1 + 1))) else (none))) else (none)) else (none)) = some r := by first | (rw [hy124]; with_reducible exact H) | (have H2_ := (Option.bind_some _ _).symm.trans H; rw [hy124]; with_reducible exact H2_) | (have H2_ := (Option.bind_some _ _).symm.trans H; with_reducible exact H2_) | with_reducible exact H | (rw [hy124]; exact H) | exact H
               have Ny124 := Aside0.mk hy124
               clear hy124
               obtain ⟨ji43, hji43⟩ : ∃ j_ : Int, (wrap64 ((y124.length : Int) - 1)) = j_ := ⟨_, rfl⟩
               replace H : (if 0 ≤ (ji43) then (if (ji43) < (y124.length : Int) then ((some (([bt a0 x11_1] : List Int) : List Int)).bind fun y128 => (if ((rd_T93 y124 (ji43)).f0).size + (strOfNums y128).size ≤ 9223372036854775807 then (words_parts.l0 k1 a0 (y124.set ((ji43) : Int).toNat (⟨((rd_T93 y124 (ji43)).f0) ++ (strOfNums y128), (rd_T93 y124 (ji43)).f1, (rd_T93 y124 (ji43)).f2⟩ : S93)) (a0.size : Int) (wrap64 (x11_1 + 1))) else (none))) else (none)) else (none)) = some r := by first | (rw [hji43] at H; exact H) | (simp only [hji43] at H ⊢; exact H)
               (try rw [hji43] at A33)
               (try rw [hji43] at A38)
               (try rw [hji43] at A40)
               have hji43w : (IntKind.i64.wrap ((y124.length : Int) - 1)) = ji43 := (i64_w _).trans hji43
               by_cases c44 : 0 ≤ (ji43)
               ·rw [if_pos c44] at H
                have c44b0 : decide (0 ≤ (ji43)) = true := decide_eq_true c44
                clear c44
                by_cases c45 : (ji43) < (y124.length : Int)
                ·rw [if_pos c45] at H
                 have c45b0 : decide ((ji43) < (y124.length : Int)) = true := decide_eq_true c45
                 clear c45
                 obtain ⟨y128, hy128⟩ : ∃ y_ : List Int, y_ = (([bt a0 x11_1] : List Int)) := ⟨_, rfl⟩
                 replace H : (if ((rd_T93 y124 (ji43)).f0).size + (strOfNums y128).size ≤ 9223372036854775807 then (words_parts.l0 k1 a0 (y124.set ((ji43) : Int).toNat (⟨((rd_T93 y124 (ji43)).f0) ++ (strOfNums y128), (rd_T93 y124 (ji43)).f1, (rd_T93 y124 (ji43)).f2⟩ : S93)) (a0.size : Int) (wrap64 (x11_1 + 1))) else (none)) = some r := by first | (rw [hy128]; with_reducible exact H) | (have H2_ := (Option.bind_some _ _).symm.trans H; rw [hy128]; with_reducible exact H2_) | (have H2_ := (Option.bind_some _ _).symm.trans H; with_reducible exact H2_) | with_reducible exact H | (rw [hy128]; exact H) | exact H
                 have Ny128 := Aside0.mk hy128
                 clear hy128
                 by_cases c47 : ((rd_T93 y124 (ji43)).f0).size + (strOfNums y128).size ≤ 9223372036854775807
                 ·rw [if_pos c47] at H
                  have c47b0 := eq_true c47
                  have c47b1 : decide (((rd_T93 y124 (ji43)).f0).size + (strOfNums y128).size ≤ 9223372036854775807) = true := decide_eq_true c47
                  try have c47b2 : (9223372036854775807 < ((rd_T93 y124 (ji43)).f0).size + (strOfNums y128).size) = False := eq_false (Nat.not_lt.2 c47)
                  obtain ⟨y131, hy131⟩ : ∃ y_ : List (S93), y_ = (y124.set ((ji43) : Int).toNat (⟨((rd_T93 y124 (ji43)).f0) ++ (strOfNums y128), (rd_T93 y124 (ji43)).f1, (rd_T93 y124 (ji43)).f2⟩ : S93)) := ⟨_, rfl⟩
                  replace H : (words_parts.l0 k1 a0 y131 (a0.size : Int) (wrap64 (x11_1 + 1))) = some r := by first | (rw [hy131]; with_reducible exact H) | (have H2_ := (Option.bind_some _ _).symm.trans H; rw [hy131]; with_reducible exact H2_) | (have H2_ := (Option.bind_some _ _).symm.trans H; with_reducible exact H2_) | with_reducible exact H | (rw [hy131]; exact H) | exact H
                  have Ny131 := Aside0.mk hy131
                  clear hy131
                  have H' := Aside0.mk H
                  clear H
                  try go_wp2
                  have n0_ := Aside0.mk (Kd.R_drew HO_3.out)
                  have n1_ := Aside0.mk (below_drew1 HB.out)
                  clear HO_3
                  clear HB
                  have HO_3 := n0_
                  have HB := n1_
                  clear n0_ n1_
                  have p7 : 0 ≤ (x11_1 : Int) := of_decide_eq_true (by first | (with_reducible assumption) | assumption)
                  have q7 : x11_1 < (a0.size : Int) := of_decide_eq_true (by first | (with_reducible assumption) | assumption)
                  have hx7 := bt_at a0 x11_1
                  replace p7 := eq_true p7
                  replace q7 := eq_true q7
                  obtain ⟨Ao50, co50, eo50⟩ := Kd.R_slice HO_3.out
                  (first | subst eo50 | (injection eo50 with f1_ f2_ f3_; have f4_ := f1_.symm; have f5_ := f3_.symm; clear f1_ f2_ f3_; subst f4_; subst f5_))
                  have p11 : 0 ≤ ((ji8) : Int) := of_decide_eq_true (by first | (with_reducible assumption) | assumption)
                  have q11 : ((ji8) : Int) < ((x3_1.length : Int) : Int) := of_decide_eq_true (by first | (with_reducible assumption) | assumption)
                  obtain ⟨go11, co11, eo11, gb11, gl11, cl11, HG11⟩ := Kd.R_form HO_3.out (by omega)
                  (first | cases eo11 | (injection eo11 with ea_ en_ ec_; (first | subst ea_ | (injection ea_ with ea_; subst ea_)); subst ec_; clear en_))
                  have GB11 := Aside0.mk gb11
                  have GG11 := Aside0.mk HG11
                  clear gb11 gl11 HG11
                  obtain ⟨ce11, hcl11, hM11, hcc11, hfr11⟩ := Kd.R_elem HO_3.out z93 ((ji8) : Int) p11 q11
                  obtain rfl := k93_openM hM11
                  have hx11_0 : World.cell? _ ⟨go11, ((ji8) : Int).toNat * 3, none⟩ = some (.string ((rd_T93 x3_1 (ji8)).f0)) := hcc11 0 _ rfl
                  have hx11_1 : World.cell? _ ⟨go11, ((ji8) : Int).toNat * 3 + 1, none⟩ = some (.bool ((rd_T93 x3_1 (ji8)).f1)) := hcc11 1 _ rfl
                  have hx11_2 : World.cell? _ ⟨go11, ((ji8) : Int).toNat * 3 + 2, none⟩ = some (.bool ((rd_T93 x3_1 (ji8)).f2)) := hcc11 2 _ rfl
                  have hf11_0 : World.frozen? _ ⟨go11, ((ji8) : Int).toNat * 3, none⟩ = false := hfr11 0
                  have hf11_1 : World.frozen? _ ⟨go11, ((ji8) : Int).toNat * 3 + 1, none⟩ = false := hfr11 1
                  have hf11_2 : World.frozen? _ ⟨go11, ((ji8) : Int).toNat * 3 + 2, none⟩ = false := hfr11 2
                  clear hcl11 hcc11 hfr11 hM11
                  replace p11 := eq_true p11
                  replace q11 := eq_true q11
                  refine start_ (n := 10) (S := fun w' => True) (ds := []) #[false, false, false, false, false, false, false, false, false, false] (by kernel_rfl) rfl rfl trivial (fun hHeld => ?_); refine with_tabW words_parts.tab5 words_parts.bits5 (fun HT_ HW_ => ?_)
                  generalize wr.drew = w49 at HO_3 HB GG11 hf11_0 hf11_1 hf11_2 hx11_0 hx11_1 hx11_2 hHeld ⊢
                  refine pure_ (i := 0) (N := some 14) (v := ?_) (a' := ?_) #[true, false, false, false, false, false, false, false, false, false] rfl rfl (any_of HT_.out (by kernel_rfl)) (fun _ _ _ h => h) (Or.inl ⟨by rfl, ?_⟩) ?_ ?_
                  rotate_left
                  ·intro w'
                   go_simp
                   with_reducible rfl
                  rotate_left
                  ·simp only [Act.put, List.setIfInBounds_toArray, List.set_cons_zero, List.set_cons_succ, i64_w, i32_w]
                   rfl
                  refine pure_ (i := 1) (N := some 15) (v := ?_) (a' := ?_) #[true, true, false, false, false, false, false, false, false, false] rfl rfl (any_of HT_.out (by kernel_rfl)) (fun _ _ _ h => h) (Or.inl ⟨by rfl, ?_⟩) ?_ ?_
                  rotate_left
                  ·intro w'
                   go_simp
                   with_reducible rfl
                  rotate_left
                  ·simp only [Act.put, List.setIfInBounds_toArray, List.set_cons_zero, List.set_cons_succ, i64_w, i32_w]
                   rfl
                  refine pure_ (i := 3) (N := some 17) (v := ?_) (a' := ?_) #[true, true, false, true, false, false, false, false, false, false] rfl rfl (any_of HT_.out (by kernel_rfl)) (fun _ _ _ h => h) (Or.inl ⟨by rfl, ?_⟩) ?_ ?_
                  rotate_left
                  ·intro w'
                   go_simp
                   with_reducible rfl
                  rotate_left
                  ·simp only [Act.put, List.setIfInBounds_toArray, List.set_cons_zero, List.set_cons_succ, i64_w, i32_w]
                   rfl
                  refine pure_ (i := 4) (N := some 18) (v := ?_) (a' := ?_) #[true, true, false, true, true, false, false, false, false, false] rfl rfl (any_of HT_.out (by kernel_rfl)) (fun _ _ _ h => h) (Or.inl ⟨by rfl, ?_⟩) ?_ ?_
                  rotate_left
                  ·intro w'
                   go_simp
                   with_reducible rfl
                  rotate_left
                  ·simp only [Act.put, List.setIfInBounds_toArray, List.set_cons_zero, List.set_cons_succ, i64_w, i32_w]
                   rfl
                  refine pure_ (i := 5) (N := some 19) (v := ?_) (a' := ?_) #[true, true, false, true, true, true, false, false, false, false] rfl rfl (any_of HT_.out (by kernel_rfl)) (fun _ _ _ h => h) (Or.inl ⟨by rfl, ?_⟩) ?_ ?_
                  rotate_left
                  ·intro w'
                   go_simp
                   with_reducible rfl
                  rotate_left
                  ·simp only [Act.put, List.setIfInBounds_toArray, List.set_cons_zero, List.set_cons_succ, i64_w, i32_w]
                   rfl
                  refine pure_ (i := 6) (N := some 20) (v := ?_) (a' := ?_) #[true, true, false, true, true, true, true, false, false, false] rfl rfl (any_of HT_.out (by kernel_rfl)) (fun _ _ _ h => h) (Or.inl ⟨by rfl, ?_⟩) ?_ ?_
                  rotate_left
                  ·intro w'
                   go_simp
                   with_reducible rfl
                  rotate_left
                  ·simp only [Act.put, List.setIfInBounds_toArray, List.set_cons_zero, List.set_cons_succ, i64_w, i32_w]
                   rfl
                  refine pure_ (i := 7) (N := some 21) (v := ?_) (a' := ?_) #[true, true, false, true, true, true, true, true, false, false] rfl rfl (any_of HT_.out (by kernel_rfl)) (fun _ _ _ h => h) (Or.inl ⟨by rfl, ?_⟩) ?_ ?_
                  rotate_left
                  ·intro w'
                   go_simp
                   with_reducible rfl
                  rotate_left
                  ·simp only [Act.put, List.setIfInBounds_toArray, List.set_cons_zero, List.set_cons_succ, i64_w, i32_w]
                   rfl
                  refine take_ (i := 2) (N := some 16) (v := ?_) (a' := ?_) #[true, true, true, true, true, true, true, true, false, false] rfl rfl (take_ofW HT_.out HW_.out (by kernel_rfl)) (fun _ _ _ h => h) (Or.inl ⟨by rfl, ?_⟩) hHeld ?_ ?_
                  rotate_left
                  ·intro w' _
                   go_simp
                   with_reducible rfl
                  rotate_left
                  ·simp only [Act.put, List.setIfInBounds_toArray, List.set_cons_zero, List.set_cons_succ, i64_w, i32_w]
                   rfl
                  refine pure_ (i := 8) (N := some 5) (v := ?_) (a' := ?_) #[true, true, true, true, true, true, true, true, true, false] rfl rfl (any_of HT_.out (by kernel_rfl)) (fun _ _ _ h => h) (Or.inl ⟨by rfl, ?_⟩) ?_ ?_
                  rotate_left
                  ·intro w'
                   go_simp
                   with_reducible rfl
                  rotate_left
                  ·simp only [Act.put, List.setIfInBounds_toArray, List.set_cons_zero, List.set_cons_succ, i64_w, i32_w]
                   rfl
                  refine pure_ (i := 9) (N := some 6) (v := ?_) (a' := ?_) #[true, true, true, true, true, true, true, true, true, true] rfl rfl (any_of HT_.out (by kernel_rfl)) (fun _ _ _ h => h) (Or.inl ⟨by rfl, ?_⟩) ?_ ?_
                  rotate_left
                  ·intro w'
                   go_simp
                   with_reducible rfl
                  rotate_left
                  ·simp only [Act.put, List.setIfInBounds_toArray, List.set_cons_zero, List.set_cons_succ, i64_w, i32_w]
                   rfl
                  refine done_ (done_of HT_.out (by kernel_rfl)) ?_
                  try go_wp2
                  have n0_ := Aside0.mk (Kd.R_drew HO_3.out)
                  have n1_ := Aside0.mk (below_drew1 HB.out)
                  clear HO_3
                  clear HB
                  have HO_3 := n0_
                  have HB := n1_
                  clear n0_ n1_
                  have p114 : 0 ≤ ((ji8) : Int) := of_decide_eq_true (by first | (with_reducible assumption) | assumption)
                  have q114 : (ji8) < (x3_1.length : Int) := of_decide_eq_true (by first | (with_reducible assumption) | assumption)
                  obtain ⟨ad114, e114, hx114_0, hx114_1, hx114_2⟩ := at_T93 (Kd.R_reads' HO_3.out).2.2 (ji8) p114 q114
                  obtain rfl : (⟨go11, 0, none⟩ : Addr) = ad114 := (by injection e114)
                  (first | simp only [add_plain] at hx114_0 | simp only [add_at] at hx114_0 | simp only [Addr.add, Nat.zero_add] at hx114_0 | skip)
                  (first | simp only [add_plain] at hx114_1 | simp only [add_at] at hx114_1 | simp only [Addr.add, Nat.zero_add] at hx114_1 | skip)
                  (first | simp only [add_plain] at hx114_2 | simp only [add_at] at hx114_2 | simp only [Addr.add, Nat.zero_add] at hx114_2 | skip)
                  replace p114 := eq_true p114
                  replace q114 := eq_true q114
                  have p37 : 0 ≤ ((ji34) : Int) := of_decide_eq_true (by first | (with_reducible assumption) | assumption)
                  have q37 : (ji34) < (a0.size : Int) := of_decide_eq_true (by first | (with_reducible assumption) | assumption)
                  have hx37 := bt_at a0 (ji34)
                  replace p37 := eq_true p37
                  replace q37 := eq_true q37
                  refine start_ (n := 16) (S := fun w' => w'.cell? ⟨go11, ((ji8)).toNat * 3, none⟩ = some (.string ((rd_T93 x3_1 (ji8)).f0)) ∧ w'.cell? ⟨go11, ((ji8)).toNat * 3 + 1, none⟩ = some (.bool ((rd_T93 x3_1 (ji8)).f1)) ∧ w'.cell? ⟨go11, ((ji8)).toNat * 3 + 2, none⟩ = some (.bool ((rd_T93 x3_1 (ji8)).f2))) (ds := []) #[false, false, false, false, false, false, false, false, false, false, false, false, false, false, false, false] (by kernel_rfl) rfl rfl ⟨hx114_0, hx114_1, hx114_2⟩ (fun hHeld => ?_); refine with_tabW words_parts.tab8 words_parts.bits8 (fun HT_ HW_ => ?_)
                  generalize w49.drew = w51 at HO_3 HB hx114_0 hx114_1 hx114_2 hHeld ⊢
                  refine pure_ (i := 0) (N := some 36) (v := ?_) (a' := ?_) #[true, false, false, false, false, false, false, false, false, false, false, false, false, false, false, false] rfl rfl (any_of HT_.out (by kernel_rfl)) (fun _ _ _ h => h) (Or.inl ⟨by rfl, ?_⟩) ?_ ?_
                  rotate_left
                  ·intro w'
                   go_simp
                   with_reducible rfl
                  rotate_left
                  ·simp only [Act.put, List.setIfInBounds_toArray, List.set_cons_zero, List.set_cons_succ, i64_w, i32_w]
                   rfl
                  refine pure_ (i := 1) (N := some 37) (v := ?_) (a' := ?_) #[true, true, false, false, false, false, false, false, false, false, false, false, false, false, false, false] rfl rfl (any_of HT_.out (by kernel_rfl)) (fun _ _ _ h => h) (Or.inl ⟨by rfl, ?_⟩) ?_ ?_
                  rotate_left
                  ·intro w'
                   go_simp
                   with_reducible rfl
                  rotate_left
                  ·simp only [Act.put, List.setIfInBounds_toArray, List.set_cons_zero, List.set_cons_succ, i64_w, i32_w]
                   rfl
                  refine pure_ (i := 2) (N := some 38) (v := ?_) (a' := ?_) #[true, true, true, false, false, false, false, false, false, false, false, false, false, false, false, false] rfl rfl (any_of HT_.out (by kernel_rfl)) (fun _ _ _ h => h) (Or.inl ⟨by rfl, ?_⟩) ?_ ?_
                  rotate_left
                  ·intro w'
                   go_simp
                   with_reducible rfl
                  rotate_left
                  ·simp only [Act.put, List.setIfInBounds_toArray, List.set_cons_zero, List.set_cons_succ, i64_w, i32_w]
                   rfl
                  refine take_ (i := 3) (N := some 39) (v := ?_) (a' := ?_) #[true, true, true, true, false, false, false, false, false, false, false, false, false, false, false, false] rfl rfl (take_ofW HT_.out HW_.out (by kernel_rfl)) (fun _ _ _ h => h) (Or.inl ⟨by rfl, ?_⟩) hHeld ?_ ?_
                  rotate_left
                  ·rintro w' ⟨s0, s1, s2⟩
                   go_simp
                   with_reducible rfl
                  rotate_left
                  ·simp only [Act.put, List.setIfInBounds_toArray, List.set_cons_zero, List.set_cons_succ, i64_w, i32_w]
                   rfl
                  refine pure_ (i := 4) (N := some 40) (v := ?_) (a' := ?_) #[true, true, true, true, true, false, false, false, false, false, false, false, false, false, false, false] rfl rfl (any_of HT_.out (by kernel_rfl)) (fun _ _ _ h => h) (Or.inl ⟨by rfl, ?_⟩) ?_ ?_
                  rotate_left
                  ·intro w'
                   go_simp
                   with_reducible rfl
                  rotate_left
                  ·simp only [Act.put, List.setIfInBounds_toArray, List.set_cons_zero, List.set_cons_succ, i64_w, i32_w]
                   rfl
                  refine pure_ (i := 5) (N := some 41) (v := ?_) (a' := ?_) #[true, true, true, true, true, true, false, false, false, false, false, false, false, false, false, false] rfl rfl (any_of HT_.out (by kernel_rfl)) (fun _ _ _ h => h) (Or.inl ⟨by rfl, ?_⟩) ?_ ?_
                  rotate_left
                  ·intro w'
                   go_simp
                   with_reducible rfl
                  rotate_left
                  ·simp only [Act.put, List.setIfInBounds_toArray, List.set_cons_zero, List.set_cons_succ, i64_w, i32_w]
                   rfl
                  refine pure_ (i := 6) (N := some 42) (v := ?_) (a' := ?_) #[true, true, true, true, true, true, true, false, false, false, false, false, false, false, false, false] rfl rfl (any_of HT_.out (by kernel_rfl)) (fun _ _ _ h => h) (Or.inl ⟨by rfl, ?_⟩) ?_ ?_
                  rotate_left
                  ·intro w'
                   go_simp
                   with_reducible rfl
                  rotate_left
                  ·simp only [Act.put, List.setIfInBounds_toArray, List.set_cons_zero, List.set_cons_succ, i64_w, i32_w]
                   rfl
                  refine pure_ (i := 8) (N := some 44) (v := ?_) (a' := ?_) #[true, true, true, true, true, true, true, false, true, false, false, false, false, false, false, false] rfl rfl (any_of HT_.out (by kernel_rfl)) (fun _ _ _ h => h) (Or.inl ⟨by rfl, ?_⟩) ?_ ?_
                  rotate_left
                  ·intro w'
                   go_simp
                   with_reducible rfl
                  rotate_left
                  ·simp only [Act.put, List.setIfInBounds_toArray, List.set_cons_zero, List.set_cons_succ, i64_w, i32_w]
                   rfl
                  refine pure_ (i := 9) (N := some 45) (v := ?_) (a' := ?_) #[true, true, true, true, true, true, true, false, true, true, false, false, false, false, false, false] rfl rfl (any_of HT_.out (by kernel_rfl)) (fun _ _ _ h => h) (Or.inl ⟨by rfl, ?_⟩) ?_ ?_
                  rotate_left
                  ·intro w'
                   go_simp
                   with_reducible rfl
                  rotate_left
                  ·simp only [Act.put, List.setIfInBounds_toArray, List.set_cons_zero, List.set_cons_succ, i64_w, i32_w]
                   rfl
                  refine pure_ (i := 10) (N := some 46) (v := ?_) (a' := ?_) #[true, true, true, true, true, true, true, false, true, true, true, false, false, false, false, false] rfl rfl (any_of HT_.out (by kernel_rfl)) (fun _ _ _ h => h) (Or.inl ⟨by rfl, ?_⟩) ?_ ?_
                  rotate_left
                  ·intro w'
                   go_simp
                   with_reducible rfl
                  rotate_left
                  ·simp only [Act.put, List.setIfInBounds_toArray, List.set_cons_zero, List.set_cons_succ, i64_w, i32_w]
                   rfl
                  refine take_ (i := 11) (N := some 47) (v := ?_) (a' := ?_) #[true, true, true, true, true, true, true, false, true, true, true, true, false, false, false, false] rfl rfl (take_ofW HT_.out HW_.out (by kernel_rfl)) (fun _ _ _ h => h) (Or.inl ⟨by rfl, ?_⟩) hHeld ?_ ?_
                  rotate_left
                  ·rintro w' ⟨s0, s1, s2⟩
                   go_simp
                   with_reducible rfl
                  rotate_left
                  ·simp only [Act.put, List.setIfInBounds_toArray, List.set_cons_zero, List.set_cons_succ, i64_w, i32_w]
                   rfl
                  refine one_ (i := 7) (N := some 43) #[true, true, true, true, true, true, true, true, true, true, true, true, false, false, false, false] rfl rfl (one_of HT_.out (by kernel_rfl)) (by decide) (fun K hK => ?_)
                  refine goes_ Tryd.func106 (by kernel_rfl) rfl #[.int .u8 (bt a0 x11_1)] (by rfl) rfl rfl (by (try simp only [List.map_toArray, List.map_cons, List.map_nil]); first | done | rfl | (simp only [List.length_drop, List.length_take]; rfl)) ?_
                  with_reducible refine (chars_Digit.calls (bt a0 x11_1) t120 _ ?side1 A33.out).mono ?_
                  (case side1 => exact Glob.step HG.out (by repeat (first | (with_reducible first | exact HB.out | apply below_alloc | apply pw_below_drewN | apply below_drew1) | exact HB.out)))
                  rintro e w' ⟨rfl, ⟨nd, rfl⟩⟩
                  refine ⟨_, rfl, ?_⟩
                  refine hK.out _ _ ⟨hHeld.1, hHeld.2.1, hHeld.2.2⟩ (fun hHeld => ?_)
                  clear hK K
                  refine norm_ (a' := ?_) ?_ ?_
                  rotate_left
                  ·show Act.put _ (some 43) _ = _
                   simp only [Act.put, List.setIfInBounds_toArray, List.set_cons_zero, List.set_cons_succ, i64_w, i32_w]
                   rfl
                  refine one_ (i := 12) (N := some 48) #[true, true, true, true, true, true, true, true, true, true, true, true, true, false, false, false] rfl rfl (one_of HT_.out (by kernel_rfl)) (by decide) (fun K hK => ?_)
                  refine goes_ Tryd.func106 (by kernel_rfl) rfl #[.int .u8 (bt a0 (ji34))] (by rfl) rfl rfl (by (try simp only [List.map_toArray, List.map_cons, List.map_nil]); first | done | (simp only [hji34]; rfl) | rfl | (simp only [List.length_drop, List.length_take]; rfl)) ?_
                  with_reducible refine (chars_Digit.calls (bt a0 (ji34)) t121 _ ?side1 A38.out).mono ?_
                  (case side1 => exact Glob.step HG.out (by repeat (first | (with_reducible first | exact HB.out | apply below_alloc | apply pw_below_drewN | apply below_drew1) | exact HB.out)))
                  rintro e w' ⟨rfl, ⟨nd, rfl⟩⟩
                  refine ⟨_, rfl, ?_⟩
                  refine hK.out _ _ ⟨hHeld.1, hHeld.2.1, hHeld.2.2⟩ (fun hHeld => ?_)
                  clear hK K
                  refine norm_ (a' := ?_) ?_ ?_
                  rotate_left
                  ·show Act.put _ (some 48) _ = _
                   simp only [Act.put, List.setIfInBounds_toArray, List.set_cons_zero, List.set_cons_succ, i64_w, i32_w]
                   rfl
                  refine pure_ (i := 13) (N := some 49) (v := ?_) (a' := ?_) #[true, true, true, true, true, true, true, true, true, true, true, true, true, true, false, false] rfl rfl (any_of HT_.out (by kernel_rfl)) (fun _ _ _ h => h) (Or.inl ⟨by rfl, ?_⟩) ?_ ?_
                  rotate_left
                  ·intro w'
                   go_simp
                   with_reducible rfl
                  rotate_left
                  ·simp only [Act.put, List.setIfInBounds_toArray, List.set_cons_zero, List.set_cons_succ, i64_w, i32_w]
                   rfl
                  refine pure_ (i := 14) (N := some 50) (v := ?_) (a' := ?_) #[true, true, true, true, true, true, true, true, true, true, true, true, true, true, true, false] rfl rfl (any_of HT_.out (by kernel_rfl)) (fun _ _ _ h => h) (Or.inl ⟨by rfl, ?_⟩) ?_ ?_
                  rotate_left
                  ·intro w'
                   go_simp
                   with_reducible rfl
                  rotate_left
                  ·simp only [Act.put, List.setIfInBounds_toArray, List.set_cons_zero, List.set_cons_succ, i64_w, i32_w]
                   rfl
                  refine pure_ (i := 15) (N := some 35) (v := ?_) (a' := ?_) #[true, true, true, true, true, true, true, true, true, true, true, true, true, true, true, true] rfl rfl (any_of HT_.out (by kernel_rfl)) (fun _ _ _ h => h) (Or.inl ⟨by rfl, ?_⟩) ?_ ?_
                  rotate_left
                  ·intro w'
                   go_simp
                   with_reducible rfl
                  rotate_left
                  ·simp only [Act.put, List.setIfInBounds_toArray, List.set_cons_zero, List.set_cons_succ, i64_w, i32_w]
                   rfl
                  refine done_ (done_of HT_.out (by kernel_rfl)) ?_
                  try go_wp2_with (first | ((with_reducible refine gate_callee (f := 106) rfl ?_); refine goesL_ (some 53) rfl rfl Tryd.func106 (by kernel_rfl) rfl #[.int .u8 (bt a0 x11_1)] rfl (by (try simp only [List.map_toArray, List.map_cons, List.map_nil]); first | done | rfl | (simp only [List.length_drop, List.length_take]; rfl)) ?_; (with_reducible refine (chars_Digit.calls (bt a0 x11_1) t122 _ ?side1 A40.out).mono ?_); (case side1 => exact Glob.step HG.out (by repeat (first | (with_reducible first | exact HB.out | apply below_alloc | apply pw_below_drewN | apply below_drew1) | exact HB.out))); rintro e w' ⟨rfl, ⟨nd, rfl⟩⟩; refine ⟨_, rfl, ?_⟩; (try ((try simp only [World.drewN_drewN]); (first | generalize hq_ : World.drewN w51 _ = w51 | (rw [drewN_self w51]; generalize hq_ : World.drewN w51 _ = w51)); have n0_ : Aside0 (Kd.R k93 93 w51 w.heap.size (fun _ => True) (.slice (some ⟨go11, 0, none⟩) x3_1.length co50) x3_1) := ⟨by rw [← hq_]; exact (by (with_reducible repeat (first | apply Kd.R_alloc | apply Kd.R_drewN | apply Kd.R_drew)); exact HO_3.out)⟩; have n1_ : Aside0 (Below w.heap.size w w51) := ⟨by rw [← hq_]; exact (by repeat (first | (with_reducible first | exact HB.out | apply below_alloc | apply pw_below_drewN | apply below_drew1) | exact HB.out))⟩; clear HO_3 HB hq_; have HO_3 := n0_; have HB := n1_; clear n0_ n1_)); have p41 : 0 ≤ ((ji8) : Int) := of_decide_eq_true (by first | (with_reducible assumption) | assumption); have q41 : ((ji8) : Int) < ((x3_1.length : Int) : Int) := of_decide_eq_true (by first | (with_reducible assumption) | assumption); obtain ⟨ce41, hcl41, hM41, hcc41, hfr41⟩ := Kd.R_elem HO_3.out z93 ((ji8) : Int) p41 q41; obtain rfl := k93_openM hM41; have hx41_0 : w51.cell? ⟨go11, ((ji8) : Int).toNat * 3, none⟩ = some (.string ((rd_T93 x3_1 (ji8)).f0)) := hcc41 0 _ rfl; have hx41_1 : w51.cell? ⟨go11, ((ji8) : Int).toNat * 3 + 1, none⟩ = some (.bool ((rd_T93 x3_1 (ji8)).f1)) := hcc41 1 _ rfl; have hx41_2 : w51.cell? ⟨go11, ((ji8) : Int).toNat * 3 + 2, none⟩ = some (.bool ((rd_T93 x3_1 (ji8)).f2)) := hcc41 2 _ rfl; have hf41_0 : w51.frozen? ⟨go11, ((ji8) : Int).toNat * 3, none⟩ = false := hfr41 0; have hf41_1 : w51.frozen? ⟨go11, ((ji8) : Int).toNat * 3 + 1, none⟩ = false := hfr41 1; have hf41_2 : w51.frozen? ⟨go11, ((ji8) : Int).toNat * 3 + 2, none⟩ = false := hfr41 2; clear hcl41 hcc41 hfr41 hM41; replace p41 := eq_true p41; replace q41 := eq_true q41; have HX52 := Aside0.mk (show Kd.R k93 93 w51 w.heap.size (fun _ => True) (.slice (some ⟨go11, 0, none⟩) x3_1.length co50) x3_1 from (by (with_reducible repeat (first | apply Kd.R_alloc | apply Kd.R_drewN | apply Kd.R_drew)); exact HO_3.out)); obtain ⟨ce52, hcl52, hM52, hcc52, hfr52⟩ := Kd.R_elem HX52.out z93 ((ji8) : Int) (of_decide_eq_true (by first | (with_reducible assumption) | assumption)) (by have h_ : ((ji8) : Int) < ((x3_1.length : Int) : Int) := of_decide_eq_true (by first | (with_reducible assumption) | assumption); first | exact h_ | (have e_ := (Kd.R_reads' HO_3.out).1; omega) | simpa using h_); obtain rfl := k93_openM hM52; have HP52 := Kd.R_seg HX52.out ((ji8) : Int) (of_decide_eq_true (by first | (with_reducible assumption) | assumption)) (by have h_ : ((ji8) : Int) < ((x3_1.length : Int) : Int) := of_decide_eq_true (by first | (with_reducible assumption) | assumption); first | exact h_ | (have e_ := (Kd.R_reads' HO_3.out).1; omega) | simpa using h_) (seg := [.bool t122]) (j := 2) hcl52 hcc52 (show 3 ≤ 3 from by decide) (x' := (⟨(rd_T93 x3_1 (ji8)).f0, (rd_T93 x3_1 (ji8)).f1, t122⟩ : S93)) (k93_mkM _ _ _ (⟨(rd_T93 x3_1 (ji8)).f0, (rd_T93 x3_1 (ji8)).f1, t122⟩ : S93) ) (fun _ hk => hk); have hx52_2 := hcc52 2 _ rfl; (try simp only [show (k93).sz = 3 from rfl, Nat.mul_one, Nat.add_zero] at hx52_2); have hf52_2 := hfr52 2; (try simp only [show (k93).sz = 3 from rfl, Nat.mul_one, Nat.add_zero] at hf52_2); clear hcl52 hcc52 hfr52 hM52) | ((with_reducible refine gate_store (t := 4) (p := 55) rfl ?_); refine store_event (t := 4) (p := 55) (v := ?vo_w53) (w1 := (w51.setCell ⟨go11, ((ji8) : Int).toNat * 3 + 2, none⟩ (.bool t122))) ?hg ?ho ?hn ?hr ?_; (case ho => rfl); (case hg => rfl); (case hn => rfl); (case hr => first | (go_simp; done) | (go_simp; rfl)); intro w53 hw; have hg : w51.grownBy w53 (some go11) := (by rw [hw]; exact HP52.2); have hp_ : Kd.R k93 93 w53 w.heap.size (fun _ => True) (.slice (some ⟨go11, 0, none⟩) x3_1.length co50) y123 := (by rw [hw, Ny123.out]; exact HP52.1); clear HP52; have n0_ := Aside0.mk (hp_); have n1_ := Aside0.mk ((by rw [hw]; exact below_set (HB.out) GB11.out : Below w.heap.size w w53)); clear HO_3; clear HB; have HO_3 := n0_; have HB := n1_; clear n0_ n1_; clear hg hw hp_) | ((with_reducible refine gate_builtin (b := .append) (xs := #[.tmp 56, .tmp 58]) rfl ?_); at_builtin; refine Kd.R_append k93 (w0 := w) w.heap.size rfl (.tmp 56) (.tmp 58) 87 93 (.agg #[(.string ⟨#[]⟩), (.bool false), (.bool false)]) 24 rfl Tryd.underlying87 info93 rfl (by decide) (by omega) (.slice (some ⟨go11, 0, none⟩) x3_1.length co50) y123 (⟨(⟨#[]⟩ : ByteArray), true, false⟩ : S93) [.string (⟨#[]⟩ : ByteArray), .bool true, .bool false] (fun _ => True) (fun _ => False) rfl rfl ?aP (fun _ hk => hk.elim) ?aF ?aO ?aB ?aS ?aL ?_; (case aP => exact k93_mkM _ _ _ (⟨(⟨#[]⟩ : ByteArray), true, false⟩ : S93)); (case aB => exact (by repeat (first | (with_reducible first | exact HB.out | apply below_alloc | apply pw_below_drewN | apply below_drew1) | exact HB.out))); (case aF => exact (fun _ _ => trivial)); (case aO => exact (by (with_reducible repeat (first | apply Kd.R_alloc | apply Kd.R_drewN | apply Kd.R_drew)); exact HO_3.out)); (case aS => exact (below_size (by repeat (first | (with_reducible first | exact HB.out | apply below_alloc | apply pw_below_drewN | apply below_drew1) | exact HB.out)))); (case aL => have := LMc42.out; omega); intro v125 w54 ho hb hg hat; rw [← Ny124.out] at ho; have n0_ := Aside0.mk (hb); have n1_ := Aside0.mk (ho); clear HB; clear HO_3; have HB := n0_; have HO126 := n1_; clear n0_ n1_; clear ho hb hg hat; obtain ⟨Ao55, co55, eo55⟩ := Kd.R_slice HO126.out; subst eo55; have p46 : 0 ≤ ((ji43) : Int) := of_decide_eq_true (by first | (with_reducible assumption) | assumption); have q46 : ((ji43) : Int) < ((y124.length : Int) : Int) := of_decide_eq_true (by first | (with_reducible assumption) | assumption); obtain ⟨go46, co46, eo46, gb46, gl46, cl46, HG46⟩ := Kd.R_form HO126.out (by omega); (first | cases eo46 | (injection eo46 with ea_ en_ ec_; (first | subst ea_ | (injection ea_ with ea_; subst ea_)); subst ec_; clear en_)); have GB46 := Aside0.mk gb46; have GG46 := Aside0.mk HG46; clear gb46 gl46 HG46; obtain ⟨ce46, hcl46, hM46, hcc46, hfr46⟩ := Kd.R_elem HO126.out z93 ((ji43) : Int) p46 q46; obtain rfl := k93_openM hM46; have hx46_0 : w54.cell? ⟨go46, ((ji43) : Int).toNat * 3, none⟩ = some (.string ((rd_T93 y124 (ji43)).f0)) := hcc46 0 _ rfl; have hx46_1 : w54.cell? ⟨go46, ((ji43) : Int).toNat * 3 + 1, none⟩ = some (.bool ((rd_T93 y124 (ji43)).f1)) := hcc46 1 _ rfl; have hx46_2 : w54.cell? ⟨go46, ((ji43) : Int).toNat * 3 + 2, none⟩ = some (.bool ((rd_T93 y124 (ji43)).f2)) := hcc46 2 _ rfl; have hf46_0 : w54.frozen? ⟨go46, ((ji43) : Int).toNat * 3, none⟩ = false := hfr46 0; have hf46_1 : w54.frozen? ⟨go46, ((ji43) : Int).toNat * 3 + 1, none⟩ = false := hfr46 1; have hf46_2 : w54.frozen? ⟨go46, ((ji43) : Int).toNat * 3 + 2, none⟩ = false := hfr46 2; clear hcl46 hcc46 hfr46 hM46; replace p46 := eq_true p46; replace q46 := eq_true q46))
                  have n0_ := Aside0.mk (Kd.R_drew HO126.out)
                  have n1_ := Aside0.mk (below_drew1 HB.out)
                  clear HO126
                  clear HB
                  have HO126 := n0_
                  have HB := n1_
                  clear n0_ n1_
                  have p127 : 0 ≤ ((ji43) : Int) := of_decide_eq_true (by first | (with_reducible assumption) | assumption)
                  have q127 : (ji43) < (y124.length : Int) := of_decide_eq_true (by first | (with_reducible assumption) | assumption)
                  obtain ⟨ad127, e127, hx127_0, hx127_1, hx127_2⟩ := at_T93 (Kd.R_reads' HO126.out).2.2 (ji43) p127 q127
                  obtain rfl : (⟨go46, 0, none⟩ : Addr) = ad127 := (by injection e127)
                  (first | simp only [add_plain] at hx127_0 | simp only [add_at] at hx127_0 | simp only [Addr.add, Nat.zero_add] at hx127_0 | skip)
                  (first | simp only [add_plain] at hx127_1 | simp only [add_at] at hx127_1 | simp only [Addr.add, Nat.zero_add] at hx127_1 | skip)
                  (first | simp only [add_plain] at hx127_2 | simp only [add_at] at hx127_2 | simp only [Addr.add, Nat.zero_add] at hx127_2 | skip)
                  replace p127 := eq_true p127
                  replace q127 := eq_true q127
                  refine start_ (n := 11) (S := fun w' => w'.cell? ⟨go46, ((ji43)).toNat * 3, none⟩ = some (.string ((rd_T93 y124 (ji43)).f0)) ∧ w'.cell? ⟨go46, ((ji43)).toNat * 3 + 1, none⟩ = some (.bool ((rd_T93 y124 (ji43)).f1)) ∧ w'.cell? ⟨go46, ((ji43)).toNat * 3 + 2, none⟩ = some (.bool ((rd_T93 y124 (ji43)).f2))) (ds := [10]) #[false, false, false, false, false, false, false, false, false, false, false] (by kernel_rfl) rfl rfl ⟨hx127_0, hx127_1, hx127_2⟩ (fun hHeld => ?_); refine with_tabW words_parts.tab12 words_parts.bits12 (fun HT_ HW_ => ?_)
                  generalize w54.drew = w56 at HO126 HB hx127_0 hx127_1 hx127_2 hHeld ⊢
                  refine pure_ (i := 0) (N := some 65) (v := ?_) (a' := ?_) #[true, false, false, false, false, false, false, false, false, false, false] rfl rfl (any_of HT_.out (by kernel_rfl)) (fun _ _ _ h => h) (Or.inl ⟨by rfl, ?_⟩) ?_ ?_
                  rotate_left
                  ·intro w'
                   go_simp
                   with_reducible rfl
                  rotate_left
                  ·simp only [Act.put, List.setIfInBounds_toArray, List.set_cons_zero, List.set_cons_succ, i64_w, i32_w]
                   rfl
                  refine pure_ (i := 1) (N := some 66) (v := ?_) (a' := ?_) #[true, true, false, false, false, false, false, false, false, false, false] rfl rfl (any_of HT_.out (by kernel_rfl)) (fun _ _ _ h => h) (Or.inl ⟨by rfl, ?_⟩) ?_ ?_
                  rotate_left
                  ·intro w'
                   go_simp
                   with_reducible rfl
                  rotate_left
                  ·simp only [Act.put, List.setIfInBounds_toArray, List.set_cons_zero, List.set_cons_succ, i64_w, i32_w]
                   rfl
                  refine pure_ (i := 2) (N := some 67) (v := ?_) (a' := ?_) #[true, true, true, false, false, false, false, false, false, false, false] rfl rfl (any_of HT_.out (by kernel_rfl)) (fun _ _ _ h => h) (Or.inl ⟨by rfl, ?_⟩) ?_ ?_
                  rotate_left
                  ·intro w'
                   go_simp
                   with_reducible rfl
                  rotate_left
                  ·simp only [Act.put, List.setIfInBounds_toArray, List.set_cons_zero, List.set_cons_succ, i64_w, i32_w]
                   rfl
                  refine pure_ (i := 4) (N := some 69) (v := ?_) (a' := ?_) #[true, true, true, false, true, false, false, false, false, false, false] rfl rfl (any_of HT_.out (by kernel_rfl)) (fun _ _ _ h => h) (Or.inl ⟨by rfl, ?_⟩) ?_ ?_
                  rotate_left
                  ·intro w'
                   go_simp
                   with_reducible rfl
                  rotate_left
                  ·simp only [Act.put, List.setIfInBounds_toArray, List.set_cons_zero, List.set_cons_succ, i64_w, i32_w]
                   rfl
                  refine take_ (i := 3) (N := some 68) (v := ?_) (a' := ?_) #[true, true, true, true, true, false, false, false, false, false, false] rfl rfl (take_ofW HT_.out HW_.out (by kernel_rfl)) (fun _ _ _ h => h) (Or.inl ⟨by rfl, ?_⟩) hHeld ?_ ?_
                  rotate_left
                  ·rintro w' ⟨s0, s1, s2⟩
                   go_simp
                   with_reducible rfl
                  rotate_left
                  ·simp only [Act.put, List.setIfInBounds_toArray, List.set_cons_zero, List.set_cons_succ, i64_w, i32_w]
                   rfl
                  refine one_ (i := 5) (N := some 70) #[true, true, true, true, true, true, false, false, false, false, false] rfl rfl (one_of HT_.out (by kernel_rfl)) (by decide) (fun K hK => ?_)
                  refine Kd.R_lit_step (Kd.int .u8) _ 5 ?hg (N := 70) ?hd (xs := ([bt a0 x11_1] : List Int)) (inner := [.int .u8 (bt a0 x11_1)]) (ok := fun _ => True) (okp := fun _ => True) ?hr ?hp (fun _ hk => hk) trivial (Below.refl _ _) (Nat.le_refl _) (by simp) ?_; (case hd => rfl); (case hg => rfl); (case hr => first | (go_simp; done) | (go_simp; rfl)); (case hp => exact (Reps.one (show Kd.M (Kd.int .u8) _ _ _ (bt a0 x11_1) [.int .u8 (bt a0 x11_1)] from rfl) (Reps.none _ _)))
                  intro v129 w57 ho58 hb hg_ hnew_
                  have HS0_ := (hb.cell (World.block_lt_of_cell? _ _ (hHeld.1))).trans (hHeld.1)
                  have HS1_ := (hb.cell (World.block_lt_of_cell? _ _ (hHeld.2.1))).trans (hHeld.2.1)
                  have HS2_ := (hb.cell (World.block_lt_of_cell? _ _ (hHeld.2.2))).trans (hHeld.2.2)
                  clear hg_ hnew_
                  (first | rw [← Ny128.out] at ho58 | (simp only [Int.reduceToNat] at ho58; rw [← Ny128.out] at ho58))
                  have n0_ := Aside0.mk (Kd.R_below (by (with_reducible repeat (first | apply Kd.R_alloc | apply Kd.R_drewN | apply Kd.R_drew)); exact HO126.out) hb)
                  have n1_ := Aside0.mk (Kd.R_lower ho58 (below_size (by repeat (first | (with_reducible first | exact HB.out | apply below_alloc | apply pw_below_drewN | apply below_drew1) | exact HB.out))))
                  have n2_ := Aside0.mk (below_step (by repeat (first | (with_reducible first | exact HB.out | apply below_alloc | apply pw_below_drewN | apply below_drew1) | exact HB.out)) hb)
                  clear HO126
                  clear HB
                  have HO126 := n0_
                  have HO130 := n1_
                  have HB := n2_
                  clear n0_ n1_ n2_
                  clear hb ho58
                  have p48 : 0 ≤ ((ji43) : Int) := of_decide_eq_true (by first | (with_reducible assumption) | assumption)
                  have q48 : ((ji43) : Int) < ((y124.length : Int) : Int) := of_decide_eq_true (by first | (with_reducible assumption) | assumption)
                  obtain ⟨ce48, hcl48, hM48, hcc48, hfr48⟩ := Kd.R_elem HO126.out z93 ((ji43) : Int) p48 q48
                  obtain rfl := k93_openM hM48
                  have hx48_0 : World.cell? _ ⟨go46, ((ji43) : Int).toNat * 3, none⟩ = some (.string ((rd_T93 y124 (ji43)).f0)) := hcc48 0 _ rfl
                  have hx48_1 : World.cell? _ ⟨go46, ((ji43) : Int).toNat * 3 + 1, none⟩ = some (.bool ((rd_T93 y124 (ji43)).f1)) := hcc48 1 _ rfl
                  have hx48_2 : World.cell? _ ⟨go46, ((ji43) : Int).toNat * 3 + 2, none⟩ = some (.bool ((rd_T93 y124 (ji43)).f2)) := hcc48 2 _ rfl
                  have hf48_0 : World.frozen? _ ⟨go46, ((ji43) : Int).toNat * 3, none⟩ = false := hfr48 0
                  have hf48_1 : World.frozen? _ ⟨go46, ((ji43) : Int).toNat * 3 + 1, none⟩ = false := hfr48 1
                  have hf48_2 : World.frozen? _ ⟨go46, ((ji43) : Int).toNat * 3 + 2, none⟩ = false := hfr48 2
                  clear hcl48 hcc48 hfr48 hM48
                  replace p48 := eq_true p48
                  replace q48 := eq_true q48
                  obtain ⟨ce60, hcl60, hM60, hcc60, hfr60⟩ := Kd.R_elem HO126.out z93 ((ji43) : Int) (of_decide_eq_true (by first | (with_reducible assumption) | assumption)) (by have h_ : ((ji43) : Int) < ((y124.length : Int) : Int) := of_decide_eq_true (by first | (with_reducible assumption) | assumption); first | exact h_ | (have e_ := (Kd.R_reads' HO126.out).1; omega) | simpa using h_)
                  obtain rfl := k93_openM hM60
                  have HP60 := (Kd.R_seg HO126.out ((ji43) : Int) (of_decide_eq_true (by first | (with_reducible assumption) | assumption)) (by have h_ : ((ji43) : Int) < ((y124.length : Int) : Int) := of_decide_eq_true (by first | (with_reducible assumption) | assumption); first | exact h_ | (have e_ := (Kd.R_reads' HO126.out).1; omega) | simpa using h_) (seg := [.string (((rd_T93 y124 (ji43)).f0) ++ (strOfNums y128))]) (j := 0) hcl60 hcc60 (show 1 ≤ 3 from by decide) (x' := (⟨((rd_T93 y124 (ji43)).f0) ++ (strOfNums y128), (rd_T93 y124 (ji43)).f1, (rd_T93 y124 (ji43)).f2⟩ : S93)) (k93_mkM _ _ _ (⟨((rd_T93 y124 (ji43)).f0) ++ (strOfNums y128), (rd_T93 y124 (ji43)).f1, (rd_T93 y124 (ji43)).f2⟩ : S93) ) (fun _ hk => hk)).1
                  rw [← Ny131.out] at HP60
                  have HQ60 := Aside0.mk HP60
                  clear hcl60 hcc60 hfr60 hM60 HP60
                  refine hK.out _ _ ⟨HS0_, HS1_, HS2_⟩ (fun hHeld => ?_)
                  clear hK K
                  refine norm_ (a' := ?_) ?_ ?_
                  rotate_left
                  ·show Act.put _ (some 70) _ = _
                   simp only [Act.put, List.setIfInBounds_toArray, List.set_cons_zero, List.set_cons_succ, i64_w, i32_w]
                   rfl
                  refine one_ (i := 6) (N := some 71) #[true, true, true, true, true, true, true, false, false, false, false] rfl rfl (one_of HT_.out (by kernel_rfl)) (by decide) (fun K hK => ?_)
                  have hcv59 := own_string (P := Tryd.prog) Tryd.underlying30 Tryd.underlying5 Tryd.underlying9 (Kd.own_of_R HO130.out)
                  refine value_ (w1 := ?_) (v := ?_) (by rfl) rfl ?_ ?_
                  rotate_left 2
                  ·go_simp
                   constructor
                   ·rfl
                   ·rfl
                  clear hcv59
                  refine hK.out _ _ ⟨hHeld.1, hHeld.2.1, hHeld.2.2⟩ (fun hHeld => ?_)
                  clear hK K
                  refine norm_ (a' := ?_) ?_ ?_
                  rotate_left
                  ·show Act.put _ (some 71) _ = _
                   simp only [Act.put, List.setIfInBounds_toArray, List.set_cons_zero, List.set_cons_succ, i64_w, i32_w]
                   rfl
                  refine pure_ (i := 7) (N := some 72) (v := ?_) (a' := ?_) #[true, true, true, true, true, true, true, true, false, false, false] rfl rfl (any_of HT_.out (by kernel_rfl)) (fun _ _ _ h => h) (Or.inl ⟨by rfl, ?_⟩) ?_ ?_
                  rotate_left
                  ·intro w'
                   go_simp
                   with_reducible rfl
                  rotate_left
                  ·simp only [Act.put, List.setIfInBounds_toArray, List.set_cons_zero, List.set_cons_succ, i64_w, i32_w]
                   rfl
                  refine pure_ (i := 8) (N := some 73) (v := ?_) (a' := ?_) #[true, true, true, true, true, true, true, true, true, false, false] rfl rfl (any_of HT_.out (by kernel_rfl)) (fun _ _ _ h => h) (Or.inl ⟨by rfl, ?_⟩) ?_ ?_
                  rotate_left
                  ·intro w'
                   go_simp
                   with_reducible rfl
                  rotate_left
                  ·simp only [Act.put, List.setIfInBounds_toArray, List.set_cons_zero, List.set_cons_succ, i64_w, i32_w]
                   rfl
                  refine pure_ (i := 9) (N := some 74) (v := ?_) (a' := ?_) #[true, true, true, true, true, true, true, true, true, true, false] rfl rfl (any_of HT_.out (by kernel_rfl)) (fun _ _ _ h => h) (Or.inl ⟨by rfl, ?_⟩) ?_ ?_
                  rotate_left
                  ·intro w'
                   go_simp
                   with_reducible rfl
                  rotate_left
                  ·simp only [Act.put, List.setIfInBounds_toArray, List.set_cons_zero, List.set_cons_succ, i64_w, i32_w]
                   rfl
                  refine last_ (i := 10) (N := none) #[true, true, true, true, true, true, true, true, true, true, true] rfl rfl (one_of HT_.out (by kernel_rfl)) (by decide) (fun K hK => ?_)
                  refine skip_ (w1 := ?_) (by rfl) rfl ?_ ?_
                  rotate_left
                  ·go_simp
                   rfl
                  refine hK.out _ _ ?_
                  clear hK K
                  refine done_ (done_of HT_.out (by kernel_rfl)) ?_
                  try go_wp2
                  go_roundg k1
                  case measure => have := HK1.out; omega
                  case rel => exact ⟨(y131), (wrap64 (x11_1 + 1)), (by first | rfl | (simp; done) | (simp [*]; done) | (simp; exact isEmpty_bne _)), H', ⟨by have := HK1.out; omega⟩, ⟨by (with_reducible repeat (first | apply Kd.R_alloc | apply Kd.R_drewN | apply Kd.R_drew)); exact HQ60.out⟩, ⟨by repeat (first | (with_reducible first | exact HB.out | apply below_alloc | apply pw_below_drewN | apply below_drew1 | refine below_set ?_ GB46.out) | exact HB.out)⟩⟩
                 ·rw [if_neg c47] at H
                  exact absurd H (by simp)
                ·rw [if_neg c45] at H
                 exact absurd H (by simp)
               ·rw [if_neg c44] at H
                exact absurd H (by simp)
              ·rw [if_neg c42] at H
               exact absurd H (by simp)
             ·rw [if_neg c39] at H
              have c39b0 : (t120 != t121) = false := by simpa using c39
              (try (have c39b1 : decide (t120 = t121) = true := by simpa using c39))
              (try (have c39b2 : (t120 == t121) = true := by simpa using c39))
              clear c39
              obtain ⟨y133, hy133⟩ : ∃ y_ : List Int, y_ = (([bt a0 x11_1] : List Int)) := ⟨_, rfl⟩
              replace H : (if ((rd_T93 x3_1 (ji8)).f0).size + (strOfNums y133).size ≤ 9223372036854775807 then (words_parts.l0 k1 a0 (x3_1.set ((ji8) : Int).toNat (⟨((rd_T93 x3_1 (ji8)).f0) ++ (strOfNums y133), (rd_T93 x3_1 (ji8)).f1, (rd_T93 x3_1 (ji8)).f2⟩ : S93)) (a0.size : Int) (wrap64 (x11_1 + 1))) else (none)) = some r := by first | (rw [hy133]; with_reducible exact H) | (have H2_ := (Option.bind_some _ _).symm.trans H; rw [hy133]; with_reducible exact H2_) | (have H2_ := (Option.bind_some _ _).symm.trans H; with_reducible exact H2_) | with_reducible exact H | (rw [hy133]; exact H) | exact H
              have Ny133 := Aside0.mk hy133
              clear hy133
              by_cases c61 : ((rd_T93 x3_1 (ji8)).f0).size + (strOfNums y133).size ≤ 9223372036854775807
              ·rw [if_pos c61] at H
               have c61b0 := eq_true c61
               have c61b1 : decide (((rd_T93 x3_1 (ji8)).f0).size + (strOfNums y133).size ≤ 9223372036854775807) = true := decide_eq_true c61
               try have c61b2 : (9223372036854775807 < ((rd_T93 x3_1 (ji8)).f0).size + (strOfNums y133).size) = False := eq_false (Nat.not_lt.2 c61)
               obtain ⟨y136, hy136⟩ : ∃ y_ : List (S93), y_ = (x3_1.set ((ji8) : Int).toNat (⟨((rd_T93 x3_1 (ji8)).f0) ++ (strOfNums y133), (rd_T93 x3_1 (ji8)).f1, (rd_T93 x3_1 (ji8)).f2⟩ : S93)) := ⟨_, rfl⟩
               replace H : (words_parts.l0 k1 a0 y136 (a0.size : Int) (wrap64 (x11_1 + 1))) = some r := by first | (rw [hy136]; with_reducible exact H) | (have H2_ := (Option.bind_some _ _).symm.trans H; rw [hy136]; with_reducible exact H2_) | (have H2_ := (Option.bind_some _ _).symm.trans H; with_reducible exact H2_) | with_reducible exact H | (rw [hy136]; exact H) | exact H
               have Ny136 := Aside0.mk hy136
               clear hy136
               have H' := Aside0.mk H
               clear H
               try go_wp2
               have n0_ := Aside0.mk (Kd.R_drew HO_3.out)
               have n1_ := Aside0.mk (below_drew1 HB.out)
               clear HO_3
               clear HB
               have HO_3 := n0_
               have HB := n1_
               clear n0_ n1_
               have p7 : 0 ≤ (x11_1 : Int) := of_decide_eq_true (by first | (with_reducible assumption) | assumption)
               have q7 : x11_1 < (a0.size : Int) := of_decide_eq_true (by first | (with_reducible assumption) | assumption)
               have hx7 := bt_at a0 x11_1
               replace p7 := eq_true p7
               replace q7 := eq_true q7
               obtain ⟨Ao64, co64, eo64⟩ := Kd.R_slice HO_3.out
               (first | subst eo64 | (injection eo64 with f1_ f2_ f3_; have f4_ := f1_.symm; have f5_ := f3_.symm; clear f1_ f2_ f3_; subst f4_; subst f5_))
               have p11 : 0 ≤ ((ji8) : Int) := of_decide_eq_true (by first | (with_reducible assumption) | assumption)
               have q11 : ((ji8) : Int) < ((x3_1.length : Int) : Int) := of_decide_eq_true (by first | (with_reducible assumption) | assumption)
               obtain ⟨go11, co11, eo11, gb11, gl11, cl11, HG11⟩ := Kd.R_form HO_3.out (by omega)
               (first | cases eo11 | (injection eo11 with ea_ en_ ec_; (first | subst ea_ | (injection ea_ with ea_; subst ea_)); subst ec_; clear en_))
               have GB11 := Aside0.mk gb11
               have GG11 := Aside0.mk HG11
               clear gb11 gl11 HG11
               obtain ⟨ce11, hcl11, hM11, hcc11, hfr11⟩ := Kd.R_elem HO_3.out z93 ((ji8) : Int) p11 q11
               obtain rfl := k93_openM hM11
               have hx11_0 : World.cell? _ ⟨go11, ((ji8) : Int).toNat * 3, none⟩ = some (.string ((rd_T93 x3_1 (ji8)).f0)) := hcc11 0 _ rfl
               have hx11_1 : World.cell? _ ⟨go11, ((ji8) : Int).toNat * 3 + 1, none⟩ = some (.bool ((rd_T93 x3_1 (ji8)).f1)) := hcc11 1 _ rfl
               have hx11_2 : World.cell? _ ⟨go11, ((ji8) : Int).toNat * 3 + 2, none⟩ = some (.bool ((rd_T93 x3_1 (ji8)).f2)) := hcc11 2 _ rfl
               have hf11_0 : World.frozen? _ ⟨go11, ((ji8) : Int).toNat * 3, none⟩ = false := hfr11 0
               have hf11_1 : World.frozen? _ ⟨go11, ((ji8) : Int).toNat * 3 + 1, none⟩ = false := hfr11 1
               have hf11_2 : World.frozen? _ ⟨go11, ((ji8) : Int).toNat * 3 + 2, none⟩ = false := hfr11 2
               clear hcl11 hcc11 hfr11 hM11
               replace p11 := eq_true p11
               replace q11 := eq_true q11
               refine start_ (n := 10) (S := fun w' => True) (ds := []) #[false, false, false, false, false, false, false, false, false, false] (by kernel_rfl) rfl rfl trivial (fun hHeld => ?_); refine with_tabW words_parts.tab5 words_parts.bits5 (fun HT_ HW_ => ?_)
               generalize wr.drew = w63 at HO_3 HB GG11 hf11_0 hf11_1 hf11_2 hx11_0 hx11_1 hx11_2 hHeld ⊢
               refine pure_ (i := 0) (N := some 14) (v := ?_) (a' := ?_) #[true, false, false, false, false, false, false, false, false, false] rfl rfl (any_of HT_.out (by kernel_rfl)) (fun _ _ _ h => h) (Or.inl ⟨by rfl, ?_⟩) ?_ ?_
               rotate_left
               ·intro w'
                go_simp
                with_reducible rfl
               rotate_left
               ·simp only [Act.put, List.setIfInBounds_toArray, List.set_cons_zero, List.set_cons_succ, i64_w, i32_w]
                rfl
               refine pure_ (i := 1) (N := some 15) (v := ?_) (a' := ?_) #[true, true, false, false, false, false, false, false, false, false] rfl rfl (any_of HT_.out (by kernel_rfl)) (fun _ _ _ h => h) (Or.inl ⟨by rfl, ?_⟩) ?_ ?_
               rotate_left
               ·intro w'
                go_simp
                with_reducible rfl
               rotate_left
               ·simp only [Act.put, List.setIfInBounds_toArray, List.set_cons_zero, List.set_cons_succ, i64_w, i32_w]
                rfl
               refine pure_ (i := 3) (N := some 17) (v := ?_) (a' := ?_) #[true, true, false, true, false, false, false, false, false, false] rfl rfl (any_of HT_.out (by kernel_rfl)) (fun _ _ _ h => h) (Or.inl ⟨by rfl, ?_⟩) ?_ ?_
               rotate_left
               ·intro w'
                go_simp
                with_reducible rfl
               rotate_left
               ·simp only [Act.put, List.setIfInBounds_toArray, List.set_cons_zero, List.set_cons_succ, i64_w, i32_w]
                rfl
               refine pure_ (i := 4) (N := some 18) (v := ?_) (a' := ?_) #[true, true, false, true, true, false, false, false, false, false] rfl rfl (any_of HT_.out (by kernel_rfl)) (fun _ _ _ h => h) (Or.inl ⟨by rfl, ?_⟩) ?_ ?_
               rotate_left
               ·intro w'
                go_simp
                with_reducible rfl
               rotate_left
               ·simp only [Act.put, List.setIfInBounds_toArray, List.set_cons_zero, List.set_cons_succ, i64_w, i32_w]
                rfl
               refine pure_ (i := 5) (N := some 19) (v := ?_) (a' := ?_) #[true, true, false, true, true, true, false, false, false, false] rfl rfl (any_of HT_.out (by kernel_rfl)) (fun _ _ _ h => h) (Or.inl ⟨by rfl, ?_⟩) ?_ ?_
               rotate_left
               ·intro w'
                go_simp
                with_reducible rfl
               rotate_left
               ·simp only [Act.put, List.setIfInBounds_toArray, List.set_cons_zero, List.set_cons_succ, i64_w, i32_w]
                rfl
               refine pure_ (i := 6) (N := some 20) (v := ?_) (a' := ?_) #[true, true, false, true, true, true, true, false, false, false] rfl rfl (any_of HT_.out (by kernel_rfl)) (fun _ _ _ h => h) (Or.inl ⟨by rfl, ?_⟩) ?_ ?_
               rotate_left
               ·intro w'
                go_simp
                with_reducible rfl
               rotate_left
               ·simp only [Act.put, List.setIfInBounds_toArray, List.set_cons_zero, List.set_cons_succ, i64_w, i32_w]
                rfl
               refine pure_ (i := 7) (N := some 21) (v := ?_) (a' := ?_) #[true, true, false, true, true, true, true, true, false, false] rfl rfl (any_of HT_.out (by kernel_rfl)) (fun _ _ _ h => h) (Or.inl ⟨by rfl, ?_⟩) ?_ ?_
               rotate_left
               ·intro w'
                go_simp
                with_reducible rfl
               rotate_left
               ·simp only [Act.put, List.setIfInBounds_toArray, List.set_cons_zero, List.set_cons_succ, i64_w, i32_w]
                rfl
               refine take_ (i := 2) (N := some 16) (v := ?_) (a' := ?_) #[true, true, true, true, true, true, true, true, false, false] rfl rfl (take_ofW HT_.out HW_.out (by kernel_rfl)) (fun _ _ _ h => h) (Or.inl ⟨by rfl, ?_⟩) hHeld ?_ ?_
               rotate_left
               ·intro w' _
                go_simp
                with_reducible rfl
               rotate_left
               ·simp only [Act.put, List.setIfInBounds_toArray, List.set_cons_zero, List.set_cons_succ, i64_w, i32_w]
                rfl
               refine pure_ (i := 8) (N := some 5) (v := ?_) (a' := ?_) #[true, true, true, true, true, true, true, true, true, false] rfl rfl (any_of HT_.out (by kernel_rfl)) (fun _ _ _ h => h) (Or.inl ⟨by rfl, ?_⟩) ?_ ?_
               rotate_left
               ·intro w'
                go_simp
                with_reducible rfl
               rotate_left
               ·simp only [Act.put, List.setIfInBounds_toArray, List.set_cons_zero, List.set_cons_succ, i64_w, i32_w]
                rfl
               refine pure_ (i := 9) (N := some 6) (v := ?_) (a' := ?_) #[true, true, true, true, true, true, true, true, true, true] rfl rfl (any_of HT_.out (by kernel_rfl)) (fun _ _ _ h => h) (Or.inl ⟨by rfl, ?_⟩) ?_ ?_
               rotate_left
               ·intro w'
                go_simp
                with_reducible rfl
               rotate_left
               ·simp only [Act.put, List.setIfInBounds_toArray, List.set_cons_zero, List.set_cons_succ, i64_w, i32_w]
                rfl
               refine done_ (done_of HT_.out (by kernel_rfl)) ?_
               try go_wp2
               have n0_ := Aside0.mk (Kd.R_drew HO_3.out)
               have n1_ := Aside0.mk (below_drew1 HB.out)
               clear HO_3
               clear HB
               have HO_3 := n0_
               have HB := n1_
               clear n0_ n1_
               have p114 : 0 ≤ ((ji8) : Int) := of_decide_eq_true (by first | (with_reducible assumption) | assumption)
               have q114 : (ji8) < (x3_1.length : Int) := of_decide_eq_true (by first | (with_reducible assumption) | assumption)
               obtain ⟨ad114, e114, hx114_0, hx114_1, hx114_2⟩ := at_T93 (Kd.R_reads' HO_3.out).2.2 (ji8) p114 q114
               obtain rfl : (⟨go11, 0, none⟩ : Addr) = ad114 := (by injection e114)
               (first | simp only [add_plain] at hx114_0 | simp only [add_at] at hx114_0 | simp only [Addr.add, Nat.zero_add] at hx114_0 | skip)
               (first | simp only [add_plain] at hx114_1 | simp only [add_at] at hx114_1 | simp only [Addr.add, Nat.zero_add] at hx114_1 | skip)
               (first | simp only [add_plain] at hx114_2 | simp only [add_at] at hx114_2 | simp only [Addr.add, Nat.zero_add] at hx114_2 | skip)
               replace p114 := eq_true p114
               replace q114 := eq_true q114
               have p37 : 0 ≤ ((ji34) : Int) := of_decide_eq_true (by first | (with_reducible assumption) | assumption)
               have q37 : (ji34) < (a0.size : Int) := of_decide_eq_true (by first | (with_reducible assumption) | assumption)
               have hx37 := bt_at a0 (ji34)
               replace p37 := eq_true p37
               replace q37 := eq_true q37
               refine start_ (n := 16) (S := fun w' => w'.cell? ⟨go11, ((ji8)).toNat * 3, none⟩ = some (.string ((rd_T93 x3_1 (ji8)).f0)) ∧ w'.cell? ⟨go11, ((ji8)).toNat * 3 + 1, none⟩ = some (.bool ((rd_T93 x3_1 (ji8)).f1)) ∧ w'.cell? ⟨go11, ((ji8)).toNat * 3 + 2, none⟩ = some (.bool ((rd_T93 x3_1 (ji8)).f2))) (ds := []) #[false, false, false, false, false, false, false, false, false, false, false, false, false, false, false, false] (by kernel_rfl) rfl rfl ⟨hx114_0, hx114_1, hx114_2⟩ (fun hHeld => ?_); refine with_tabW words_parts.tab8 words_parts.bits8 (fun HT_ HW_ => ?_)
               generalize w63.drew = w65 at HO_3 HB hx114_0 hx114_1 hx114_2 hHeld ⊢
               refine pure_ (i := 0) (N := some 36) (v := ?_) (a' := ?_) #[true, false, false, false, false, false, false, false, false, false, false, false, false, false, false, false] rfl rfl (any_of HT_.out (by kernel_rfl)) (fun _ _ _ h => h) (Or.inl ⟨by rfl, ?_⟩) ?_ ?_
               rotate_left
               ·intro w'
                go_simp
                with_reducible rfl
               rotate_left
               ·simp only [Act.put, List.setIfInBounds_toArray, List.set_cons_zero, List.set_cons_succ, i64_w, i32_w]
                rfl
               refine pure_ (i := 1) (N := some 37) (v := ?_) (a' := ?_) #[true, true, false, false, false, false, false, false, false, false, false, false, false, false, false, false] rfl rfl (any_of HT_.out (by kernel_rfl)) (fun _ _ _ h => h) (Or.inl ⟨by rfl, ?_⟩) ?_ ?_
               rotate_left
               ·intro w'
                go_simp
                with_reducible rfl
               rotate_left
               ·simp only [Act.put, List.setIfInBounds_toArray, List.set_cons_zero, List.set_cons_succ, i64_w, i32_w]
                rfl
               refine pure_ (i := 2) (N := some 38) (v := ?_) (a' := ?_) #[true, true, true, false, false, false, false, false, false, false, false, false, false, false, false, false] rfl rfl (any_of HT_.out (by kernel_rfl)) (fun _ _ _ h => h) (Or.inl ⟨by rfl, ?_⟩) ?_ ?_
               rotate_left
               ·intro w'
                go_simp
                with_reducible rfl
               rotate_left
               ·simp only [Act.put, List.setIfInBounds_toArray, List.set_cons_zero, List.set_cons_succ, i64_w, i32_w]
                rfl
               refine take_ (i := 3) (N := some 39) (v := ?_) (a' := ?_) #[true, true, true, true, false, false, false, false, false, false, false, false, false, false, false, false] rfl rfl (take_ofW HT_.out HW_.out (by kernel_rfl)) (fun _ _ _ h => h) (Or.inl ⟨by rfl, ?_⟩) hHeld ?_ ?_
               rotate_left
               ·rintro w' ⟨s0, s1, s2⟩
                go_simp
                with_reducible rfl
               rotate_left
               ·simp only [Act.put, List.setIfInBounds_toArray, List.set_cons_zero, List.set_cons_succ, i64_w, i32_w]
                rfl
               refine pure_ (i := 4) (N := some 40) (v := ?_) (a' := ?_) #[true, true, true, true, true, false, false, false, false, false, false, false, false, false, false, false] rfl rfl (any_of HT_.out (by kernel_rfl)) (fun _ _ _ h => h) (Or.inl ⟨by rfl, ?_⟩) ?_ ?_
               rotate_left
               ·intro w'
                go_simp
                with_reducible rfl
               rotate_left
               ·simp only [Act.put, List.setIfInBounds_toArray, List.set_cons_zero, List.set_cons_succ, i64_w, i32_w]
                rfl
               refine pure_ (i := 5) (N := some 41) (v := ?_) (a' := ?_) #[true, true, true, true, true, true, false, false, false, false, false, false, false, false, false, false] rfl rfl (any_of HT_.out (by kernel_rfl)) (fun _ _ _ h => h) (Or.inl ⟨by rfl, ?_⟩) ?_ ?_
               rotate_left
               ·intro w'
                go_simp
                with_reducible rfl
               rotate_left
               ·simp only [Act.put, List.setIfInBounds_toArray, List.set_cons_zero, List.set_cons_succ, i64_w, i32_w]
                rfl
               refine pure_ (i := 6) (N := some 42) (v := ?_) (a' := ?_) #[true, true, true, true, true, true, true, false, false, false, false, false, false, false, false, false] rfl rfl (any_of HT_.out (by kernel_rfl)) (fun _ _ _ h => h) (Or.inl ⟨by rfl, ?_⟩) ?_ ?_
               rotate_left
               ·intro w'
                go_simp
                with_reducible rfl
               rotate_left
               ·simp only [Act.put, List.setIfInBounds_toArray, List.set_cons_zero, List.set_cons_succ, i64_w, i32_w]
                rfl
               refine pure_ (i := 8) (N := some 44) (v := ?_) (a' := ?_) #[true, true, true, true, true, true, true, false, true, false, false, false, false, false, false, false] rfl rfl (any_of HT_.out (by kernel_rfl)) (fun _ _ _ h => h) (Or.inl ⟨by rfl, ?_⟩) ?_ ?_
               rotate_left
               ·intro w'
                go_simp
                with_reducible rfl
               rotate_left
               ·simp only [Act.put, List.setIfInBounds_toArray, List.set_cons_zero, List.set_cons_succ, i64_w, i32_w]
                rfl
               refine pure_ (i := 9) (N := some 45) (v := ?_) (a' := ?_) #[true, true, true, true, true, true, true, false, true, true, false, false, false, false, false, false] rfl rfl (any_of HT_.out (by kernel_rfl)) (fun _ _ _ h => h) (Or.inl ⟨by rfl, ?_⟩) ?_ ?_
               rotate_left
               ·intro w'
                go_simp
                with_reducible rfl
               rotate_left
               ·simp only [Act.put, List.setIfInBounds_toArray, List.set_cons_zero, List.set_cons_succ, i64_w, i32_w]
                rfl
               refine pure_ (i := 10) (N := some 46) (v := ?_) (a' := ?_) #[true, true, true, true, true, true, true, false, true, true, true, false, false, false, false, false] rfl rfl (any_of HT_.out (by kernel_rfl)) (fun _ _ _ h => h) (Or.inl ⟨by rfl, ?_⟩) ?_ ?_
               rotate_left
               ·intro w'
                go_simp
                with_reducible rfl
               rotate_left
               ·simp only [Act.put, List.setIfInBounds_toArray, List.set_cons_zero, List.set_cons_succ, i64_w, i32_w]
                rfl
               refine take_ (i := 11) (N := some 47) (v := ?_) (a' := ?_) #[true, true, true, true, true, true, true, false, true, true, true, true, false, false, false, false] rfl rfl (take_ofW HT_.out HW_.out (by kernel_rfl)) (fun _ _ _ h => h) (Or.inl ⟨by rfl, ?_⟩) hHeld ?_ ?_
               rotate_left
               ·rintro w' ⟨s0, s1, s2⟩
                go_simp
                with_reducible rfl
               rotate_left
               ·simp only [Act.put, List.setIfInBounds_toArray, List.set_cons_zero, List.set_cons_succ, i64_w, i32_w]
                rfl
               refine one_ (i := 7) (N := some 43) #[true, true, true, true, true, true, true, true, true, true, true, true, false, false, false, false] rfl rfl (one_of HT_.out (by kernel_rfl)) (by decide) (fun K hK => ?_)
               refine goes_ Tryd.func106 (by kernel_rfl) rfl #[.int .u8 (bt a0 x11_1)] (by rfl) rfl rfl (by (try simp only [List.map_toArray, List.map_cons, List.map_nil]); first | done | rfl | (simp only [List.length_drop, List.length_take]; rfl)) ?_
               with_reducible refine (chars_Digit.calls (bt a0 x11_1) t120 _ ?side1 A33.out).mono ?_
               (case side1 => exact Glob.step HG.out (by repeat (first | (with_reducible first | exact HB.out | apply below_alloc | apply pw_below_drewN | apply below_drew1) | exact HB.out)))
               rintro e w' ⟨rfl, ⟨nd, rfl⟩⟩
               refine ⟨_, rfl, ?_⟩
               refine hK.out _ _ ⟨hHeld.1, hHeld.2.1, hHeld.2.2⟩ (fun hHeld => ?_)
               clear hK K
               refine norm_ (a' := ?_) ?_ ?_
               rotate_left
               ·show Act.put _ (some 43) _ = _
                simp only [Act.put, List.setIfInBounds_toArray, List.set_cons_zero, List.set_cons_succ, i64_w, i32_w]
                rfl
               refine one_ (i := 12) (N := some 48) #[true, true, true, true, true, true, true, true, true, true, true, true, true, false, false, false] rfl rfl (one_of HT_.out (by kernel_rfl)) (by decide) (fun K hK => ?_)
               refine goes_ Tryd.func106 (by kernel_rfl) rfl #[.int .u8 (bt a0 (ji34))] (by rfl) rfl rfl (by (try simp only [List.map_toArray, List.map_cons, List.map_nil]); first | done | (simp only [hji34]; rfl) | rfl | (simp only [List.length_drop, List.length_take]; rfl)) ?_
               with_reducible refine (chars_Digit.calls (bt a0 (ji34)) t121 _ ?side1 A38.out).mono ?_
               (case side1 => exact Glob.step HG.out (by repeat (first | (with_reducible first | exact HB.out | apply below_alloc | apply pw_below_drewN | apply below_drew1) | exact HB.out)))
               rintro e w' ⟨rfl, ⟨nd, rfl⟩⟩
               refine ⟨_, rfl, ?_⟩
               refine hK.out _ _ ⟨hHeld.1, hHeld.2.1, hHeld.2.2⟩ (fun hHeld => ?_)
               clear hK K
               refine norm_ (a' := ?_) ?_ ?_
               rotate_left
               ·show Act.put _ (some 48) _ = _
                simp only [Act.put, List.setIfInBounds_toArray, List.set_cons_zero, List.set_cons_succ, i64_w, i32_w]
                rfl
               refine pure_ (i := 13) (N := some 49) (v := ?_) (a' := ?_) #[true, true, true, true, true, true, true, true, true, true, true, true, true, true, false, false] rfl rfl (any_of HT_.out (by kernel_rfl)) (fun _ _ _ h => h) (Or.inl ⟨by rfl, ?_⟩) ?_ ?_
               rotate_left
               ·intro w'
                go_simp
                with_reducible rfl
               rotate_left
               ·simp only [Act.put, List.setIfInBounds_toArray, List.set_cons_zero, List.set_cons_succ, i64_w, i32_w]
                rfl
               refine pure_ (i := 14) (N := some 50) (v := ?_) (a' := ?_) #[true, true, true, true, true, true, true, true, true, true, true, true, true, true, true, false] rfl rfl (any_of HT_.out (by kernel_rfl)) (fun _ _ _ h => h) (Or.inl ⟨by rfl, ?_⟩) ?_ ?_
               rotate_left
               ·intro w'
                go_simp
                with_reducible rfl
               rotate_left
               ·simp only [Act.put, List.setIfInBounds_toArray, List.set_cons_zero, List.set_cons_succ, i64_w, i32_w]
                rfl
               refine pure_ (i := 15) (N := some 35) (v := ?_) (a' := ?_) #[true, true, true, true, true, true, true, true, true, true, true, true, true, true, true, true] rfl rfl (any_of HT_.out (by kernel_rfl)) (fun _ _ _ h => h) (Or.inl ⟨by rfl, ?_⟩) ?_ ?_
               rotate_left
               ·intro w'
                go_simp
                with_reducible rfl
               rotate_left
               ·simp only [Act.put, List.setIfInBounds_toArray, List.set_cons_zero, List.set_cons_succ, i64_w, i32_w]
                rfl
               refine done_ (done_of HT_.out (by kernel_rfl)) ?_
               try go_wp2
               (try ((try simp only [World.drewN_drewN]); (first | generalize hq_ : World.drewN w65 _ = w65 | (rw [drewN_self w65]; generalize hq_ : World.drewN w65 _ = w65)); have n0_ : Aside0 (Kd.R k93 93 w65 w.heap.size (fun _ => True) (.slice (some ⟨go11, 0, none⟩) x3_1.length co64) x3_1) := ⟨by rw [← hq_]; exact (by (with_reducible repeat (first | apply Kd.R_alloc | apply Kd.R_drewN | apply Kd.R_drew)); exact HO_3.out)⟩; have n1_ : Aside0 (Below w.heap.size w w65) := ⟨by rw [← hq_]; exact (by repeat (first | (with_reducible first | exact HB.out | apply below_alloc | apply pw_below_drewN | apply below_drew1) | exact HB.out))⟩; clear HO_3 HB hq_; have HO_3 := n0_; have HB := n1_; clear n0_ n1_))
               have n0_ := Aside0.mk (Kd.R_drew HO_3.out)
               have n1_ := Aside0.mk (below_drew1 HB.out)
               clear HO_3
               clear HB
               have HO_3 := n0_
               have HB := n1_
               clear n0_ n1_
               have p132 : 0 ≤ ((ji8) : Int) := of_decide_eq_true (by first | (with_reducible assumption) | assumption)
               have q132 : (ji8) < (x3_1.length : Int) := of_decide_eq_true (by first | (with_reducible assumption) | assumption)
               obtain ⟨ad132, e132, hx132_0, hx132_1, hx132_2⟩ := at_T93 (Kd.R_reads' HO_3.out).2.2 (ji8) p132 q132
               obtain rfl : (⟨go11, 0, none⟩ : Addr) = ad132 := (by injection e132)
               (first | simp only [add_plain] at hx132_0 | simp only [add_at] at hx132_0 | simp only [Addr.add, Nat.zero_add] at hx132_0 | skip)
               (first | simp only [add_plain] at hx132_1 | simp only [add_at] at hx132_1 | simp only [Addr.add, Nat.zero_add] at hx132_1 | skip)
               (first | simp only [add_plain] at hx132_2 | simp only [add_at] at hx132_2 | simp only [Addr.add, Nat.zero_add] at hx132_2 | skip)
               replace p132 := eq_true p132
               replace q132 := eq_true q132
               refine start_ (n := 11) (S := fun w' => w'.cell? ⟨go11, ((ji8)).toNat * 3, none⟩ = some (.string ((rd_T93 x3_1 (ji8)).f0)) ∧ w'.cell? ⟨go11, ((ji8)).toNat * 3 + 1, none⟩ = some (.bool ((rd_T93 x3_1 (ji8)).f1)) ∧ w'.cell? ⟨go11, ((ji8)).toNat * 3 + 2, none⟩ = some (.bool ((rd_T93 x3_1 (ji8)).f2))) (ds := [10]) #[false, false, false, false, false, false, false, false, false, false, false] (by kernel_rfl) rfl rfl ⟨hx132_0, hx132_1, hx132_2⟩ (fun hHeld => ?_); refine with_tabW words_parts.tab12 words_parts.bits12 (fun HT_ HW_ => ?_)
               generalize w65.drew = w66 at HO_3 HB hx132_0 hx132_1 hx132_2 hHeld ⊢
               refine pure_ (i := 0) (N := some 65) (v := ?_) (a' := ?_) #[true, false, false, false, false, false, false, false, false, false, false] rfl rfl (any_of HT_.out (by kernel_rfl)) (fun _ _ _ h => h) (Or.inl ⟨by rfl, ?_⟩) ?_ ?_
               rotate_left
               ·intro w'
                go_simp
                with_reducible rfl
               rotate_left
               ·simp only [Act.put, List.setIfInBounds_toArray, List.set_cons_zero, List.set_cons_succ, i64_w, i32_w]
                rfl
               refine pure_ (i := 1) (N := some 66) (v := ?_) (a' := ?_) #[true, true, false, false, false, false, false, false, false, false, false] rfl rfl (any_of HT_.out (by kernel_rfl)) (fun _ _ _ h => h) (Or.inl ⟨by rfl, ?_⟩) ?_ ?_
               rotate_left
               ·intro w'
                go_simp
                with_reducible rfl
               rotate_left
               ·simp only [Act.put, List.setIfInBounds_toArray, List.set_cons_zero, List.set_cons_succ, i64_w, i32_w]
                rfl
               refine pure_ (i := 2) (N := some 67) (v := ?_) (a' := ?_) #[true, true, true, false, false, false, false, false, false, false, false] rfl rfl (any_of HT_.out (by kernel_rfl)) (fun _ _ _ h => h) (Or.inl ⟨by rfl, ?_⟩) ?_ ?_
               rotate_left
               ·intro w'
                go_simp
                with_reducible rfl
               rotate_left
               ·simp only [Act.put, List.setIfInBounds_toArray, List.set_cons_zero, List.set_cons_succ, i64_w, i32_w]
                rfl
               refine pure_ (i := 4) (N := some 69) (v := ?_) (a' := ?_) #[true, true, true, false, true, false, false, false, false, false, false] rfl rfl (any_of HT_.out (by kernel_rfl)) (fun _ _ _ h => h) (Or.inl ⟨by rfl, ?_⟩) ?_ ?_
               rotate_left
               ·intro w'
                go_simp
                with_reducible rfl
               rotate_left
               ·simp only [Act.put, List.setIfInBounds_toArray, List.set_cons_zero, List.set_cons_succ, i64_w, i32_w]
                rfl
               refine take_ (i := 3) (N := some 68) (v := ?_) (a' := ?_) #[true, true, true, true, true, false, false, false, false, false, false] rfl rfl (take_ofW HT_.out HW_.out (by kernel_rfl)) (fun _ _ _ h => h) (Or.inl ⟨by rfl, ?_⟩) hHeld ?_ ?_
               rotate_left
               ·rintro w' ⟨s0, s1, s2⟩
                go_simp
                with_reducible rfl
               rotate_left
               ·simp only [Act.put, List.setIfInBounds_toArray, List.set_cons_zero, List.set_cons_succ, i64_w, i32_w]
                rfl
               refine one_ (i := 5) (N := some 70) #[true, true, true, true, true, true, false, false, false, false, false] rfl rfl (one_of HT_.out (by kernel_rfl)) (by decide) (fun K hK => ?_)
               refine Kd.R_lit_step (Kd.int .u8) _ 5 ?hg (N := 70) ?hd (xs := ([bt a0 x11_1] : List Int)) (inner := [.int .u8 (bt a0 x11_1)]) (ok := fun _ => True) (okp := fun _ => True) ?hr ?hp (fun _ hk => hk) trivial (Below.refl _ _) (Nat.le_refl _) (by simp) ?_; (case hd => rfl); (case hg => rfl); (case hr => first | (go_simp; done) | (go_simp; rfl)); (case hp => exact (Reps.one (show Kd.M (Kd.int .u8) _ _ _ (bt a0 x11_1) [.int .u8 (bt a0 x11_1)] from rfl) (Reps.none _ _)))
               intro v134 w67 ho68 hb hg_ hnew_
               have HS0_ := (hb.cell (World.block_lt_of_cell? _ _ (hHeld.1))).trans (hHeld.1)
               have HS1_ := (hb.cell (World.block_lt_of_cell? _ _ (hHeld.2.1))).trans (hHeld.2.1)
               have HS2_ := (hb.cell (World.block_lt_of_cell? _ _ (hHeld.2.2))).trans (hHeld.2.2)
               clear hg_ hnew_
               (first | rw [← Ny133.out] at ho68 | (simp only [Int.reduceToNat] at ho68; rw [← Ny133.out] at ho68))
               have n0_ := Aside0.mk (Kd.R_below (by (with_reducible repeat (first | apply Kd.R_alloc | apply Kd.R_drewN | apply Kd.R_drew)); exact HO_3.out) hb)
               have n1_ := Aside0.mk (Kd.R_lower ho68 (below_size (by repeat (first | (with_reducible first | exact HB.out | apply below_alloc | apply pw_below_drewN | apply below_drew1) | exact HB.out))))
               have n2_ := Aside0.mk (below_step (by repeat (first | (with_reducible first | exact HB.out | apply below_alloc | apply pw_below_drewN | apply below_drew1) | exact HB.out)) hb)
               clear HO_3
               clear HB
               have HO_3 := n0_
               have HO135 := n1_
               have HB := n2_
               clear n0_ n1_ n2_
               clear hb ho68
               have p62 : 0 ≤ ((ji8) : Int) := of_decide_eq_true (by first | (with_reducible assumption) | assumption)
               have q62 : ((ji8) : Int) < ((x3_1.length : Int) : Int) := of_decide_eq_true (by first | (with_reducible assumption) | assumption)
               obtain ⟨ce62, hcl62, hM62, hcc62, hfr62⟩ := Kd.R_elem HO_3.out z93 ((ji8) : Int) p62 q62
               obtain rfl := k93_openM hM62
               have hx62_0 : World.cell? _ ⟨go11, ((ji8) : Int).toNat * 3, none⟩ = some (.string ((rd_T93 x3_1 (ji8)).f0)) := hcc62 0 _ rfl
               have hx62_1 : World.cell? _ ⟨go11, ((ji8) : Int).toNat * 3 + 1, none⟩ = some (.bool ((rd_T93 x3_1 (ji8)).f1)) := hcc62 1 _ rfl
               have hx62_2 : World.cell? _ ⟨go11, ((ji8) : Int).toNat * 3 + 2, none⟩ = some (.bool ((rd_T93 x3_1 (ji8)).f2)) := hcc62 2 _ rfl
               have hf62_0 : World.frozen? _ ⟨go11, ((ji8) : Int).toNat * 3, none⟩ = false := hfr62 0
               have hf62_1 : World.frozen? _ ⟨go11, ((ji8) : Int).toNat * 3 + 1, none⟩ = false := hfr62 1
               have hf62_2 : World.frozen? _ ⟨go11, ((ji8) : Int).toNat * 3 + 2, none⟩ = false := hfr62 2
               clear hcl62 hcc62 hfr62 hM62
               replace p62 := eq_true p62
               replace q62 := eq_true q62
               obtain ⟨ce70, hcl70, hM70, hcc70, hfr70⟩ := Kd.R_elem HO_3.out z93 ((ji8) : Int) (of_decide_eq_true (by first | (with_reducible assumption) | assumption)) (by have h_ : ((ji8) : Int) < ((x3_1.length : Int) : Int) := of_decide_eq_true (by first | (with_reducible assumption) | assumption); first | exact h_ | (have e_ := (Kd.R_reads' HO_3.out).1; omega) | simpa using h_)
               obtain rfl := k93_openM hM70
               have HP70 := (Kd.R_seg HO_3.out ((ji8) : Int) (of_decide_eq_true (by first | (with_reducible assumption) | assumption)) (by have h_ : ((ji8) : Int) < ((x3_1.length : Int) : Int) := of_decide_eq_true (by first | (with_reducible assumption) | assumption); first | exact h_ | (have e_ := (Kd.R_reads' HO_3.out).1; omega) | simpa using h_) (seg := [.string (((rd_T93 x3_1 (ji8)).f0) ++ (strOfNums y133))]) (j := 0) hcl70 hcc70 (show 1 ≤ 3 from by decide) (x' := (⟨((rd_T93 x3_1 (ji8)).f0) ++ (strOfNums y133), (rd_T93 x3_1 (ji8)).f1, (rd_T93 x3_1 (ji8)).f2⟩ : S93)) (k93_mkM _ _ _ (⟨((rd_T93 x3_1 (ji8)).f0) ++ (strOfNums y133), (rd_T93 x3_1 (ji8)).f1, (rd_T93 x3_1 (ji8)).f2⟩ : S93) ) (fun _ hk => hk)).1
               rw [← Ny136.out] at HP70
               have HQ70 := Aside0.mk HP70
               clear hcl70 hcc70 hfr70 hM70 HP70
               refine hK.out _ _ ⟨HS0_, HS1_, HS2_⟩ (fun hHeld => ?_)
               clear hK K
               refine norm_ (a' := ?_) ?_ ?_
               rotate_left
               ·show Act.put _ (some 70) _ = _
                simp only [Act.put, List.setIfInBounds_toArray, List.set_cons_zero, List.set_cons_succ, i64_w, i32_w]
                rfl
               refine one_ (i := 6) (N := some 71) #[true, true, true, true, true, true, true, false, false, false, false] rfl rfl (one_of HT_.out (by kernel_rfl)) (by decide) (fun K hK => ?_)
               have hcv69 := own_string (P := Tryd.prog) Tryd.underlying30 Tryd.underlying5 Tryd.underlying9 (Kd.own_of_R HO135.out)
               refine value_ (w1 := ?_) (v := ?_) (by rfl) rfl ?_ ?_
               rotate_left 2
               ·go_simp
                constructor
                ·rfl
                ·rfl
               clear hcv69
               refine hK.out _ _ ⟨hHeld.1, hHeld.2.1, hHeld.2.2⟩ (fun hHeld => ?_)
               clear hK K
               refine norm_ (a' := ?_) ?_ ?_
               rotate_left
               ·show Act.put _ (some 71) _ = _
                simp only [Act.put, List.setIfInBounds_toArray, List.set_cons_zero, List.set_cons_succ, i64_w, i32_w]
                rfl
               refine pure_ (i := 7) (N := some 72) (v := ?_) (a' := ?_) #[true, true, true, true, true, true, true, true, false, false, false] rfl rfl (any_of HT_.out (by kernel_rfl)) (fun _ _ _ h => h) (Or.inl ⟨by rfl, ?_⟩) ?_ ?_
               rotate_left
               ·intro w'
                go_simp
                with_reducible rfl
               rotate_left
               ·simp only [Act.put, List.setIfInBounds_toArray, List.set_cons_zero, List.set_cons_succ, i64_w, i32_w]
                rfl
               refine pure_ (i := 8) (N := some 73) (v := ?_) (a' := ?_) #[true, true, true, true, true, true, true, true, true, false, false] rfl rfl (any_of HT_.out (by kernel_rfl)) (fun _ _ _ h => h) (Or.inl ⟨by rfl, ?_⟩) ?_ ?_
               rotate_left
               ·intro w'
                go_simp
                with_reducible rfl
               rotate_left
               ·simp only [Act.put, List.setIfInBounds_toArray, List.set_cons_zero, List.set_cons_succ, i64_w, i32_w]
                rfl
               refine pure_ (i := 9) (N := some 74) (v := ?_) (a' := ?_) #[true, true, true, true, true, true, true, true, true, true, false] rfl rfl (any_of HT_.out (by kernel_rfl)) (fun _ _ _ h => h) (Or.inl ⟨by rfl, ?_⟩) ?_ ?_
               rotate_left
               ·intro w'
                go_simp
                with_reducible rfl
               rotate_left
               ·simp only [Act.put, List.setIfInBounds_toArray, List.set_cons_zero, List.set_cons_succ, i64_w, i32_w]
                rfl
               refine last_ (i := 10) (N := none) #[true, true, true, true, true, true, true, true, true, true, true] rfl rfl (one_of HT_.out (by kernel_rfl)) (by decide) (fun K hK => ?_)
               refine skip_ (w1 := ?_) (by rfl) rfl ?_ ?_
               rotate_left
               ·go_simp
                rfl
               refine hK.out _ _ ?_
               clear hK K
               refine done_ (done_of HT_.out (by kernel_rfl)) ?_
               try go_wp2
               go_roundg k1
               case measure => have := HK1.out; omega
               case rel => exact ⟨(y136), (wrap64 (x11_1 + 1)), (by first | rfl | (simp; done) | (simp [*]; done) | (simp; exact isEmpty_bne _)), H', ⟨by have := HK1.out; omega⟩, ⟨by (with_reducible repeat (first | apply Kd.R_alloc | apply Kd.R_drewN | apply Kd.R_drew)); exact HQ70.out⟩, ⟨by repeat (first | (with_reducible first | exact HB.out | apply below_alloc | apply pw_below_drewN | apply below_drew1 | refine below_set ?_ GB11.out) | exact HB.out)⟩⟩
              ·rw [if_neg c61] at H
               exact absurd H (by simp)
            ·rw [if_neg c36] at H
             exact absurd H (by simp)
           ·rw [if_neg c35] at H
            exact absurd H (by simp)
       ·rw [if_neg c10] at H
        exact absurd H (by simp)
      ·rw [if_neg c9] at H
       exact absurd H (by simp)
     ·rw [if_neg c6] at H
      exact absurd H (by simp)
    ·rw [if_neg c5] at H
     exact absurd H (by simp)
   ·rw [if_neg c4] at H
    have c4b0 : decide (x11_1 < (a0.size : Int)) = false := decide_eq_false c4
    clear c4
    obtain rfl := Option.some.inj H
    go_wp2
    go_ret
    exact ⟨_, by first | rfl | (simp [errW_none, errW_some] <;> rfl) | (simp [*, errW_none, errW_some] <;> rfl), by (with_reducible repeat (first | apply Kd.R_alloc | apply Kd.R_drewN | apply Kd.R_drew)); exact HO_3.out, by repeat (first | (with_reducible first | exact HB.out | apply below_alloc | apply pw_below_drewN | apply below_drew1) | exact HB.out)⟩

end Go.Proofs.YtgdjfcmmpjcaaaaDoor.Q

-- Printed by this session's wip/np.py over the kit's print program. Not trusted: Lean checks it.
namespace Go.Proofs.YtgdjfcmmpjcaaaaDoor.Q
open Go.RowKit Go.Proofs.YtgdjfcmmpjcaaaaDoorW.PrintWords Go.Proofs.YtgdjfcmmpjcaaaaDoorW.PrintLast Go.Proofs.YtgdjfcmmpjcaaaaDoorW.Own Go.Proofs.YtgdjfcmmpjcaaaaDoorW.PrintMore
attribute [local go_sem] max2_int min2_int max_two min_two max_three min_three max_four min_four
set_option linter.unusedVariables false
set_option linter.unusedSimpArgs false

/-! ### chars_Lower: function 72 -/
def chars_Lower.low (n : Int) : Int := if 65 ≤ n ∧ n ≤ 90 then n + 32 else n
def chars_Lower.f (a0 : ByteArray) : Option ByteArray := if a0.size ≤ 281474976710656 then some (strOfNums ((bytesOf a0).map chars_Lower.low)) else none
/-- The row while the loop runs: the bytes before i are small. -/
def chars_Lower.val (a0 : ByteArray) (i j : Nat) : Int := if j < i then chars_Lower.low (bt a0 (j : Int)) else bt a0 (j : Int)
structure chars_Lower.Row (w : World) (a0 : ByteArray) (i : Nat) (w' : World) : Prop where
  below : Below w.heap.size w w'
  cell : ∀ j, j < a0.size → w'.cell? ⟨w.heap.size, j, none⟩ = some (.int .u8 (chars_Lower.val a0 i j))
  soft : ∀ j, j < a0.size → w'.frozen? ⟨w.heap.size, j, none⟩ = false
set_option maxHeartbeats 4000000 in
set_option maxRecDepth 100000 in
theorem chars_Lower.calls (a0 : ByteArray) (r : ByteArray) (w : World) (hG : Glob w) (h : chars_Lower.f a0 = some r) :
    Calls Tryd.prog 72 #[.string a0] w fun e w' => e = .returned (.string r) ∧ Below w.heap.size w w' := by
  unfold chars_Lower.f at h
  split at h
  · rename_i hs
    obtain rfl := Option.some.inj h
    clear h
    have kb := fun W => print_bytes (P := Tryd.prog) 9 30 5 Tryd.underlying9 Tryd.underlying30 Tryd.underlying5 a0 W
    go_enter Tryd.func72, Tryd.ntmps72
    go_wp2
    have hR : chars_Lower.Row w a0 0 (Lib.bytesWorld w 5 a0) := by
      refine ⟨bytes_below (Below.refl _ _) (Nat.le_refl _) _ _, ?_, ?_⟩
      · intro j hj
        rw [Lib.bytesWorld_cell w 5 a0 j hj]
        unfold chars_Lower.val bt
        rw [if_neg (Nat.not_lt_zero _)]
        have h' : j < a0.data.toList.length := by rw [data_length]; exact hj
        simp [List.getD_eq_getElem?_getD, hj]
        rfl
      · intro j hj
        have hz : a0.size ≤ (Lib.bytesCells w 5 a0).size := by simp [Lib.bytesCells]
        simp [World.frozen?, Lib.bytesWorld_at_new]
        omega
    generalize hWx : Lib.bytesWorld w 5 a0 = W2 at hR ⊢
    go_loopg [10] a0.size (fun g v10 w' => ∃ i : Nat, i ≤ a0.size ∧ v10 = .int .i64 (i : Int) ∧ g + i = a0.size ∧ chars_Lower.Row w a0 i w')
    case atStart => exact ⟨0, Nat.zero_le _, rfl, rfl, hR⟩
    case round =>
      obtain ⟨i, hi, rfl, hgi, hr⟩ := hrel
      by_cases c : i < a0.size
      · have d : decide ((i : Int) < (a0.size : Int)) = true := decide_eq_true (by omega)
        have hx := hr.cell i c
        have hf := hr.soft i c
        have hv : chars_Lower.val a0 i i = bt a0 (i : Int) := by unfold chars_Lower.val; rw [if_neg (Nat.lt_irrefl _)]
        rw [hv] at hx
        have hb := bt_range a0 (i : Int)
        have hw1 : wrap64 ((i : Int) + 1) = ((i + 1 : Nat) : Int) := by unfold wrap64; omega
        by_cases c1 : 65 ≤ bt a0 (i : Int) ∧ bt a0 (i : Int) ≤ 90
        · have d1 : decide (65 ≤ bt a0 (i : Int)) = true := decide_eq_true c1.1
          have d2 : decide (bt a0 (i : Int) ≤ 90) = true := decide_eq_true c1.2
          go_wp2
          go_roundg (a0.size - (i + 1))
          case measure => omega
          case rel =>
            refine ⟨i + 1, by omega, by simp, by omega, ⟨hr.below.setCell (Nat.le_refl _) _, fun j hj => ?_, fun j hj => (World.frozen?_setCell _ _ _ _).trans (hr.soft j hj)⟩⟩
            by_cases e : j = i
            · subst e
              rw [World.cell?_setCell_same _ _ _ (hr.cell j hj)]
              unfold chars_Lower.val chars_Lower.low
              rw [if_pos (Nat.lt_succ_self _), if_pos c1]
              have : bt a0 (j : Int) - 65 + 97 = bt a0 (j : Int) + 32 := by omega
              rw [this]
            · rw [World.cell?_setCell_other _ _ _ _ (show (⟨w.heap.size, i, none⟩ : Addr) ≠ ⟨w.heap.size, j, none⟩ from by intro h; injection h with _ h2 _; exact e h2.symm), hr.cell j hj]
              unfold chars_Lower.val
              by_cases l : j < i
              · rw [if_pos l, if_pos (by omega)]
              · rw [if_neg l, if_neg (by omega)]
        · have d12 : decide (65 ≤ bt a0 (i : Int)) = true → decide (bt a0 (i : Int) ≤ 90) = false := fun h => decide_eq_false (fun h2 => c1 ⟨of_decide_eq_true h, h2⟩)
          have same : ∀ W, chars_Lower.Row w a0 i W → chars_Lower.Row w a0 (i + 1) W := fun W hr => by
            refine ⟨hr.below, fun j hj => ?_, hr.soft⟩
            rw [hr.cell j hj]
            by_cases e : j = i
            · subst e
              rw [hv]
              unfold chars_Lower.val chars_Lower.low
              rw [if_pos (Nat.lt_succ_self _), if_neg c1]
            · unfold chars_Lower.val
              by_cases l : j < i
              · rw [if_pos l, if_pos (by omega)]
              · rw [if_neg l, if_neg (by omega)]
          by_cases c2 : 65 ≤ bt a0 (i : Int)
          · have d1 : decide (65 ≤ bt a0 (i : Int)) = true := decide_eq_true c2
            have d2 := d12 d1
            go_wp2
            go_roundg (a0.size - (i + 1))
            case measure => omega
            case rel => exact ⟨i + 1, by omega, by simp, by omega, same _ hr⟩
          · have d1 : decide (65 ≤ bt a0 (i : Int)) = false := decide_eq_false c2
            go_wp2
            go_roundg (a0.size - (i + 1))
            case measure => omega
            case rel => exact ⟨i + 1, by omega, by simp, by omega, same _ hr⟩
      · have d : decide ((i : Int) < (a0.size : Int)) = false := decide_eq_false (by omega)
        have hi' : i = a0.size := by omega
        have hc : ∀ W, chars_Lower.Row w a0 i W → Kd.C (Kd.int .u8) W (some ⟨w.heap.size, 0, none⟩) a0.size ((bytesOf a0).map chars_Lower.low) := fun W hr => by
          refine Kd.C_of_reads (enc := Value.int .u8) (d := (0 : Int)) (h1 := fun _ => rfl) ⟨by rw [List.length_map, bytesOf_length], by omega, fun _ => ⟨_, rfl, fun j hj => ?_⟩⟩
          rw [add_plain, hr.cell j hj]
          unfold chars_Lower.val
          rw [if_pos (by omega)]
          have h' : j < (bytesOf a0).length := by rw [bytesOf_length]; exact hj
          have e : (bytesOf a0)[j]'h' = bt a0 (j : Int) := by
            rw [← rd_bytesOf]
            unfold rd
            simp [List.getD_eq_getElem?_getD, List.getElem?_eq_getElem h']
          simp [List.getD_eq_getElem?_getD, List.getElem?_eq_getElem h', e]
        have hcv := Kd.C_string (P := Tryd.prog) (A := some ⟨w.heap.size, 0, none⟩) (c := grownCap w a0.size 0 5) Tryd.underlying30 Tryd.underlying5 Tryd.underlying9 (hc _ hr)
        go_wp2
        go_ret
        exact ⟨rfl, hr.below⟩
  · exact absurd h (by simp)


end Go.Proofs.YtgdjfcmmpjcaaaaDoor.Q

-- Printed by this session's wip/np.py over the kit's print program. Not trusted: Lean checks it.
namespace Go.Proofs.YtgdjfcmmpjcaaaaDoor.Q
open Go.RowKit Go.Proofs.YtgdjfcmmpjcaaaaDoorW.PrintWords Go.Proofs.YtgdjfcmmpjcaaaaDoorW.PrintLast Go.Proofs.YtgdjfcmmpjcaaaaDoorW.Own Go.Proofs.YtgdjfcmmpjcaaaaDoorW.PrintMore
attribute [local go_sem] max2_int min2_int max_two min_two max_three min_three max_four min_four
set_option linter.unusedVariables false
set_option linter.unusedSimpArgs false

/-! ### api_Word_73: function 73 -/
def api_Word_73.l0 : Nat → List (S38) → Int → Int → Option ((List (S38)))
 | 0, _, _, _ => none
 | k + 1, x0, x2, x3 => if x2 < x3 then (if 0 ≤ x3 then (if x3 < (x0.length : Int) then (if 0 ≤ x2 then (if x2 < (x0.length : Int) then (api_Word_73.l0 k ((x0.set (x2 : Int).toNat (⟨(rd_T38 x0 x3).f0, (rd_T38 x0 x3).f1⟩ : S38)).set (x3 : Int).toNat (⟨(rd_T38 x0 x2).f0, (rd_T38 x0 x2).f1⟩ : S38)) (wrap64 (x2 + 1)) (wrap64 (x3 - 1))) else (none)) else (none)) else (none)) else (none)) else (some x0)
def api_Word_73.f (k : Nat) (l0 : List (S38)) : Option ((List (S38))) := api_Word_73.l0 k l0 0 (wrap64 ((l0.length : Int) - 1))
theorem api_Word_73.mono_l : ∀ k, (∀ y0 y1 y2, LeO (api_Word_73.l0 k y0 y1 y2) (api_Word_73.l0 (k + 1) y0 y1 y2))
 | 0 => fun _ _ _ r h => by simp [api_Word_73.l0] at h
 | k + 1 => by
  have ih0 := api_Word_73.mono_l k
  ·intro y0 y1 y2
   unfold api_Word_73.l0
   repeat' first
   | (with_reducible exact ih0 _ _ _)
   | (with_reducible exact LeO.refl _)
   | (with_reducible exact LeO.none _)
   | (with_reducible refine LeO.ite ?_ ?_)
   | (with_reducible refine LeO.bind ?_ (fun _ => ?_))
   | exact ih0 _ _ _
   | exact LeO.none _
   | refine LeO.ite ?_ ?_
   | refine LeO.bind ?_ (fun _ => ?_)
theorem api_Word_73.mono : ∀ a0 k, LeO (api_Word_73.f k a0) (api_Word_73.f (k + 1) a0) := by
 intro a0 k
 have ih0 := api_Word_73.mono_l k
 unfold api_Word_73.f
 repeat' first
  | (with_reducible exact ih0 _ _ _)
  | (with_reducible exact LeO.refl _)
  | (with_reducible exact LeO.none _)
  | (with_reducible refine LeO.ite ?_ ?_)
  | (with_reducible refine LeO.bind ?_ (fun _ => ?_))
  | exact ih0 _ _ _
  | exact LeO.none _
  | refine LeO.ite ?_ ?_
  | refine LeO.bind ?_ (fun _ => ?_)
def api_Word_73.T3 : Bool × List (List Nat × List Nat) := (true, [([], []), ([], []), ([], []), ([], []), ([], []), ([], []), ([4, 5], [4, 5]), ([6], [6]), ([], []), ([], []), ([8, 9], [8, 9]), ([10], [10]), ([0, 1, 0, 1, 4, 5, 6, 7, 11], [0, 1]), ([12, 7, 0, 1, 4, 5, 6, 7, 11], [7, 12]), ([2, 3, 0, 1, 2, 3, 4, 5, 6, 7, 8, 9, 10, 11, 12, 13], [2, 3]), ([14, 11, 13, 0, 1, 2, 3, 4, 5, 6, 7, 8, 9, 10, 11, 12, 13], [11, 14])])
def api_Word_73.B3 : List Nat := [0, 0, 0, 0, 0, 0, 48, 112, 0, 0, 768, 1792, 4083, 8179, 16383, 32767]
theorem api_Word_73.tab3 : rtab .any (opsOf Tryd.f73 3) = api_Word_73.T3 := by kernel_rfl
theorem api_Word_73.bits3 : waitsOk api_Word_73.T3.2 api_Word_73.B3 = true := by kernel_rfl
set_option maxHeartbeats 8000000 in
set_option maxRecDepth 100000 in
theorem api_Word_73.calls (k : Nat) (P0_ : Nat → Prop) (u9000_ : Value) (l0 : List (S38)) (r : List (S38)) (w0 w : World) (hB : Below w0.heap.size w0 w) (ho0 : Kd.R k38 38 w w0.heap.size P0_ u9000_ l0) (hG : Glob w0) (h : api_Word_73.f k l0 = some r) :
 Calls Tryd.prog 73 #[u9000_] w fun e w' => e = .returned (.tuple #[]) ∧ Kd.R k38 38 w' w0.heap.size (fun k_ => (P0_ k_ ∨ w.heap.size ≤ k_)) u9000_ r ∧ Below w0.heap.size w0 w' ∧ Kept w w' (fun k_ => P0_ k_) := by
 have hu38 := Tryd.underlying38
 have HG := Aside0.mk hG
 clear hG
 have HO0 := Aside0.mk (show Kd.R k38 38 w w0.heap.size (fun k_ => (P0_ k_ ∨ w.heap.size ≤ k_)) u9000_ l0 from Kd.R_mono ho0 (fun k_ hk => (.inl hk)))
 have HK := Aside0.mk (Kept.refl w (fun k_ => P0_ k_))
 have HW0 := Aside0.mk hB.size
 have HB := Aside0.mk hB
 clear hB
 have H : (api_Word_73.l0 k l0 0 (wrap64 ((l0.length : Int) - 1))) = some r := h
 clear h
 have H' := Aside0.mk H
 clear H
 obtain ⟨Ao2, co2, eo2⟩ := Kd.R_slice HO0.out
 subst eo2
 go_enter Tryd.func73, Tryd.ntmps73
 go_wp2
 go_loopg [2, 3] k (fun kq v2 v3 w' => ∃ (x0_1 : List (S38)) (x2_1 : Int) (x3_1 : Int), v2 = .int .i64 x2_1 ∧ v3 = .int .i64 x3_1 ∧ Aside0 (api_Word_73.l0 kq x0_1 x2_1 x3_1 = some r) ∧ Aside0 (kq ≤ k) ∧ Aside0 (Kd.R k38 38 w' w0.heap.size (fun k_ => (P0_ k_ ∨ w.heap.size ≤ k_)) (.slice Ao2 l0.length co2) x0_1) ∧ Aside0 (Kept w w' (fun k_ => P0_ k_)) ∧ Aside0 (Below w0.heap.size w0 w'))
 case atStart => exact ⟨(l0), (0), (wrap64 ((l0.length : Int) - 1)), (by first | rfl | (simp; done) | (simp [*]; done) | (simp; exact isEmpty_bne _)), (by first | rfl | (simp; done) | (simp [*]; done) | (simp; exact isEmpty_bne _)), H', ⟨Nat.le_refl _⟩, ⟨by (with_reducible repeat (first | apply Kd.R_alloc | apply Kd.R_drewN | apply Kd.R_drew)); exact HO0.out⟩, ⟨by repeat (first | (with_reducible first | exact HK.out | apply Kept.alloc | apply Kept.drewN | apply Kept.drew) | exact HK.out)⟩, ⟨by repeat (first | (with_reducible first | exact HB.out | apply below_alloc | apply pw_below_drewN | apply below_drew1) | exact HB.out)⟩⟩
 case round =>
  clear H'
  try clear p2
  obtain ⟨x0_1, x2_1, x3_1, rfl, rfl, HA, HK1, HO_0, HK, HB⟩ := hrel
  have hl0_1 := (Kd.R_reads' HO_0.out).1
  rw [hl0_1] at HO_0
  (try simp only [hl0_1])
  cases gk with
  | zero => exact absurd HA.out (by simp [api_Word_73.l0])
  | succ k1 =>
   have H := HA.out
   clear HA
   simp only [api_Word_73.l0] at H
   by_cases c3 : x2_1 < x3_1
   ·rw [if_pos c3] at H
    have c3b0 : decide (x2_1 < x3_1) = true := decide_eq_true c3
    clear c3
    by_cases c4 : 0 ≤ x3_1
    ·rw [if_pos c4] at H
     have c4b0 : decide (0 ≤ x3_1) = true := decide_eq_true c4
     clear c4
     by_cases c5 : x3_1 < (x0_1.length : Int)
     ·rw [if_pos c5] at H
      have c5b0 : decide (x3_1 < (x0_1.length : Int)) = true := decide_eq_true c5
      clear c5
      by_cases c6 : 0 ≤ x2_1
      ·rw [if_pos c6] at H
       have c6b0 : decide (0 ≤ x2_1) = true := decide_eq_true c6
       clear c6
       by_cases c7 : x2_1 < (x0_1.length : Int)
       ·rw [if_pos c7] at H
        have c7b0 : decide (x2_1 < (x0_1.length : Int)) = true := decide_eq_true c7
        clear c7
        obtain ⟨y139, hy139⟩ : ∃ y_ : List (S38), y_ = (x0_1.set (x2_1 : Int).toNat (⟨(rd_T38 x0_1 x3_1).f0, (rd_T38 x0_1 x3_1).f1⟩ : S38)) := ⟨_, rfl⟩
        replace H : (api_Word_73.l0 k1 (y139.set (x3_1 : Int).toNat (⟨(rd_T38 x0_1 x2_1).f0, (rd_T38 x0_1 x2_1).f1⟩ : S38)) (wrap64 (x2_1 + 1)) (wrap64 (x3_1 - 1))) = some r := by first | (rw [hy139]; with_reducible exact H) | (have H2_ := (Option.bind_some _ _).symm.trans H; rw [hy139]; with_reducible exact H2_) | (have H2_ := (Option.bind_some _ _).symm.trans H; with_reducible exact H2_) | with_reducible exact H | (rw [hy139]; exact H) | exact H
        have Ny139 := Aside0.mk hy139
        clear hy139
        obtain ⟨y140, hy140⟩ : ∃ y_ : List (S38), y_ = (y139.set (x3_1 : Int).toNat (⟨(rd_T38 x0_1 x2_1).f0, (rd_T38 x0_1 x2_1).f1⟩ : S38)) := ⟨_, rfl⟩
        replace H : (api_Word_73.l0 k1 y140 (wrap64 (x2_1 + 1)) (wrap64 (x3_1 - 1))) = some r := by first | (rw [hy140]; with_reducible exact H) | (have H2_ := (Option.bind_some _ _).symm.trans H; rw [hy140]; with_reducible exact H2_) | (have H2_ := (Option.bind_some _ _).symm.trans H; with_reducible exact H2_) | with_reducible exact H | (rw [hy140]; exact H) | exact H
        have Ny140 := Aside0.mk hy140
        clear hy140
        have H' := Aside0.mk H
        clear H
        try go_wp2
        have n0_ := Aside0.mk (Kd.R_drew HO_0.out)
        have n1_ := Aside0.mk (Kept.drew HK.out)
        have n2_ := Aside0.mk (below_drew1 HB.out)
        clear HO_0
        clear HK
        clear HB
        have HO_0 := n0_
        have HK := n1_
        have HB := n2_
        clear n0_ n1_ n2_
        have p137 : 0 ≤ (x3_1 : Int) := of_decide_eq_true (by first | (with_reducible assumption) | assumption)
        have q137 : x3_1 < (x0_1.length : Int) := of_decide_eq_true (by first | (with_reducible assumption) | assumption)
        obtain ⟨ad137, e137, hx137_0, hx137_1⟩ := at_T38 (Kd.R_reads' HO_0.out).2.2 x3_1 p137 q137
        cases e137
        replace p137 := eq_true p137
        replace q137 := eq_true q137
        have p138 : 0 ≤ (x2_1 : Int) := of_decide_eq_true (by first | (with_reducible assumption) | assumption)
        have q138 : x2_1 < (x0_1.length : Int) := of_decide_eq_true (by first | (with_reducible assumption) | assumption)
        obtain ⟨ad138, e138, hx138_0, hx138_1⟩ := at_T38 (Kd.R_reads' HO_0.out).2.2 x2_1 p138 q138
        obtain rfl : ad137 = ad138 := (by injection e138)
        replace p138 := eq_true p138
        replace q138 := eq_true q138
        have p8 : 0 ≤ (x2_1 : Int) := of_decide_eq_true (by first | (with_reducible assumption) | assumption)
        have q8 : (x2_1 : Int) < ((x0_1.length : Int) : Int) := of_decide_eq_true (by first | (with_reducible assumption) | assumption)
        obtain ⟨go8, co8, eo8, gb8, gl8, cl8, HG8⟩ := Kd.R_form HO_0.out (by omega)
        (first | cases eo8 | (injection eo8 with ea_ en_ ec_; (first | subst ea_ | (injection ea_ with ea_; subst ea_)); subst ec_; clear en_))
        have GB8 := Aside0.mk gb8
        have hlt_sw_ : x2_1 < x3_1 := of_decide_eq_true c3b0
        have h0_sw_ : 0 ≤ x2_1 := of_decide_eq_true c6b0
        have far_sw_0 : ∀ (W : World) (v : Value), (W.setCell ⟨go8, (x2_1 : Int).toNat * 2, none⟩ v).cell? ⟨go8, (x3_1 : Int).toNat * 2, none⟩ = W.cell? ⟨go8, (x3_1 : Int).toNat * 2, none⟩ := fun W v => World.cell?_setCell_other _ _ _ _ (show (⟨go8, (x2_1 : Int).toNat * 2, none⟩ : Addr) ≠ ⟨go8, (x3_1 : Int).toNat * 2, none⟩ from by intro h; injection h with _ h2 _; omega)
        have far_sw_1 : ∀ (W : World) (v : Value), (W.setCell ⟨go8, (x2_1 : Int).toNat * 2, none⟩ v).cell? ⟨go8, (x3_1 : Int).toNat * 2 + 1, none⟩ = W.cell? ⟨go8, (x3_1 : Int).toNat * 2 + 1, none⟩ := fun W v => World.cell?_setCell_other _ _ _ _ (show (⟨go8, (x2_1 : Int).toNat * 2, none⟩ : Addr) ≠ ⟨go8, (x3_1 : Int).toNat * 2 + 1, none⟩ from by intro h; injection h with _ h2 _; omega)
        have far_sw_2 : ∀ (W : World) (v : Value), (W.setCell ⟨go8, (x2_1 : Int).toNat * 2 + 1, none⟩ v).cell? ⟨go8, (x3_1 : Int).toNat * 2, none⟩ = W.cell? ⟨go8, (x3_1 : Int).toNat * 2, none⟩ := fun W v => World.cell?_setCell_other _ _ _ _ (show (⟨go8, (x2_1 : Int).toNat * 2 + 1, none⟩ : Addr) ≠ ⟨go8, (x3_1 : Int).toNat * 2, none⟩ from by intro h; injection h with _ h2 _; omega)
        have far_sw_3 : ∀ (W : World) (v : Value), (W.setCell ⟨go8, (x2_1 : Int).toNat * 2 + 1, none⟩ v).cell? ⟨go8, (x3_1 : Int).toNat * 2 + 1, none⟩ = W.cell? ⟨go8, (x3_1 : Int).toNat * 2 + 1, none⟩ := fun W v => World.cell?_setCell_other _ _ _ _ (show (⟨go8, (x2_1 : Int).toNat * 2 + 1, none⟩ : Addr) ≠ ⟨go8, (x3_1 : Int).toNat * 2 + 1, none⟩ from by intro h; injection h with _ h2 _; omega)
        have far_sw_4 : ∀ (W : World) (v : Value), (W.setCell ⟨go8, (x3_1 : Int).toNat * 2, none⟩ v).cell? ⟨go8, (x2_1 : Int).toNat * 2, none⟩ = W.cell? ⟨go8, (x2_1 : Int).toNat * 2, none⟩ := fun W v => World.cell?_setCell_other _ _ _ _ (show (⟨go8, (x3_1 : Int).toNat * 2, none⟩ : Addr) ≠ ⟨go8, (x2_1 : Int).toNat * 2, none⟩ from by intro h; injection h with _ h2 _; omega)
        have far_sw_5 : ∀ (W : World) (v : Value), (W.setCell ⟨go8, (x3_1 : Int).toNat * 2, none⟩ v).cell? ⟨go8, (x2_1 : Int).toNat * 2 + 1, none⟩ = W.cell? ⟨go8, (x2_1 : Int).toNat * 2 + 1, none⟩ := fun W v => World.cell?_setCell_other _ _ _ _ (show (⟨go8, (x3_1 : Int).toNat * 2, none⟩ : Addr) ≠ ⟨go8, (x2_1 : Int).toNat * 2 + 1, none⟩ from by intro h; injection h with _ h2 _; omega)
        have far_sw_6 : ∀ (W : World) (v : Value), (W.setCell ⟨go8, (x3_1 : Int).toNat * 2 + 1, none⟩ v).cell? ⟨go8, (x2_1 : Int).toNat * 2, none⟩ = W.cell? ⟨go8, (x2_1 : Int).toNat * 2, none⟩ := fun W v => World.cell?_setCell_other _ _ _ _ (show (⟨go8, (x3_1 : Int).toNat * 2 + 1, none⟩ : Addr) ≠ ⟨go8, (x2_1 : Int).toNat * 2, none⟩ from by intro h; injection h with _ h2 _; omega)
        have far_sw_7 : ∀ (W : World) (v : Value), (W.setCell ⟨go8, (x3_1 : Int).toNat * 2 + 1, none⟩ v).cell? ⟨go8, (x2_1 : Int).toNat * 2 + 1, none⟩ = W.cell? ⟨go8, (x2_1 : Int).toNat * 2 + 1, none⟩ := fun W v => World.cell?_setCell_other _ _ _ _ (show (⟨go8, (x3_1 : Int).toNat * 2 + 1, none⟩ : Addr) ≠ ⟨go8, (x2_1 : Int).toNat * 2 + 1, none⟩ from by intro h; injection h with _ h2 _; omega)
        have far_sw_8 : ∀ (W : World) (v : Value), (W.setCell ⟨go8, (x2_1 : Int).toNat * 2, none⟩ v).cell? ⟨go8, (x2_1 : Int).toNat * 2 + 1, none⟩ = W.cell? ⟨go8, (x2_1 : Int).toNat * 2 + 1, none⟩ := fun W v => World.cell?_setCell_other _ _ _ _ (show (⟨go8, (x2_1 : Int).toNat * 2, none⟩ : Addr) ≠ ⟨go8, (x2_1 : Int).toNat * 2 + 1, none⟩ from by intro h; injection h with _ h2 _; omega)
        have far_sw_9 : ∀ (W : World) (v : Value), (W.setCell ⟨go8, (x2_1 : Int).toNat * 2 + 1, none⟩ v).cell? ⟨go8, (x2_1 : Int).toNat * 2, none⟩ = W.cell? ⟨go8, (x2_1 : Int).toNat * 2, none⟩ := fun W v => World.cell?_setCell_other _ _ _ _ (show (⟨go8, (x2_1 : Int).toNat * 2 + 1, none⟩ : Addr) ≠ ⟨go8, (x2_1 : Int).toNat * 2, none⟩ from by intro h; injection h with _ h2 _; omega)
        have far_sw_10 : ∀ (W : World) (v : Value), (W.setCell ⟨go8, (x3_1 : Int).toNat * 2, none⟩ v).cell? ⟨go8, (x3_1 : Int).toNat * 2 + 1, none⟩ = W.cell? ⟨go8, (x3_1 : Int).toNat * 2 + 1, none⟩ := fun W v => World.cell?_setCell_other _ _ _ _ (show (⟨go8, (x3_1 : Int).toNat * 2, none⟩ : Addr) ≠ ⟨go8, (x3_1 : Int).toNat * 2 + 1, none⟩ from by intro h; injection h with _ h2 _; omega)
        have far_sw_11 : ∀ (W : World) (v : Value), (W.setCell ⟨go8, (x3_1 : Int).toNat * 2 + 1, none⟩ v).cell? ⟨go8, (x3_1 : Int).toNat * 2, none⟩ = W.cell? ⟨go8, (x3_1 : Int).toNat * 2, none⟩ := fun W v => World.cell?_setCell_other _ _ _ _ (show (⟨go8, (x3_1 : Int).toNat * 2 + 1, none⟩ : Addr) ≠ ⟨go8, (x3_1 : Int).toNat * 2, none⟩ from by intro h; injection h with _ h2 _; omega)
        have GG8 := Aside0.mk HG8
        clear gb8 gl8 HG8
        have HMgo8 := Aside0.mk (show (P0_ go8 ∨ w.heap.size ≤ go8) from (HO_0.out.1 _ rfl))
        (first | simp only [add_plain] at hx137_0 | skip)
        (first | simp only [add_plain] at hx137_1 | skip)
        (first | simp only [add_plain] at hx138_0 | skip)
        (first | simp only [add_plain] at hx138_1 | skip)
        obtain ⟨ce8, hcl8, hM8, hcc8, hfr8⟩ := Kd.R_elem HO_0.out z38 (x2_1 : Int) p8 q8
        obtain rfl := k38_openM hM8
        have hx8_0 : World.cell? _ ⟨go8, (x2_1 : Int).toNat * 2, none⟩ = some (.int .i64 ((rd_T38 x0_1 x2_1).f0)) := hcc8 0 _ rfl
        have hx8_1 : World.cell? _ ⟨go8, (x2_1 : Int).toNat * 2 + 1, none⟩ = some (.string ((rd_T38 x0_1 x2_1).f1)) := hcc8 1 _ rfl
        have hf8_0 : World.frozen? _ ⟨go8, (x2_1 : Int).toNat * 2, none⟩ = false := hfr8 0
        have hf8_1 : World.frozen? _ ⟨go8, (x2_1 : Int).toNat * 2 + 1, none⟩ = false := hfr8 1
        clear hcl8 hcc8 hfr8 hM8
        replace p8 := eq_true p8
        replace q8 := eq_true q8
        obtain ⟨ce11, hcl11, hM11, hcc11, hfr11⟩ := Kd.R_elem HO_0.out z38 (x2_1 : Int) (of_decide_eq_true (by first | (with_reducible assumption) | assumption)) (by have h_ : (x2_1 : Int) < ((x0_1.length : Int) : Int) := of_decide_eq_true (by first | (with_reducible assumption) | assumption); first | exact h_ | (have e_ := (Kd.R_reads' HO_0.out).1; omega) | simpa using h_)
        obtain rfl := k38_openM hM11
        have HP11 := (Kd.R_seg HO_0.out (x2_1 : Int) (of_decide_eq_true (by first | (with_reducible assumption) | assumption)) (by have h_ : (x2_1 : Int) < ((x0_1.length : Int) : Int) := of_decide_eq_true (by first | (with_reducible assumption) | assumption); first | exact h_ | (have e_ := (Kd.R_reads' HO_0.out).1; omega) | simpa using h_) (seg := [.int .i64 ((rd_T38 x0_1 x3_1).f0), .string ((rd_T38 x0_1 x3_1).f1)]) (j := 0) hcl11 hcc11 (show 2 ≤ 2 from by decide) (x' := (⟨(rd_T38 x0_1 x3_1).f0, (rd_T38 x0_1 x3_1).f1⟩ : S38)) (k38_mkM _ _ _ (⟨(rd_T38 x0_1 x3_1).f0, (rd_T38 x0_1 x3_1).f1⟩ : S38) ) (fun _ hk => hk)).1
        rw [← Ny139.out] at HP11
        have HQ11 := Aside0.mk HP11
        clear hcl11 hcc11 hfr11 hM11 HP11
        have p9 : 0 ≤ (x3_1 : Int) := of_decide_eq_true (by first | (with_reducible assumption) | assumption)
        have q9 : (x3_1 : Int) < ((x0_1.length : Int) : Int) := of_decide_eq_true (by first | (with_reducible assumption) | assumption)
        obtain ⟨ce9, hcl9, hM9, hcc9, hfr9⟩ := Kd.R_elem HQ11.out z38 (x3_1 : Int) p9 q9
        obtain rfl := k38_openM hM9
        have hx9_0 : World.cell? _ ⟨go8, (x3_1 : Int).toNat * 2, none⟩ = some (.int .i64 ((rd_T38 y139 x3_1).f0)) := hcc9 0 _ rfl
        have hx9_1 : World.cell? _ ⟨go8, (x3_1 : Int).toNat * 2 + 1, none⟩ = some (.string ((rd_T38 y139 x3_1).f1)) := hcc9 1 _ rfl
        have hf9_0 : World.frozen? _ ⟨go8, (x3_1 : Int).toNat * 2, none⟩ = false := hfr9 0
        have hf9_1 : World.frozen? _ ⟨go8, (x3_1 : Int).toNat * 2 + 1, none⟩ = false := hfr9 1
        (try simp only [World.frozen?_setCells] at hf9_0 hf9_1)
        clear hcl9 hcc9 hfr9 hM9
        replace p9 := eq_true p9
        replace q9 := eq_true q9
        obtain ⟨ce12, hcl12, hM12, hcc12, hfr12⟩ := Kd.R_elem HQ11.out z38 (x3_1 : Int) (of_decide_eq_true (by first | (with_reducible assumption) | assumption)) (by have h_ : (x3_1 : Int) < ((x0_1.length : Int) : Int) := of_decide_eq_true (by first | (with_reducible assumption) | assumption); first | exact h_ | (have e_ := (Kd.R_reads' HO_0.out).1; omega) | simpa using h_)
        obtain rfl := k38_openM hM12
        have HP12 := (Kd.R_seg HQ11.out (x3_1 : Int) (of_decide_eq_true (by first | (with_reducible assumption) | assumption)) (by have h_ : (x3_1 : Int) < ((x0_1.length : Int) : Int) := of_decide_eq_true (by first | (with_reducible assumption) | assumption); first | exact h_ | (have e_ := (Kd.R_reads' HO_0.out).1; omega) | simpa using h_) (seg := [.int .i64 ((rd_T38 x0_1 x2_1).f0), .string ((rd_T38 x0_1 x2_1).f1)]) (j := 0) hcl12 hcc12 (show 2 ≤ 2 from by decide) (x' := (⟨(rd_T38 x0_1 x2_1).f0, (rd_T38 x0_1 x2_1).f1⟩ : S38)) (k38_mkM _ _ _ (⟨(rd_T38 x0_1 x2_1).f0, (rd_T38 x0_1 x2_1).f1⟩ : S38) ) (fun _ hk => hk)).1
        rw [← Ny140.out] at HP12
        have HQ12 := Aside0.mk HP12
        clear hcl12 hcc12 hfr12 hM12 HP12
        refine start_ (n := 16) (S := fun w' => w'.cell? ⟨go8, ((x3_1).toNat * 2), none⟩ = some (.int .i64 ((rd_T38 x0_1 x3_1).f0)) ∧ w'.cell? ⟨go8, ((x3_1).toNat * 2) + 1, none⟩ = some (.string ((rd_T38 x0_1 x3_1).f1)) ∧ w'.cell? ⟨go8, ((x2_1).toNat * 2), none⟩ = some (.int .i64 ((rd_T38 x0_1 x2_1).f0)) ∧ w'.cell? ⟨go8, ((x2_1).toNat * 2) + 1, none⟩ = some (.string ((rd_T38 x0_1 x2_1).f1))) (ds := [13, 15]) #[false, false, false, false, false, false, false, false, false, false, false, false, false, false, false, false] (by kernel_rfl) rfl rfl ⟨hx137_0, hx137_1, hx138_0, hx138_1⟩ (fun hHeld => ?_); refine with_tabW api_Word_73.tab3 api_Word_73.bits3 (fun HT_ HW_ => ?_)
        generalize wr.drew = w10 at HO_0 HK HB GG8 HQ11 HQ12 hf8_0 hf8_1 hf9_0 hf9_1 hx137_0 hx137_1 hx138_0 hx138_1 hx8_0 hx8_1 hx9_0 hx9_1 hHeld ⊢
        refine pure_ (i := 0) (N := some 14) (v := ?_) (a' := ?_) #[true, false, false, false, false, false, false, false, false, false, false, false, false, false, false, false] rfl rfl (any_of HT_.out (by kernel_rfl)) (fun _ _ _ h => h) (Or.inl ⟨by rfl, ?_⟩) ?_ ?_
        rotate_left
        ·intro w'
         go_simp
         with_reducible rfl
        rotate_left
        ·simp only [Act.put, List.setIfInBounds_toArray, List.set_cons_zero, List.set_cons_succ, i64_w, i32_w]
         rfl
        refine pure_ (i := 1) (N := some 15) (v := ?_) (a' := ?_) #[true, true, false, false, false, false, false, false, false, false, false, false, false, false, false, false] rfl rfl (any_of HT_.out (by kernel_rfl)) (fun _ _ _ h => h) (Or.inl ⟨by rfl, ?_⟩) ?_ ?_
        rotate_left
        ·intro w'
         go_simp
         with_reducible rfl
        rotate_left
        ·simp only [Act.put, List.setIfInBounds_toArray, List.set_cons_zero, List.set_cons_succ, i64_w, i32_w]
         rfl
        refine pure_ (i := 2) (N := some 16) (v := ?_) (a' := ?_) #[true, true, true, false, false, false, false, false, false, false, false, false, false, false, false, false] rfl rfl (any_of HT_.out (by kernel_rfl)) (fun _ _ _ h => h) (Or.inl ⟨by rfl, ?_⟩) ?_ ?_
        rotate_left
        ·intro w'
         go_simp
         with_reducible rfl
        rotate_left
        ·simp only [Act.put, List.setIfInBounds_toArray, List.set_cons_zero, List.set_cons_succ, i64_w, i32_w]
         rfl
        refine pure_ (i := 3) (N := some 17) (v := ?_) (a' := ?_) #[true, true, true, true, false, false, false, false, false, false, false, false, false, false, false, false] rfl rfl (any_of HT_.out (by kernel_rfl)) (fun _ _ _ h => h) (Or.inl ⟨by rfl, ?_⟩) ?_ ?_
        rotate_left
        ·intro w'
         go_simp
         with_reducible rfl
        rotate_left
        ·simp only [Act.put, List.setIfInBounds_toArray, List.set_cons_zero, List.set_cons_succ, i64_w, i32_w]
         rfl
        refine pure_ (i := 4) (N := some 18) (v := ?_) (a' := ?_) #[true, true, true, true, true, false, false, false, false, false, false, false, false, false, false, false] rfl rfl (any_of HT_.out (by kernel_rfl)) (fun _ _ _ h => h) (Or.inl ⟨by rfl, ?_⟩) ?_ ?_
        rotate_left
        ·intro w'
         go_simp
         with_reducible rfl
        rotate_left
        ·simp only [Act.put, List.setIfInBounds_toArray, List.set_cons_zero, List.set_cons_succ, i64_w, i32_w]
         rfl
        refine pure_ (i := 5) (N := some 19) (v := ?_) (a' := ?_) #[true, true, true, true, true, true, false, false, false, false, false, false, false, false, false, false] rfl rfl (any_of HT_.out (by kernel_rfl)) (fun _ _ _ h => h) (Or.inl ⟨by rfl, ?_⟩) ?_ ?_
        rotate_left
        ·intro w'
         go_simp
         with_reducible rfl
        rotate_left
        ·simp only [Act.put, List.setIfInBounds_toArray, List.set_cons_zero, List.set_cons_succ, i64_w, i32_w]
         rfl
        refine pure_ (i := 6) (N := some 20) (v := ?_) (a' := ?_) #[true, true, true, true, true, true, true, false, false, false, false, false, false, false, false, false] rfl rfl (any_of HT_.out (by kernel_rfl)) (fun _ _ _ h => h) (Or.inl ⟨by rfl, ?_⟩) ?_ ?_
        rotate_left
        ·intro w'
         go_simp
         with_reducible rfl
        rotate_left
        ·simp only [Act.put, List.setIfInBounds_toArray, List.set_cons_zero, List.set_cons_succ, i64_w, i32_w]
         rfl
        refine pure_ (i := 8) (N := some 22) (v := ?_) (a' := ?_) #[true, true, true, true, true, true, true, false, true, false, false, false, false, false, false, false] rfl rfl (any_of HT_.out (by kernel_rfl)) (fun _ _ _ h => h) (Or.inl ⟨by rfl, ?_⟩) ?_ ?_
        rotate_left
        ·intro w'
         go_simp
         with_reducible rfl
        rotate_left
        ·simp only [Act.put, List.setIfInBounds_toArray, List.set_cons_zero, List.set_cons_succ, i64_w, i32_w]
         rfl
        refine pure_ (i := 9) (N := some 23) (v := ?_) (a' := ?_) #[true, true, true, true, true, true, true, false, true, true, false, false, false, false, false, false] rfl rfl (any_of HT_.out (by kernel_rfl)) (fun _ _ _ h => h) (Or.inl ⟨by rfl, ?_⟩) ?_ ?_
        rotate_left
        ·intro w'
         go_simp
         with_reducible rfl
        rotate_left
        ·simp only [Act.put, List.setIfInBounds_toArray, List.set_cons_zero, List.set_cons_succ, i64_w, i32_w]
         rfl
        refine pure_ (i := 10) (N := some 24) (v := ?_) (a' := ?_) #[true, true, true, true, true, true, true, false, true, true, true, false, false, false, false, false] rfl rfl (any_of HT_.out (by kernel_rfl)) (fun _ _ _ h => h) (Or.inl ⟨by rfl, ?_⟩) ?_ ?_
        rotate_left
        ·intro w'
         go_simp
         with_reducible rfl
        rotate_left
        ·simp only [Act.put, List.setIfInBounds_toArray, List.set_cons_zero, List.set_cons_succ, i64_w, i32_w]
         rfl
        refine take_ (i := 7) (N := some 21) (v := ?_) (a' := ?_) #[true, true, true, true, true, true, true, true, true, true, true, false, false, false, false, false] rfl rfl (take_ofW HT_.out HW_.out (by kernel_rfl)) (fun _ _ _ h => h) (Or.inl ⟨by rfl, ?_⟩) hHeld ?_ ?_
        rotate_left
        ·rintro w' ⟨s0, s1, s2, s3⟩
         go_simp
         with_reducible rfl
        rotate_left
        ·simp only [Act.put, List.setIfInBounds_toArray, List.set_cons_zero, List.set_cons_succ, i64_w, i32_w]
         rfl
        refine take_ (i := 11) (N := some 25) (v := ?_) (a' := ?_) #[true, true, true, true, true, true, true, true, true, true, true, true, false, false, false, false] rfl rfl (take_ofW HT_.out HW_.out (by kernel_rfl)) (fun _ _ _ h => h) (Or.inl ⟨by rfl, ?_⟩) hHeld ?_ ?_
        rotate_left
        ·rintro w' ⟨s0, s1, s2, s3⟩
         go_simp
         with_reducible rfl
        rotate_left
        ·simp only [Act.put, List.setIfInBounds_toArray, List.set_cons_zero, List.set_cons_succ, i64_w, i32_w]
         rfl
        refine pure_ (i := 12) (N := some 26) (v := ?_) (a' := ?_) #[true, true, true, true, true, true, true, true, true, true, true, true, true, false, false, false] rfl rfl (any_of HT_.out (by kernel_rfl)) (fun _ _ _ h => h) (Or.inl ⟨by rfl, ?_⟩) ?_ ?_
        rotate_left
        ·intro w'
         go_simp
         with_reducible rfl
        rotate_left
        ·simp only [Act.put, List.setIfInBounds_toArray, List.set_cons_zero, List.set_cons_succ, i64_w, i32_w]
         rfl
        refine last_ (i := 13) (N := none) #[true, true, true, true, true, true, true, true, true, true, true, true, true, true, false, false] rfl rfl (one_of HT_.out (by kernel_rfl)) (by decide) (fun K hK => ?_)
        refine skip_ (w1 := ?_) (by rfl) rfl ?_ ?_
        rotate_left
        ·go_simp
         rfl
        refine hK.out _ _ ?_
        clear hK K
        refine pure_ (i := 14) (N := some 27) (v := ?_) (a' := ?_) #[true, true, true, true, true, true, true, true, true, true, true, true, true, true, true, false] rfl rfl (any_of HT_.out (by kernel_rfl)) (fun _ _ _ h => h) (Or.inl ⟨by rfl, ?_⟩) ?_ ?_
        rotate_left
        ·intro w'
         go_simp
         with_reducible rfl
        rotate_left
        ·simp only [Act.put, List.setIfInBounds_toArray, List.set_cons_zero, List.set_cons_succ, i64_w, i32_w]
         rfl
        refine last_ (i := 15) (N := none) #[true, true, true, true, true, true, true, true, true, true, true, true, true, true, true, true] rfl rfl (one_of HT_.out (by kernel_rfl)) (by decide) (fun K hK => ?_)
        refine skip_ (w1 := ?_) (by rfl) rfl ?_ ?_
        rotate_left
        ·go_simp
         rfl
        refine hK.out _ _ ?_
        clear hK K
        refine done_ (done_of HT_.out (by kernel_rfl)) ?_
        try go_wp2
        (try simp only [← hl0_1])
        go_roundg k1
        case measure => have := HK1.out; omega
        case rel => exact ⟨(y140), (wrap64 (x2_1 + 1)), (wrap64 (x3_1 - 1)), (by first | rfl | (simp; done) | (simp [*]; done) | (simp; exact isEmpty_bne _)), (by first | rfl | (simp; done) | (simp [*]; done) | (simp; exact isEmpty_bne _)), H', ⟨by have := HK1.out; omega⟩, ⟨by (try simp only [hl0_1]); (with_reducible repeat (first | apply Kd.R_alloc | apply Kd.R_drewN | apply Kd.R_drew)); exact HQ12.out⟩, ⟨by repeat (first | (with_reducible first | exact HK.out | apply Kept.alloc | apply Kept.drewN | apply Kept.drew | refine Kept.setCell ?_ HMgo8.out _ | refine Kept.setCell ?_ HMgo8.out _ | refine Kept.setCell ?_ HMgo8.out _ | refine Kept.setCell ?_ HMgo8.out _) | exact HK.out)⟩, ⟨by repeat (first | (with_reducible first | exact HB.out | apply below_alloc | apply pw_below_drewN | apply below_drew1 | refine below_set ?_ GB8.out | refine below_set ?_ GB8.out | refine below_set ?_ GB8.out | refine below_set ?_ GB8.out) | exact HB.out)⟩⟩
       ·rw [if_neg c7] at H
        exact absurd H (by simp)
      ·rw [if_neg c6] at H
       exact absurd H (by simp)
     ·rw [if_neg c5] at H
      exact absurd H (by simp)
    ·rw [if_neg c4] at H
     exact absurd H (by simp)
   ·rw [if_neg c3] at H
    have c3b0 : decide (x2_1 < x3_1) = false := decide_eq_false c3
    clear c3
    obtain rfl := Option.some.inj H
    go_wp2
    first | go_end0 | ((try simp only [Exit.inBlock, Exit.then]); refine bodyPost_ret (results_none rfl _ _ _) rfl ?_)
    exact ⟨by first | rfl | (simp [errW_none, errW_some] <;> rfl) | (simp [*, errW_none, errW_some] <;> rfl), (by first | exact (by (with_reducible repeat (first | apply Kd.R_alloc | apply Kd.R_drewN | apply Kd.R_drew)); exact HO_0.out) | (simp only [hl0_1]; exact (by (with_reducible repeat (first | apply Kd.R_alloc | apply Kd.R_drewN | apply Kd.R_drew)); exact HO_0.out))), by repeat (first | (with_reducible first | exact HB.out | apply below_alloc | apply pw_below_drewN | apply below_drew1) | exact HB.out), by repeat (first | (with_reducible first | exact HK.out | apply Kept.alloc | apply Kept.drewN | apply Kept.drew) | exact HK.out)⟩

end Go.Proofs.YtgdjfcmmpjcaaaaDoor.Q

-- Printed by this session's wip/np.py over the kit's print program. Not trusted: Lean checks it.
namespace Go.Proofs.YtgdjfcmmpjcaaaaDoor.Q
open Go.RowKit Go.Proofs.YtgdjfcmmpjcaaaaDoorW.PrintWords Go.Proofs.YtgdjfcmmpjcaaaaDoorW.PrintLast Go.Proofs.YtgdjfcmmpjcaaaaDoorW.Own Go.Proofs.YtgdjfcmmpjcaaaaDoorW.PrintMore
attribute [local go_sem] max2_int min2_int max_two min_two max_three min_three max_four min_four
set_option linter.unusedVariables false
set_option linter.unusedSimpArgs false

/-! ### words_letters: function 107 -/
mutual
def words_letters.j0 : Nat → ByteArray → ByteArray → Bool → Bool → Option (Int × ByteArray)
 | 0, _, _, _, _ => none
 | k + 1, x3, x142000, x142001, x142002 => if x3.toList = ([97, 108, 112, 104, 97] : List UInt8) then (some (1, (⟨#[]⟩ : ByteArray))) else (if x3.toList = ([98, 101, 116, 97] : List UInt8) then (some (2, (⟨#[]⟩ : ByteArray))) else (if x3.toList = ([109, 105, 108, 101, 115, 116, 111, 110, 101] : List UInt8) then (some (3, (⟨#[]⟩ : ByteArray))) else (if x3.toList = ([114, 99] : List UInt8) then (words_letters.j1 k x3 (x3.toList == ([114, 99] : List UInt8)) x142000 x142001 x142002) else (words_letters.j1 k x3 (x3.toList == ([99, 114] : List UInt8)) x142000 x142001 x142002))))
def words_letters.j1 : Nat → ByteArray → Bool → ByteArray → Bool → Bool → Option (Int × ByteArray)
 | 0, _, _, _, _, _ => none
 | k + 1, x16, x26, x142000, x142001, x142002 => if x26 = true then (some (4, (⟨#[]⟩ : ByteArray))) else (if x16.toList = ([115, 110, 97, 112, 115, 104, 111, 116] : List UInt8) then (some (5, (⟨#[]⟩ : ByteArray))) else (if x16.toList = ([103, 97] : List UInt8) then (words_letters.j2 k x16 (x16.toList == ([103, 97] : List UInt8)) x142000 x142001 x142002) else (if x16.toList = ([102, 105, 110, 97, 108] : List UInt8) then (words_letters.j2 k x16 (x16.toList == ([102, 105, 110, 97, 108] : List UInt8)) x142000 x142001 x142002) else (words_letters.j2 k x16 (x16.toList == ([114, 101, 108, 101, 97, 115, 101] : List UInt8)) x142000 x142001 x142002))))
def words_letters.j2 : Nat → ByteArray → Bool → ByteArray → Bool → Bool → Option (Int × ByteArray)
 | 0, _, _, _, _, _ => none
 | k + 1, x16, x31, x142000, x142001, x142002 => if x31 = true then (some (6, (⟨#[]⟩ : ByteArray))) else (if x16.toList = ([115, 112] : List UInt8) then (some (7, (⟨#[]⟩ : ByteArray))) else (some (8, x142000)))
end
def words_letters.f (k : Nat) (a0_0 : ByteArray) (a0_1 : Bool) (a0_2 : Bool) : Option (Int × ByteArray) := if a0_2 = true then (if a0_0.toList = ([97] : List UInt8) then (words_letters.j0 k (⟨#[97, 108, 112, 104, 97]⟩ : ByteArray) a0_0 a0_1 a0_2) else (if a0_0.toList = ([98] : List UInt8) then (words_letters.j0 k (⟨#[98, 101, 116, 97]⟩ : ByteArray) a0_0 a0_1 a0_2) else (if a0_0.toList = ([109] : List UInt8) then (words_letters.j0 k (⟨#[109, 105, 108, 101, 115, 116, 111, 110, 101]⟩ : ByteArray) a0_0 a0_1 a0_2) else (words_letters.j0 k a0_0 a0_0 a0_1 a0_2)))) else (words_letters.j0 k a0_0 a0_0 a0_1 a0_2)
theorem words_letters.mono_l : ∀ k, (∀ y0 y1 y2 y3, LeO (words_letters.j0 k y0 y1 y2 y3) (words_letters.j0 (k + 1) y0 y1 y2 y3)) ∧ (∀ y0 y1 y2 y3 y4, LeO (words_letters.j1 k y0 y1 y2 y3 y4) (words_letters.j1 (k + 1) y0 y1 y2 y3 y4)) ∧ (∀ y0 y1 y2 y3 y4, LeO (words_letters.j2 k y0 y1 y2 y3 y4) (words_letters.j2 (k + 1) y0 y1 y2 y3 y4))
 | 0 => ⟨fun _ _ _ _ r h => by simp [words_letters.j0] at h, fun _ _ _ _ _ r h => by simp [words_letters.j1] at h, fun _ _ _ _ _ r h => by simp [words_letters.j2] at h⟩
 | k + 1 => by
  obtain ⟨ih0, ih1, ih2⟩ := words_letters.mono_l k
  refine ⟨?_, ?_, ?_⟩
  ·intro y0 y1 y2 y3
   unfold words_letters.j0
   repeat' first
   | (with_reducible exact ih0 _ _ _ _)
   | (with_reducible exact ih1 _ _ _ _ _)
   | (with_reducible exact ih2 _ _ _ _ _)
   | (with_reducible exact LeO.refl _)
   | (with_reducible exact LeO.none _)
   | (with_reducible refine LeO.ite ?_ ?_)
   | (with_reducible refine LeO.bind ?_ (fun _ => ?_))
   | exact ih0 _ _ _ _
   | exact ih1 _ _ _ _ _
   | exact ih2 _ _ _ _ _
   | exact LeO.none _
   | refine LeO.ite ?_ ?_
   | refine LeO.bind ?_ (fun _ => ?_)
  ·intro y0 y1 y2 y3 y4
   unfold words_letters.j1
   repeat' first
   | (with_reducible exact ih0 _ _ _ _)
   | (with_reducible exact ih1 _ _ _ _ _)
   | (with_reducible exact ih2 _ _ _ _ _)
   | (with_reducible exact LeO.refl _)
   | (with_reducible exact LeO.none _)
   | (with_reducible refine LeO.ite ?_ ?_)
   | (with_reducible refine LeO.bind ?_ (fun _ => ?_))
   | exact ih0 _ _ _ _
   | exact ih1 _ _ _ _ _
   | exact ih2 _ _ _ _ _
   | exact LeO.none _
   | refine LeO.ite ?_ ?_
   | refine LeO.bind ?_ (fun _ => ?_)
  ·intro y0 y1 y2 y3 y4
   unfold words_letters.j2
   repeat' first
   | (with_reducible exact ih0 _ _ _ _)
   | (with_reducible exact ih1 _ _ _ _ _)
   | (with_reducible exact ih2 _ _ _ _ _)
   | (with_reducible exact LeO.refl _)
   | (with_reducible exact LeO.none _)
   | (with_reducible refine LeO.ite ?_ ?_)
   | (with_reducible refine LeO.bind ?_ (fun _ => ?_))
   | exact ih0 _ _ _ _
   | exact ih1 _ _ _ _ _
   | exact ih2 _ _ _ _ _
   | exact LeO.none _
   | refine LeO.ite ?_ ?_
   | refine LeO.bind ?_ (fun _ => ?_)
theorem words_letters.mono : ∀ a0 a1 a2 k, LeO (words_letters.f k a0 a1 a2) (words_letters.f (k + 1) a0 a1 a2) := by
 intro a0 a1 a2 k
 obtain ⟨ih0, ih1, ih2⟩ := words_letters.mono_l k
 unfold words_letters.f
 repeat' first
  | (with_reducible exact ih0 _ _ _ _)
  | (with_reducible exact ih1 _ _ _ _ _)
  | (with_reducible exact ih2 _ _ _ _ _)
  | (with_reducible exact LeO.refl _)
  | (with_reducible exact LeO.none _)
  | (with_reducible refine LeO.ite ?_ ?_)
  | (with_reducible refine LeO.bind ?_ (fun _ => ?_))
  | exact ih0 _ _ _ _
  | exact ih1 _ _ _ _ _
  | exact ih2 _ _ _ _ _
  | exact LeO.none _
  | refine LeO.ite ?_ ?_
  | refine LeO.bind ?_ (fun _ => ?_)
set_option maxHeartbeats 8000000 in
set_option maxRecDepth 100000 in
theorem words_letters.calls (k : Nat) (a0_0 : ByteArray) (a0_1 : Bool) (a0_2 : Bool) (r1 : Int) (r2 : ByteArray) (w : World) (hG : Glob w) (h : words_letters.f k a0_0 a0_1 a0_2 = some (r1, r2)) :
 Calls Tryd.prog 107 #[.agg #[.string a0_0, .bool a0_1, .bool a0_2]] w fun e w' => e = .returned (.agg #[.int .i64 r1, .string r2]) ∧ Below w.heap.size w w' := by
 have hu93 := Tryd.underlying93
 have hu38 := Tryd.underlying38
 have HG := Aside0.mk hG
 clear hG
 have HB := Aside0.mk (Below.refl w.heap.size w)
 have H : (if a0_2 = true then (if a0_0.toList = ([97] : List UInt8) then (words_letters.j0 k (⟨#[97, 108, 112, 104, 97]⟩ : ByteArray) a0_0 a0_1 a0_2) else (if a0_0.toList = ([98] : List UInt8) then (words_letters.j0 k (⟨#[98, 101, 116, 97]⟩ : ByteArray) a0_0 a0_1 a0_2) else (if a0_0.toList = ([109] : List UInt8) then (words_letters.j0 k (⟨#[109, 105, 108, 101, 115, 116, 111, 110, 101]⟩ : ByteArray) a0_0 a0_1 a0_2) else (words_letters.j0 k a0_0 a0_0 a0_1 a0_2)))) else (words_letters.j0 k a0_0 a0_0 a0_1 a0_2)) = some (r1, r2) := h
 clear h
 have HC2 := Aside0.mk H
 clear H
 go_enter Tryd.func107, Tryd.ntmps107
 go_upto_if 8 with (first | ((with_reducible refine gate_dst (N := 1) rfl ?_); refine box_event ?hg (N := 1) ?hd (cs := #[.string a0_0, .bool a0_1, .bool a0_2]) (t := 93) ?hr ?_; (case hd => rfl); (case hg => rfl); (case hr => first | (go_simp; done) | (go_simp; rfl)); intro gb141 hg w3 hbox hb; have n0_ := Aside0.mk (below_step (by repeat (first | (with_reducible first | exact HB.out | apply below_alloc | apply pw_below_drewN | apply below_drew1) | exact HB.out)) hb); have n1_ := Aside0.mk (hbox); have n2_ := Aside0.mk ((by rw [hg]; exact (below_size (by repeat (first | (with_reducible first | exact HB.out | apply below_alloc | apply pw_below_drewN | apply below_drew1) | exact HB.out))) : w.heap.size ≤ gb141)); have n3_ := Aside0.mk ((by rw [hg]; exact (below_size (by repeat (first | (with_reducible first | exact HB.out | apply below_alloc | apply pw_below_drewN | apply below_drew1) | exact HB.out))) : w.heap.size ≤ gb141)); clear HB; have HB := n0_; have BK141 := n1_; have GW141 := n2_; have GE141 := n3_; clear n0_ n1_ n2_ n3_; clear hb hbox hg) | ((with_reducible refine gate_dst (N := 2) rfl ?_); refine box_event ?hg (N := 2) ?hd (cs := #[.int .i64 0, .string (⟨#[]⟩ : ByteArray)]) (t := 38) ?hr ?_; (case hd => rfl); (case hg => rfl); (case hr => first | (go_simp; done) | (go_simp; rfl)); intro gb142 hg w4 hbox hb; have n0_ := Aside0.mk (blk_below (g := gb141) (o := .cells #[.string a0_0, .bool a0_1, .bool a0_2] 93 (0, 0)) (by (with_reducible repeat (first | refine blk_drewN ?_ _ | refine blk_drew ?_ | refine blk_alloc ?_ _)); exact BK141.out) hb); have n1_ := Aside0.mk (below_step (by repeat (first | (with_reducible first | exact HB.out | apply below_alloc | apply pw_below_drewN | apply below_drew1 | refine below_set ?_ GE141.out) | exact HB.out)) hb); have n2_ := Aside0.mk (hbox); have n3_ := Aside0.mk ((by rw [hg]; exact (below_size (by repeat (first | (with_reducible first | exact HB.out | apply below_alloc | apply pw_below_drewN | apply below_drew1 | refine below_set ?_ GE141.out) | exact HB.out))) : w.heap.size ≤ gb142)); have n4_ := Aside0.mk ((by rw [hg]; exact (below_size (by repeat (first | (with_reducible first | exact HB.out | apply below_alloc | apply pw_below_drewN | apply below_drew1 | refine below_set ?_ GE141.out) | exact HB.out))) : w.heap.size ≤ gb142)); have n5_ := Aside0.mk ((by rw [hg]; exact Nat.ne_of_lt (blk_lt (g := gb141) (o := .cells #[.string a0_0, .bool a0_1, .bool a0_2] 93 (0, 0)) (by (with_reducible repeat (first | refine blk_drewN ?_ _ | refine blk_drew ?_ | refine blk_alloc ?_ _)); exact BK141.out)) : gb141 ≠ gb142)); have n6_ := Aside0.mk ((by rw [hg]; exact Nat.ne_of_gt (blk_lt (g := gb141) (o := .cells #[.string a0_0, .bool a0_1, .bool a0_2] 93 (0, 0)) (by (with_reducible repeat (first | refine blk_drewN ?_ _ | refine blk_drew ?_ | refine blk_alloc ?_ _)); exact BK141.out)) : gb142 ≠ gb141)); clear BK141; clear HB; have BK141 := n0_; have HB := n1_; have BK142 := n2_; have GW142 := n3_; have GE142 := n4_; have NB141_142 := n5_; have NB142_141 := n6_; clear n0_ n1_ n2_ n3_ n4_ n5_ n6_; clear hb hbox hg; have hnb5 := NB141_142.out; have hnc5 := NB142_141.out; have hcz6_0 : w4.cell? ⟨gb141, 0, none⟩ = some (.string a0_0) := (blk_cell BK141.out 0).trans rfl; have hcz6_1 : w4.cell? ⟨gb141, 1, none⟩ = some (.bool a0_1) := (blk_cell BK141.out 1).trans rfl; have hcz6_2 : w4.cell? ⟨gb141, 2, none⟩ = some (.bool a0_2) := (blk_cell BK141.out 2).trans rfl; have hfz6_0 := blk_frozen BK141.out 0; have hfz6_1 := blk_frozen BK141.out 1; have hfz6_2 := blk_frozen BK141.out 2))
 (try simp only [Act.put, List.setIfInBounds_toArray, List.set_cons_zero, List.set_cons_succ])
 go_cut [3] (fun v3 wc => ∃ (kq : Nat) (x3_1 : ByteArray), v3 = .string x3_1 ∧ Aside0 (words_letters.j0 kq x3_1 a0_0 a0_1 a0_2 = some (r1, r2)) ∧ Aside0 (kq ≤ k) ∧ Aside0 (wc.heap[gb141]? = some (.cells #[.string a0_0, .bool a0_1, .bool a0_2] 93 (0, 0))) ∧ Aside0 (wc.heap[gb142]? = some (.cells #[.int .i64 0, .string (⟨#[]⟩ : ByteArray)] 38 (0, 0))) ∧ Aside0 (Below w.heap.size w wc))
 case first =>
  have H := HC2.out
  clear HC2
  by_cases c7 : a0_2 = true
  ·subst c7
   have H1 : (if a0_0.toList = ([97] : List UInt8) then (words_letters.j0 k (⟨#[97, 108, 112, 104, 97]⟩ : ByteArray) a0_0 a0_1 true) else (if a0_0.toList = ([98] : List UInt8) then (words_letters.j0 k (⟨#[98, 101, 116, 97]⟩ : ByteArray) a0_0 a0_1 true) else (if a0_0.toList = ([109] : List UInt8) then (words_letters.j0 k (⟨#[109, 105, 108, 101, 115, 116, 111, 110, 101]⟩ : ByteArray) a0_0 a0_1 true) else (words_letters.j0 k a0_0 a0_0 a0_1 true)))) = some (r1, r2) := by rw [if_pos rfl] at H; exact H
   clear H
   have H := H1
   clear H1
   by_cases c8 : a0_0.toList = ([97] : List UInt8)
   ·rw [if_pos c8] at H
    have c8b0 : (a0_0.toList == ([97] : List UInt8)) = true := beq_iff_eq.mpr c8
    have c8b1 : (a0_0.toList != ([97] : List UInt8)) = false := bne_eq_false_iff_eq.mpr c8
    clear c8
    (first | rw [c8b0] | (simp only [i64_w, i32_w]; rw [c8b0]) | skip)
    have H' := Aside0.mk H
    clear H
    go_wp2
    go_meet
    case rel => exact ⟨_, ((⟨#[97, 108, 112, 104, 97]⟩ : ByteArray)), (by first | rfl | (simp; done) | (simp [*]; done) | (simp; exact isEmpty_bne _)), H', ⟨by first | omega | exact Nat.le_refl _⟩, ⟨by (with_reducible repeat (first | refine blk_drewN ?_ _ | refine blk_drew ?_ | refine blk_alloc ?_ _)); exact BK141.out⟩, ⟨by (with_reducible repeat (first | refine blk_drewN ?_ _ | refine blk_drew ?_ | refine blk_alloc ?_ _)); exact BK142.out⟩, ⟨by repeat (first | (with_reducible first | exact HB.out | apply below_alloc | apply pw_below_drewN | apply below_drew1 | refine below_set ?_ GE141.out | refine below_set ?_ GE142.out) | exact HB.out)⟩⟩
   ·rw [if_neg c8] at H
    have c8b0 : (a0_0.toList == ([97] : List UInt8)) = false := beq_eq_false_iff_ne.mpr c8
    have c8b1 : (a0_0.toList != ([97] : List UInt8)) = true := bne_iff_ne.mpr c8
    (first | rw [c8b0] | (simp only [i64_w, i32_w]; rw [c8b0]) | skip)
    by_cases c9 : a0_0.toList = ([98] : List UInt8)
    ·rw [if_pos c9] at H
     have c9b0 : (a0_0.toList == ([98] : List UInt8)) = true := beq_iff_eq.mpr c9
     have c9b1 : (a0_0.toList != ([98] : List UInt8)) = false := bne_eq_false_iff_eq.mpr c9
     clear c9
     have H' := Aside0.mk H
     clear H
     go_wp2
     go_meet
     case rel => exact ⟨_, ((⟨#[98, 101, 116, 97]⟩ : ByteArray)), (by first | rfl | (simp; done) | (simp [*]; done) | (simp; exact isEmpty_bne _)), H', ⟨by first | omega | exact Nat.le_refl _⟩, ⟨by (with_reducible repeat (first | refine blk_drewN ?_ _ | refine blk_drew ?_ | refine blk_alloc ?_ _)); exact BK141.out⟩, ⟨by (with_reducible repeat (first | refine blk_drewN ?_ _ | refine blk_drew ?_ | refine blk_alloc ?_ _)); exact BK142.out⟩, ⟨by repeat (first | (with_reducible first | exact HB.out | apply below_alloc | apply pw_below_drewN | apply below_drew1 | refine below_set ?_ GE141.out | refine below_set ?_ GE142.out) | exact HB.out)⟩⟩
    ·rw [if_neg c9] at H
     have c9b0 : (a0_0.toList == ([98] : List UInt8)) = false := beq_eq_false_iff_ne.mpr c9
     have c9b1 : (a0_0.toList != ([98] : List UInt8)) = true := bne_iff_ne.mpr c9
     by_cases c10 : a0_0.toList = ([109] : List UInt8)
     ·rw [if_pos c10] at H
      have c10b0 : (a0_0.toList == ([109] : List UInt8)) = true := beq_iff_eq.mpr c10
      have c10b1 : (a0_0.toList != ([109] : List UInt8)) = false := bne_eq_false_iff_eq.mpr c10
      clear c10
      have H' := Aside0.mk H
      clear H
      go_wp2
      go_meet
      case rel => exact ⟨_, ((⟨#[109, 105, 108, 101, 115, 116, 111, 110, 101]⟩ : ByteArray)), (by first | rfl | (simp; done) | (simp [*]; done) | (simp; exact isEmpty_bne _)), H', ⟨by first | omega | exact Nat.le_refl _⟩, ⟨by (with_reducible repeat (first | refine blk_drewN ?_ _ | refine blk_drew ?_ | refine blk_alloc ?_ _)); exact BK141.out⟩, ⟨by (with_reducible repeat (first | refine blk_drewN ?_ _ | refine blk_drew ?_ | refine blk_alloc ?_ _)); exact BK142.out⟩, ⟨by repeat (first | (with_reducible first | exact HB.out | apply below_alloc | apply pw_below_drewN | apply below_drew1 | refine below_set ?_ GE141.out | refine below_set ?_ GE142.out) | exact HB.out)⟩⟩
     ·rw [if_neg c10] at H
      have c10b0 : (a0_0.toList == ([109] : List UInt8)) = false := beq_eq_false_iff_ne.mpr c10
      have c10b1 : (a0_0.toList != ([109] : List UInt8)) = true := bne_iff_ne.mpr c10
      have H' := Aside0.mk H
      clear H
      go_wp2
      go_meet
      case rel => exact ⟨_, (a0_0), (by first | rfl | (simp; done) | (simp [*]; done) | (simp; exact isEmpty_bne _)), H', ⟨by first | omega | exact Nat.le_refl _⟩, ⟨by (with_reducible repeat (first | refine blk_drewN ?_ _ | refine blk_drew ?_ | refine blk_alloc ?_ _)); exact BK141.out⟩, ⟨by (with_reducible repeat (first | refine blk_drewN ?_ _ | refine blk_drew ?_ | refine blk_alloc ?_ _)); exact BK142.out⟩, ⟨by repeat (first | (with_reducible first | exact HB.out | apply below_alloc | apply pw_below_drewN | apply below_drew1 | refine below_set ?_ GE141.out | refine below_set ?_ GE142.out) | exact HB.out)⟩⟩
  ·replace c7 := Bool.eq_false_iff.mpr c7
   subst c7
   have H1 : (words_letters.j0 k a0_0 a0_0 a0_1 false) = some (r1, r2) := by rw [if_neg (show ¬ (false = true) by decide)] at H; exact H
   clear H
   have H := H1
   clear H1
   have H' := Aside0.mk H
   clear H
   go_wp2
   go_meet
   case rel => exact ⟨_, (a0_0), (by first | rfl | (simp; done) | (simp [*]; done) | (simp; exact isEmpty_bne _)), H', ⟨by first | omega | exact Nat.le_refl _⟩, ⟨by (with_reducible repeat (first | refine blk_drewN ?_ _ | refine blk_drew ?_ | refine blk_alloc ?_ _)); exact BK141.out⟩, ⟨by (with_reducible repeat (first | refine blk_drewN ?_ _ | refine blk_drew ?_ | refine blk_alloc ?_ _)); exact BK142.out⟩, ⟨by repeat (first | (with_reducible first | exact HB.out | apply below_alloc | apply pw_below_drewN | apply below_drew1 | refine below_set ?_ GE141.out | refine below_set ?_ GE142.out) | exact HB.out)⟩⟩
 case rest =>
  clear HC2
  try clear c1
  try clear p2
  try clear c5
  try clear c7
  try clear c8
  try clear c8b0
  try clear c8b1
  try clear c9
  try clear c9b0
  try clear c9b1
  try clear c10
  try clear c10b0
  try clear c10b1
  try clear hcz6_0
  try clear hcz6_1
  try clear hcz6_2
  try clear hfz6_0
  try clear hfz6_1
  try clear hfz6_2
  obtain ⟨kq, x3_1, rfl, HA, HJ1, BK141, BK142, HB⟩ := hcut
  cases kq with
  | zero => exact absurd HA.out (by simp [words_letters.j0])
  | succ kj1 =>
   have H := HA.out
   clear HA
   simp only [words_letters.j0] at H
   (try simp only [toList_lit] at H)
   by_cases c11 : x3_1.toList = ([97, 108, 112, 104, 97] : List UInt8)
   ·rw [if_pos c11] at H
    have c11b0 : (x3_1.toList == ([97, 108, 112, 104, 97] : List UInt8)) = true := beq_iff_eq.mpr c11
    have c11b1 : (x3_1.toList != ([97, 108, 112, 104, 97] : List UInt8)) = false := bne_eq_false_iff_eq.mpr c11
    clear c11
    simp only [Option.some.injEq, Prod.mk.injEq] at H
    obtain ⟨rfl, rfl⟩ := H
    have hnb12 := NB142_141.out
    have hnc12 := NB141_142.out
    have hcz13_0 : wc.cell? ⟨gb142, 0, none⟩ = some (.int .i64 0) := (blk_cell BK142.out 0).trans rfl
    have hcz13_1 : wc.cell? ⟨gb142, 1, none⟩ = some (.string (⟨#[]⟩ : ByteArray)) := (blk_cell BK142.out 1).trans rfl
    have hfz13_0 := blk_frozen BK142.out 0
    have hfz13_1 := blk_frozen BK142.out 1
    go_wp2
    refine bodyPost_ret (results_cell_row rfl _ _ gb142 38 #[.int .i64 1, .string (⟨#[]⟩ : ByteArray)] (0, 0) _ rfl (by (with_reducible repeat (first | refine blk_drewN ?_ _ | refine blk_drew ?_ | refine blk_alloc ?_ _)); refine blk_put (cs := #[.int .i64 1, .string (⟨#[]⟩ : ByteArray)]) ?_ 1 _ rfl; (with_reducible repeat (first | refine blk_drewN ?_ _ | refine blk_drew ?_ | refine blk_alloc ?_ _)); refine blk_put (cs := #[.int .i64 0, .string (⟨#[]⟩ : ByteArray)]) ?_ 0 _ rfl; (with_reducible repeat (first | refine blk_drewN ?_ _ | refine blk_drew ?_ | refine blk_alloc ?_ _)); exact BK142.out) Tryd.underlying38 rfl (by kernel_rfl)) rfl ?_
    exact ⟨by first | rfl | (simp [errW_none, errW_some] <;> rfl) | (simp [*, errW_none, errW_some] <;> rfl), by repeat (first | (with_reducible first | exact HB.out | apply below_alloc | apply pw_below_drewN | apply below_drew1 | refine below_set ?_ GE141.out | refine below_set ?_ GE142.out) | exact HB.out)⟩
   ·rw [if_neg c11] at H
    have c11b0 : (x3_1.toList == ([97, 108, 112, 104, 97] : List UInt8)) = false := beq_eq_false_iff_ne.mpr c11
    have c11b1 : (x3_1.toList != ([97, 108, 112, 104, 97] : List UInt8)) = true := bne_iff_ne.mpr c11
    by_cases c14 : x3_1.toList = ([98, 101, 116, 97] : List UInt8)
    ·rw [if_pos c14] at H
     have c14b0 : (x3_1.toList == ([98, 101, 116, 97] : List UInt8)) = true := beq_iff_eq.mpr c14
     have c14b1 : (x3_1.toList != ([98, 101, 116, 97] : List UInt8)) = false := bne_eq_false_iff_eq.mpr c14
     clear c14
     simp only [Option.some.injEq, Prod.mk.injEq] at H
     obtain ⟨rfl, rfl⟩ := H
     have hnb15 := NB142_141.out
     have hnc15 := NB141_142.out
     have hcz16_0 : wc.cell? ⟨gb142, 0, none⟩ = some (.int .i64 0) := (blk_cell BK142.out 0).trans rfl
     have hcz16_1 : wc.cell? ⟨gb142, 1, none⟩ = some (.string (⟨#[]⟩ : ByteArray)) := (blk_cell BK142.out 1).trans rfl
     have hfz16_0 := blk_frozen BK142.out 0
     have hfz16_1 := blk_frozen BK142.out 1
     go_wp2
     refine bodyPost_ret (results_cell_row rfl _ _ gb142 38 #[.int .i64 2, .string (⟨#[]⟩ : ByteArray)] (0, 0) _ rfl (by (with_reducible repeat (first | refine blk_drewN ?_ _ | refine blk_drew ?_ | refine blk_alloc ?_ _)); refine blk_put (cs := #[.int .i64 2, .string (⟨#[]⟩ : ByteArray)]) ?_ 1 _ rfl; (with_reducible repeat (first | refine blk_drewN ?_ _ | refine blk_drew ?_ | refine blk_alloc ?_ _)); refine blk_put (cs := #[.int .i64 0, .string (⟨#[]⟩ : ByteArray)]) ?_ 0 _ rfl; (with_reducible repeat (first | refine blk_drewN ?_ _ | refine blk_drew ?_ | refine blk_alloc ?_ _)); exact BK142.out) Tryd.underlying38 rfl (by kernel_rfl)) rfl ?_
     exact ⟨by first | rfl | (simp [errW_none, errW_some] <;> rfl) | (simp [*, errW_none, errW_some] <;> rfl), by repeat (first | (with_reducible first | exact HB.out | apply below_alloc | apply pw_below_drewN | apply below_drew1 | refine below_set ?_ GE141.out | refine below_set ?_ GE142.out) | exact HB.out)⟩
    ·rw [if_neg c14] at H
     have c14b0 : (x3_1.toList == ([98, 101, 116, 97] : List UInt8)) = false := beq_eq_false_iff_ne.mpr c14
     have c14b1 : (x3_1.toList != ([98, 101, 116, 97] : List UInt8)) = true := bne_iff_ne.mpr c14
     by_cases c17 : x3_1.toList = ([109, 105, 108, 101, 115, 116, 111, 110, 101] : List UInt8)
     ·rw [if_pos c17] at H
      have c17b0 : (x3_1.toList == ([109, 105, 108, 101, 115, 116, 111, 110, 101] : List UInt8)) = true := beq_iff_eq.mpr c17
      have c17b1 : (x3_1.toList != ([109, 105, 108, 101, 115, 116, 111, 110, 101] : List UInt8)) = false := bne_eq_false_iff_eq.mpr c17
      clear c17
      simp only [Option.some.injEq, Prod.mk.injEq] at H
      obtain ⟨rfl, rfl⟩ := H
      have hnb18 := NB142_141.out
      have hnc18 := NB141_142.out
      have hcz19_0 : wc.cell? ⟨gb142, 0, none⟩ = some (.int .i64 0) := (blk_cell BK142.out 0).trans rfl
      have hcz19_1 : wc.cell? ⟨gb142, 1, none⟩ = some (.string (⟨#[]⟩ : ByteArray)) := (blk_cell BK142.out 1).trans rfl
      have hfz19_0 := blk_frozen BK142.out 0
      have hfz19_1 := blk_frozen BK142.out 1
      go_wp2
      refine bodyPost_ret (results_cell_row rfl _ _ gb142 38 #[.int .i64 3, .string (⟨#[]⟩ : ByteArray)] (0, 0) _ rfl (by (with_reducible repeat (first | refine blk_drewN ?_ _ | refine blk_drew ?_ | refine blk_alloc ?_ _)); refine blk_put (cs := #[.int .i64 3, .string (⟨#[]⟩ : ByteArray)]) ?_ 1 _ rfl; (with_reducible repeat (first | refine blk_drewN ?_ _ | refine blk_drew ?_ | refine blk_alloc ?_ _)); refine blk_put (cs := #[.int .i64 0, .string (⟨#[]⟩ : ByteArray)]) ?_ 0 _ rfl; (with_reducible repeat (first | refine blk_drewN ?_ _ | refine blk_drew ?_ | refine blk_alloc ?_ _)); exact BK142.out) Tryd.underlying38 rfl (by kernel_rfl)) rfl ?_
      exact ⟨by first | rfl | (simp [errW_none, errW_some] <;> rfl) | (simp [*, errW_none, errW_some] <;> rfl), by repeat (first | (with_reducible first | exact HB.out | apply below_alloc | apply pw_below_drewN | apply below_drew1 | refine below_set ?_ GE141.out | refine below_set ?_ GE142.out) | exact HB.out)⟩
     ·rw [if_neg c17] at H
      have c17b0 : (x3_1.toList == ([109, 105, 108, 101, 115, 116, 111, 110, 101] : List UInt8)) = false := beq_eq_false_iff_ne.mpr c17
      have c17b1 : (x3_1.toList != ([109, 105, 108, 101, 115, 116, 111, 110, 101] : List UInt8)) = true := bne_iff_ne.mpr c17
      have HC20 := Aside0.mk H
      clear H
      go_upto_if 26 with (fail)
      go_cut [26] (fun v26 wc => ∃ (kq : Nat) (x26_19 : Bool), v26 = .bool x26_19 ∧ Aside0 (words_letters.j1 kq x3_1 x26_19 a0_0 a0_1 a0_2 = some (r1, r2)) ∧ Aside0 (kq ≤ kj1) ∧ Aside0 (wc.heap[gb141]? = some (.cells #[.string a0_0, .bool a0_1, .bool a0_2] 93 (0, 0))) ∧ Aside0 (wc.heap[gb142]? = some (.cells #[.int .i64 0, .string (⟨#[]⟩ : ByteArray)] 38 (0, 0))) ∧ Aside0 (Below w.heap.size w wc))
      case first =>
       have H := HC20.out
       clear HC20
       by_cases c21 : x3_1.toList = ([114, 99] : List UInt8)
       ·rw [if_pos c21] at H
        have c21b0 : (x3_1.toList == ([114, 99] : List UInt8)) = true := beq_iff_eq.mpr c21
        have c21b1 : (x3_1.toList != ([114, 99] : List UInt8)) = false := bne_eq_false_iff_eq.mpr c21
        clear c21
        (first | rw [c21b0] | (simp only [i64_w, i32_w]; rw [c21b0]) | skip)
        have H' := Aside0.mk H
        clear H
        go_wp2
        go_meet
        case rel => exact ⟨_, ((x3_1.toList == ([114, 99] : List UInt8))), (by first | rfl | (simp; done) | (simp [*]; done) | (simp; exact isEmpty_bne _)), H', ⟨by have := HJ1.out; first | omega | exact Nat.le_refl _⟩, ⟨by (with_reducible repeat (first | refine blk_drewN ?_ _ | refine blk_drew ?_ | refine blk_alloc ?_ _)); exact BK141.out⟩, ⟨by (with_reducible repeat (first | refine blk_drewN ?_ _ | refine blk_drew ?_ | refine blk_alloc ?_ _)); exact BK142.out⟩, ⟨by repeat (first | (with_reducible first | exact HB.out | apply below_alloc | apply pw_below_drewN | apply below_drew1 | refine below_set ?_ GE141.out | refine below_set ?_ GE142.out) | exact HB.out)⟩⟩
       ·rw [if_neg c21] at H
        have c21b0 : (x3_1.toList == ([114, 99] : List UInt8)) = false := beq_eq_false_iff_ne.mpr c21
        have c21b1 : (x3_1.toList != ([114, 99] : List UInt8)) = true := bne_iff_ne.mpr c21
        (first | rw [c21b0] | (simp only [i64_w, i32_w]; rw [c21b0]) | skip)
        have H' := Aside0.mk H
        clear H
        go_wp2
        go_meet
        case rel => exact ⟨_, ((x3_1.toList == ([99, 114] : List UInt8))), (by first | rfl | (simp; done) | (simp [*]; done) | (simp; exact isEmpty_bne _)), H', ⟨by have := HJ1.out; first | omega | exact Nat.le_refl _⟩, ⟨by (with_reducible repeat (first | refine blk_drewN ?_ _ | refine blk_drew ?_ | refine blk_alloc ?_ _)); exact BK141.out⟩, ⟨by (with_reducible repeat (first | refine blk_drewN ?_ _ | refine blk_drew ?_ | refine blk_alloc ?_ _)); exact BK142.out⟩, ⟨by repeat (first | (with_reducible first | exact HB.out | apply below_alloc | apply pw_below_drewN | apply below_drew1 | refine below_set ?_ GE141.out | refine below_set ?_ GE142.out) | exact HB.out)⟩⟩
      case rest =>
       clear HC20
       try clear c1
       try clear c2
       try clear p2
       try clear c5
       try clear c7
       try clear c8
       try clear c8b0
       try clear c8b1
       try clear c9
       try clear c9b0
       try clear c9b1
       try clear c10
       try clear c10b0
       try clear c10b1
       try clear c11
       try clear c11b0
       try clear c11b1
       try clear c12
       try clear c14
       try clear c14b0
       try clear c14b1
       try clear c15
       try clear c17
       try clear c17b0
       try clear c17b1
       try clear c18
       try clear c21
       try clear c21b0
       try clear c21b1
       try clear hcz13_0
       try clear hcz13_1
       try clear hcz16_0
       try clear hcz16_1
       try clear hcz19_0
       try clear hcz19_1
       try clear hcz6_0
       try clear hcz6_1
       try clear hcz6_2
       try clear hfz13_0
       try clear hfz13_1
       try clear hfz16_0
       try clear hfz16_1
       try clear hfz19_0
       try clear hfz19_1
       try clear hfz6_0
       try clear hfz6_1
       try clear hfz6_2
       try clear p2
       obtain ⟨kq, x26_19, rfl, HA, HJ19, BK141, BK142, HB⟩ := hcut
       cases kq with
       | zero => exact absurd HA.out (by simp [words_letters.j1])
       | succ kj19 =>
        have H := HA.out
        clear HA
        simp only [words_letters.j1] at H
        (try simp only [toList_lit] at H)
        by_cases c22 : x26_19 = true
        ·subst c22
         have H1 : (some (4, (⟨#[]⟩ : ByteArray))) = some (r1, r2) := by rw [if_pos rfl] at H; exact H
         clear H
         have H := H1
         clear H1
         simp only [Option.some.injEq, Prod.mk.injEq] at H
         obtain ⟨rfl, rfl⟩ := H
         have hnb23 := NB142_141.out
         have hnc23 := NB141_142.out
         have hcz24_0 : wc.cell? ⟨gb142, 0, none⟩ = some (.int .i64 0) := (blk_cell BK142.out 0).trans rfl
         have hcz24_1 : wc.cell? ⟨gb142, 1, none⟩ = some (.string (⟨#[]⟩ : ByteArray)) := (blk_cell BK142.out 1).trans rfl
         have hfz24_0 := blk_frozen BK142.out 0
         have hfz24_1 := blk_frozen BK142.out 1
         go_wp2
         refine bodyPost_ret (results_cell_row rfl _ _ gb142 38 #[.int .i64 4, .string (⟨#[]⟩ : ByteArray)] (0, 0) _ rfl (by (with_reducible repeat (first | refine blk_drewN ?_ _ | refine blk_drew ?_ | refine blk_alloc ?_ _)); refine blk_put (cs := #[.int .i64 4, .string (⟨#[]⟩ : ByteArray)]) ?_ 1 _ rfl; (with_reducible repeat (first | refine blk_drewN ?_ _ | refine blk_drew ?_ | refine blk_alloc ?_ _)); refine blk_put (cs := #[.int .i64 0, .string (⟨#[]⟩ : ByteArray)]) ?_ 0 _ rfl; (with_reducible repeat (first | refine blk_drewN ?_ _ | refine blk_drew ?_ | refine blk_alloc ?_ _)); exact BK142.out) Tryd.underlying38 rfl (by kernel_rfl)) rfl ?_
         exact ⟨by first | rfl | (simp [errW_none, errW_some] <;> rfl) | (simp [*, errW_none, errW_some] <;> rfl), by repeat (first | (with_reducible first | exact HB.out | apply below_alloc | apply pw_below_drewN | apply below_drew1 | refine below_set ?_ GE141.out | refine below_set ?_ GE142.out) | exact HB.out)⟩
        ·replace c22 := Bool.eq_false_iff.mpr c22
         subst c22
         have H1 : (if x3_1.toList = ([115, 110, 97, 112, 115, 104, 111, 116] : List UInt8) then (some (5, (⟨#[]⟩ : ByteArray))) else (if x3_1.toList = ([103, 97] : List UInt8) then (words_letters.j2 kj19 x3_1 (x3_1.toList == ([103, 97] : List UInt8)) a0_0 a0_1 a0_2) else (if x3_1.toList = ([102, 105, 110, 97, 108] : List UInt8) then (words_letters.j2 kj19 x3_1 (x3_1.toList == ([102, 105, 110, 97, 108] : List UInt8)) a0_0 a0_1 a0_2) else (words_letters.j2 kj19 x3_1 (x3_1.toList == ([114, 101, 108, 101, 97, 115, 101] : List UInt8)) a0_0 a0_1 a0_2)))) = some (r1, r2) := by rw [if_neg (show ¬ (false = true) by decide)] at H; exact H
         clear H
         have H := H1
         clear H1
         by_cases c25 : x3_1.toList = ([115, 110, 97, 112, 115, 104, 111, 116] : List UInt8)
         ·rw [if_pos c25] at H
          have c25b0 : (x3_1.toList == ([115, 110, 97, 112, 115, 104, 111, 116] : List UInt8)) = true := beq_iff_eq.mpr c25
          have c25b1 : (x3_1.toList != ([115, 110, 97, 112, 115, 104, 111, 116] : List UInt8)) = false := bne_eq_false_iff_eq.mpr c25
          clear c25
          simp only [Option.some.injEq, Prod.mk.injEq] at H
          obtain ⟨rfl, rfl⟩ := H
          have hnb26 := NB142_141.out
          have hnc26 := NB141_142.out
          have hcz27_0 : wc.cell? ⟨gb142, 0, none⟩ = some (.int .i64 0) := (blk_cell BK142.out 0).trans rfl
          have hcz27_1 : wc.cell? ⟨gb142, 1, none⟩ = some (.string (⟨#[]⟩ : ByteArray)) := (blk_cell BK142.out 1).trans rfl
          have hfz27_0 := blk_frozen BK142.out 0
          have hfz27_1 := blk_frozen BK142.out 1
          go_wp2
          refine bodyPost_ret (results_cell_row rfl _ _ gb142 38 #[.int .i64 5, .string (⟨#[]⟩ : ByteArray)] (0, 0) _ rfl (by (with_reducible repeat (first | refine blk_drewN ?_ _ | refine blk_drew ?_ | refine blk_alloc ?_ _)); refine blk_put (cs := #[.int .i64 5, .string (⟨#[]⟩ : ByteArray)]) ?_ 1 _ rfl; (with_reducible repeat (first | refine blk_drewN ?_ _ | refine blk_drew ?_ | refine blk_alloc ?_ _)); refine blk_put (cs := #[.int .i64 0, .string (⟨#[]⟩ : ByteArray)]) ?_ 0 _ rfl; (with_reducible repeat (first | refine blk_drewN ?_ _ | refine blk_drew ?_ | refine blk_alloc ?_ _)); exact BK142.out) Tryd.underlying38 rfl (by kernel_rfl)) rfl ?_
          exact ⟨by first | rfl | (simp [errW_none, errW_some] <;> rfl) | (simp [*, errW_none, errW_some] <;> rfl), by repeat (first | (with_reducible first | exact HB.out | apply below_alloc | apply pw_below_drewN | apply below_drew1 | refine below_set ?_ GE141.out | refine below_set ?_ GE142.out) | exact HB.out)⟩
         ·rw [if_neg c25] at H
          have c25b0 : (x3_1.toList == ([115, 110, 97, 112, 115, 104, 111, 116] : List UInt8)) = false := beq_eq_false_iff_ne.mpr c25
          have c25b1 : (x3_1.toList != ([115, 110, 97, 112, 115, 104, 111, 116] : List UInt8)) = true := bne_iff_ne.mpr c25
          have HC28 := Aside0.mk H
          clear H
          go_upto_if 31 with (fail)
          go_cut [31] (fun v31 wc => ∃ (kq : Nat) (x31_27 : Bool), v31 = .bool x31_27 ∧ Aside0 (words_letters.j2 kq x3_1 x31_27 a0_0 a0_1 a0_2 = some (r1, r2)) ∧ Aside0 (kq ≤ kj19) ∧ Aside0 (wc.heap[gb141]? = some (.cells #[.string a0_0, .bool a0_1, .bool a0_2] 93 (0, 0))) ∧ Aside0 (wc.heap[gb142]? = some (.cells #[.int .i64 0, .string (⟨#[]⟩ : ByteArray)] 38 (0, 0))) ∧ Aside0 (Below w.heap.size w wc))
          case first =>
           have H := HC28.out
           clear HC28
           by_cases c29 : x3_1.toList = ([103, 97] : List UInt8)
           ·rw [if_pos c29] at H
            have c29b0 : (x3_1.toList == ([103, 97] : List UInt8)) = true := beq_iff_eq.mpr c29
            have c29b1 : (x3_1.toList != ([103, 97] : List UInt8)) = false := bne_eq_false_iff_eq.mpr c29
            clear c29
            (first | rw [c29b0] | (simp only [i64_w, i32_w]; rw [c29b0]) | skip)
            have H' := Aside0.mk H
            clear H
            go_wp2
            go_meet
            case rel => exact ⟨_, ((x3_1.toList == ([103, 97] : List UInt8))), (by first | rfl | (simp; done) | (simp [*]; done) | (simp; exact isEmpty_bne _)), H', ⟨by have := HJ1.out; have := HJ19.out; first | omega | exact Nat.le_refl _⟩, ⟨by (with_reducible repeat (first | refine blk_drewN ?_ _ | refine blk_drew ?_ | refine blk_alloc ?_ _)); exact BK141.out⟩, ⟨by (with_reducible repeat (first | refine blk_drewN ?_ _ | refine blk_drew ?_ | refine blk_alloc ?_ _)); exact BK142.out⟩, ⟨by repeat (first | (with_reducible first | exact HB.out | apply below_alloc | apply pw_below_drewN | apply below_drew1 | refine below_set ?_ GE141.out | refine below_set ?_ GE142.out) | exact HB.out)⟩⟩
           ·rw [if_neg c29] at H
            have c29b0 : (x3_1.toList == ([103, 97] : List UInt8)) = false := beq_eq_false_iff_ne.mpr c29
            have c29b1 : (x3_1.toList != ([103, 97] : List UInt8)) = true := bne_iff_ne.mpr c29
            (first | rw [c29b0] | (simp only [i64_w, i32_w]; rw [c29b0]) | skip)
            by_cases c30 : x3_1.toList = ([102, 105, 110, 97, 108] : List UInt8)
            ·rw [if_pos c30] at H
             have c30b0 : (x3_1.toList == ([102, 105, 110, 97, 108] : List UInt8)) = true := beq_iff_eq.mpr c30
             have c30b1 : (x3_1.toList != ([102, 105, 110, 97, 108] : List UInt8)) = false := bne_eq_false_iff_eq.mpr c30
             clear c30
             have H' := Aside0.mk H
             clear H
             go_wp2
             go_meet
             case rel => exact ⟨_, ((x3_1.toList == ([102, 105, 110, 97, 108] : List UInt8))), (by first | rfl | (simp; done) | (simp [*]; done) | (simp; exact isEmpty_bne _)), H', ⟨by have := HJ1.out; have := HJ19.out; first | omega | exact Nat.le_refl _⟩, ⟨by (with_reducible repeat (first | refine blk_drewN ?_ _ | refine blk_drew ?_ | refine blk_alloc ?_ _)); exact BK141.out⟩, ⟨by (with_reducible repeat (first | refine blk_drewN ?_ _ | refine blk_drew ?_ | refine blk_alloc ?_ _)); exact BK142.out⟩, ⟨by repeat (first | (with_reducible first | exact HB.out | apply below_alloc | apply pw_below_drewN | apply below_drew1 | refine below_set ?_ GE141.out | refine below_set ?_ GE142.out) | exact HB.out)⟩⟩
            ·rw [if_neg c30] at H
             have c30b0 : (x3_1.toList == ([102, 105, 110, 97, 108] : List UInt8)) = false := beq_eq_false_iff_ne.mpr c30
             have c30b1 : (x3_1.toList != ([102, 105, 110, 97, 108] : List UInt8)) = true := bne_iff_ne.mpr c30
             have H' := Aside0.mk H
             clear H
             go_wp2
             go_meet
             case rel => exact ⟨_, ((x3_1.toList == ([114, 101, 108, 101, 97, 115, 101] : List UInt8))), (by first | rfl | (simp; done) | (simp [*]; done) | (simp; exact isEmpty_bne _)), H', ⟨by have := HJ1.out; have := HJ19.out; first | omega | exact Nat.le_refl _⟩, ⟨by (with_reducible repeat (first | refine blk_drewN ?_ _ | refine blk_drew ?_ | refine blk_alloc ?_ _)); exact BK141.out⟩, ⟨by (with_reducible repeat (first | refine blk_drewN ?_ _ | refine blk_drew ?_ | refine blk_alloc ?_ _)); exact BK142.out⟩, ⟨by repeat (first | (with_reducible first | exact HB.out | apply below_alloc | apply pw_below_drewN | apply below_drew1 | refine below_set ?_ GE141.out | refine below_set ?_ GE142.out) | exact HB.out)⟩⟩
          case rest =>
           clear HC28
           try clear c1
           try clear c2
           try clear p2
           try clear c3
           try clear c5
           try clear c7
           try clear c8
           try clear c8b0
           try clear c8b1
           try clear c9
           try clear c9b0
           try clear c9b1
           try clear c10
           try clear c10b0
           try clear c10b1
           try clear c11
           try clear c11b0
           try clear c11b1
           try clear c12
           try clear c14
           try clear c14b0
           try clear c14b1
           try clear c15
           try clear c17
           try clear c17b0
           try clear c17b1
           try clear c18
           try clear c21
           try clear c21b0
           try clear c21b1
           try clear c22
           try clear c23
           try clear c25
           try clear c25b0
           try clear c25b1
           try clear c26
           try clear c29
           try clear c29b0
           try clear c29b1
           try clear c30
           try clear c30b0
           try clear c30b1
           try clear hcz13_0
           try clear hcz13_1
           try clear hcz16_0
           try clear hcz16_1
           try clear hcz19_0
           try clear hcz19_1
           try clear hcz24_0
           try clear hcz24_1
           try clear hcz27_0
           try clear hcz27_1
           try clear hcz6_0
           try clear hcz6_1
           try clear hcz6_2
           try clear hfz13_0
           try clear hfz13_1
           try clear hfz16_0
           try clear hfz16_1
           try clear hfz19_0
           try clear hfz19_1
           try clear hfz24_0
           try clear hfz24_1
           try clear hfz27_0
           try clear hfz27_1
           try clear hfz6_0
           try clear hfz6_1
           try clear hfz6_2
           try clear p2
           obtain ⟨kq, x31_27, rfl, HA, HJ27, BK141, BK142, HB⟩ := hcut
           cases kq with
           | zero => exact absurd HA.out (by simp [words_letters.j2])
           | succ kj27 =>
            have H := HA.out
            clear HA
            simp only [words_letters.j2] at H
            (try simp only [toList_lit] at H)
            by_cases c31 : x31_27 = true
            ·subst c31
             have H1 : (some (6, (⟨#[]⟩ : ByteArray))) = some (r1, r2) := by rw [if_pos rfl] at H; exact H
             clear H
             have H := H1
             clear H1
             simp only [Option.some.injEq, Prod.mk.injEq] at H
             obtain ⟨rfl, rfl⟩ := H
             have hnb32 := NB142_141.out
             have hnc32 := NB141_142.out
             have hcz33_0 : wc.cell? ⟨gb142, 0, none⟩ = some (.int .i64 0) := (blk_cell BK142.out 0).trans rfl
             have hcz33_1 : wc.cell? ⟨gb142, 1, none⟩ = some (.string (⟨#[]⟩ : ByteArray)) := (blk_cell BK142.out 1).trans rfl
             have hfz33_0 := blk_frozen BK142.out 0
             have hfz33_1 := blk_frozen BK142.out 1
             go_wp2
             refine bodyPost_ret (results_cell_row rfl _ _ gb142 38 #[.int .i64 6, .string (⟨#[]⟩ : ByteArray)] (0, 0) _ rfl (by (with_reducible repeat (first | refine blk_drewN ?_ _ | refine blk_drew ?_ | refine blk_alloc ?_ _)); refine blk_put (cs := #[.int .i64 6, .string (⟨#[]⟩ : ByteArray)]) ?_ 1 _ rfl; (with_reducible repeat (first | refine blk_drewN ?_ _ | refine blk_drew ?_ | refine blk_alloc ?_ _)); refine blk_put (cs := #[.int .i64 0, .string (⟨#[]⟩ : ByteArray)]) ?_ 0 _ rfl; (with_reducible repeat (first | refine blk_drewN ?_ _ | refine blk_drew ?_ | refine blk_alloc ?_ _)); exact BK142.out) Tryd.underlying38 rfl (by kernel_rfl)) rfl ?_
             exact ⟨by first | rfl | (simp [errW_none, errW_some] <;> rfl) | (simp [*, errW_none, errW_some] <;> rfl), by repeat (first | (with_reducible first | exact HB.out | apply below_alloc | apply pw_below_drewN | apply below_drew1 | refine below_set ?_ GE141.out | refine below_set ?_ GE142.out) | exact HB.out)⟩
            ·replace c31 := Bool.eq_false_iff.mpr c31
             subst c31
             have H1 : (if x3_1.toList = ([115, 112] : List UInt8) then (some (7, (⟨#[]⟩ : ByteArray))) else (some (8, a0_0))) = some (r1, r2) := by rw [if_neg (show ¬ (false = true) by decide)] at H; exact H
             clear H
             have H := H1
             clear H1
             by_cases c34 : x3_1.toList = ([115, 112] : List UInt8)
             ·rw [if_pos c34] at H
              have c34b0 : (x3_1.toList == ([115, 112] : List UInt8)) = true := beq_iff_eq.mpr c34
              have c34b1 : (x3_1.toList != ([115, 112] : List UInt8)) = false := bne_eq_false_iff_eq.mpr c34
              clear c34
              simp only [Option.some.injEq, Prod.mk.injEq] at H
              obtain ⟨rfl, rfl⟩ := H
              have hnb35 := NB142_141.out
              have hnc35 := NB141_142.out
              have hcz36_0 : wc.cell? ⟨gb142, 0, none⟩ = some (.int .i64 0) := (blk_cell BK142.out 0).trans rfl
              have hcz36_1 : wc.cell? ⟨gb142, 1, none⟩ = some (.string (⟨#[]⟩ : ByteArray)) := (blk_cell BK142.out 1).trans rfl
              have hfz36_0 := blk_frozen BK142.out 0
              have hfz36_1 := blk_frozen BK142.out 1
              go_wp2
              refine bodyPost_ret (results_cell_row rfl _ _ gb142 38 #[.int .i64 7, .string (⟨#[]⟩ : ByteArray)] (0, 0) _ rfl (by (with_reducible repeat (first | refine blk_drewN ?_ _ | refine blk_drew ?_ | refine blk_alloc ?_ _)); refine blk_put (cs := #[.int .i64 7, .string (⟨#[]⟩ : ByteArray)]) ?_ 1 _ rfl; (with_reducible repeat (first | refine blk_drewN ?_ _ | refine blk_drew ?_ | refine blk_alloc ?_ _)); refine blk_put (cs := #[.int .i64 0, .string (⟨#[]⟩ : ByteArray)]) ?_ 0 _ rfl; (with_reducible repeat (first | refine blk_drewN ?_ _ | refine blk_drew ?_ | refine blk_alloc ?_ _)); exact BK142.out) Tryd.underlying38 rfl (by kernel_rfl)) rfl ?_
              exact ⟨by first | rfl | (simp [errW_none, errW_some] <;> rfl) | (simp [*, errW_none, errW_some] <;> rfl), by repeat (first | (with_reducible first | exact HB.out | apply below_alloc | apply pw_below_drewN | apply below_drew1 | refine below_set ?_ GE141.out | refine below_set ?_ GE142.out) | exact HB.out)⟩
             ·rw [if_neg c34] at H
              have c34b0 : (x3_1.toList == ([115, 112] : List UInt8)) = false := beq_eq_false_iff_ne.mpr c34
              have c34b1 : (x3_1.toList != ([115, 112] : List UInt8)) = true := bne_iff_ne.mpr c34
              simp only [Option.some.injEq, Prod.mk.injEq] at H
              obtain ⟨rfl, rfl⟩ := H
              have hnb37 := NB141_142.out
              have hnc37 := NB142_141.out
              have hcz38_0 : wc.cell? ⟨gb141, 0, none⟩ = some (.string a0_0) := (blk_cell BK141.out 0).trans rfl
              have hcz38_1 : wc.cell? ⟨gb141, 1, none⟩ = some (.bool a0_1) := (blk_cell BK141.out 1).trans rfl
              have hcz38_2 : wc.cell? ⟨gb141, 2, none⟩ = some (.bool a0_2) := (blk_cell BK141.out 2).trans rfl
              have hfz38_0 := blk_frozen BK141.out 0
              have hfz38_1 := blk_frozen BK141.out 1
              have hfz38_2 := blk_frozen BK141.out 2
              have hcz39_0 : wc.cell? ⟨gb142, 0, none⟩ = some (.int .i64 0) := (blk_cell BK142.out 0).trans rfl
              have hcz39_1 : wc.cell? ⟨gb142, 1, none⟩ = some (.string (⟨#[]⟩ : ByteArray)) := (blk_cell BK142.out 1).trans rfl
              have hfz39_0 := blk_frozen BK142.out 0
              have hfz39_1 := blk_frozen BK142.out 1
              go_wp2
              refine bodyPost_ret (results_cell_row rfl _ _ gb142 38 #[.int .i64 8, .string a0_0] (0, 0) _ rfl (by (with_reducible repeat (first | refine blk_drewN ?_ _ | refine blk_drew ?_ | refine blk_alloc ?_ _)); refine blk_put (cs := #[.int .i64 8, .string (⟨#[]⟩ : ByteArray)]) ?_ 1 _ rfl; (with_reducible repeat (first | refine blk_drewN ?_ _ | refine blk_drew ?_ | refine blk_alloc ?_ _)); refine blk_put (cs := #[.int .i64 0, .string (⟨#[]⟩ : ByteArray)]) ?_ 0 _ rfl; (with_reducible repeat (first | refine blk_drewN ?_ _ | refine blk_drew ?_ | refine blk_alloc ?_ _)); exact BK142.out) Tryd.underlying38 rfl (by kernel_rfl)) rfl ?_
              exact ⟨by first | rfl | (simp [errW_none, errW_some] <;> rfl) | (simp [*, errW_none, errW_some] <;> rfl), by repeat (first | (with_reducible first | exact HB.out | apply below_alloc | apply pw_below_drewN | apply below_drew1 | refine below_set ?_ GE141.out | refine below_set ?_ GE142.out) | exact HB.out)⟩

end Go.Proofs.YtgdjfcmmpjcaaaaDoor.Q

-- Printed by this session's wip/np.py over the kit's print program. Not trusted: Lean checks it.
namespace Go.Proofs.YtgdjfcmmpjcaaaaDoor.Q
open Go.RowKit Go.Proofs.YtgdjfcmmpjcaaaaDoorW.PrintWords Go.Proofs.YtgdjfcmmpjcaaaaDoorW.PrintLast Go.Proofs.YtgdjfcmmpjcaaaaDoorW.Own Go.Proofs.YtgdjfcmmpjcaaaaDoorW.PrintMore
attribute [local go_sem] max2_int min2_int max_two min_two max_three min_three max_four min_four
set_option linter.unusedVariables false
set_option linter.unusedSimpArgs false

/-! ### strings_TrimLeft: function 108 -/
def strings_TrimLeft.f (a0 a1 : ByteArray) : Option ByteArray := if a1.size = 1 ∧ (a1.data.toList.getD 0 0).toNat < 128 then some ⟨(Lib.trimLeftB a0.data.toList (a1.data.toList.getD 0 0)).toArray⟩ else none
theorem strings_TrimLeft.calls (a0 a1 : ByteArray) (r : ByteArray) (w : World) (hG : Glob w) (h : strings_TrimLeft.f a0 a1 = some r) :
 Calls Tryd.prog 108 #[.string a0, .string a1] w fun e w' => e = .returned (.string r) ∧ Drawn0 w w' := by
 unfold strings_TrimLeft.f at h
 split at h
 ·rename_i hs
  obtain rfl := Option.some.inj h
  obtain ⟨c, rfl⟩ : ∃ c : UInt8, a1 = ⟨#[c]⟩ := by
   rcases a1 with ⟨⟨l⟩⟩
   match l, hs.1 with
   | [c], _ => exact ⟨c, rfl⟩
  exact (Tryd.strings_TrimLeft_one a0 c hs.2 w).mono fun e w' hh => ⟨hh.1, ⟨⟨0, hh.2⟩⟩⟩
 ·exact absurd h (by simp)


end Go.Proofs.YtgdjfcmmpjcaaaaDoor.Q
