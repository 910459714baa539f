/- Texts put together: what functions of the program compute, and plain words about them. -/
import Derived.Test.YtgdjfcmmpjcaaaaDoorLawSpanTextsM1
import Derived.Test.YtgdjfcmmpjcaaaaDoorLawSpanTextsM3
namespace Go.Proofs.YtgdjfcmmpjcaaaaDoor.Q
open Go.RowKit Go.Proofs.YtgdjfcmmpjcaaaaDoorW.PrintWords Go.Proofs.YtgdjfcmmpjcaaaaDoorW.PrintLast Go.Proofs.YtgdjfcmmpjcaaaaDoorW.Own Go.Proofs.YtgdjfcmmpjcaaaaDoorW.PrintMore
attribute [local go_sem] max2_int min2_int max_two min_two max_three min_three max_four min_four   -- for this text's walks alone
set_option linter.unusedVariables false
set_option linter.unusedSimpArgs false
set_option maxHeartbeats 8000000
set_option maxRecDepth 100000
def span_Text.l0 : Nat → List ByteArray → List (S58) → Int → Int → Option (ByteArray)
 | 0, _, _, _, _ => none
 | k + 1, x3, x7, x8, x9 => if x9 < x8 then (if 0 ≤ x9 then (if x9 < (x7.length : Int) then (if ((rd_T58 x7 x9).f0).size + 1 ≤ 9223372036854775807 then (if (((rd_T58 x7 x9).f0) ++ (⟨#[44]⟩ : ByteArray)).size + ((rd_T58 x7 x9).f1).size ≤ 9223372036854775807 then (if ((rd_T58 x7 x9).f0).toList = ((rd_T58 x7 x9).f1).toList then (if (rd_T58 x7 x9).f2 = true then (if (rd_T58 x7 x9).f3 = true then ((span_mark.f ((rd_T58 x7 x9).f2) (⟨#[91]⟩ : ByteArray) (⟨#[40]⟩ : ByteArray)).bind fun t516 => (if t516.size + ((rd_T58 x7 x9).f0).size ≤ 9223372036854775807 then ((span_mark.f ((rd_T58 x7 x9).f3) (⟨#[93]⟩ : ByteArray) (⟨#[41]⟩ : ByteArray)).bind fun t517 => (if (t516 ++ ((rd_T58 x7 x9).f0)).size + t517.size ≤ 9223372036854775807 then (if x3.length < 8796093022208 then (span_Text.l0 k (x3 ++ [(t516 ++ ((rd_T58 x7 x9).f0)) ++ t517]) x7 x8 (wrap64 (x9 + 1))) else (none)) else (none))) else (none))) else ((span_mark.f ((rd_T58 x7 x9).f2) (⟨#[91]⟩ : ByteArray) (⟨#[40]⟩ : ByteArray)).bind fun t521 => (if t521.size + ((((rd_T58 x7 x9).f0) ++ (⟨#[44]⟩ : ByteArray)) ++ ((rd_T58 x7 x9).f1)).size ≤ 9223372036854775807 then ((span_mark.f ((rd_T58 x7 x9).f3) (⟨#[93]⟩ : ByteArray) (⟨#[41]⟩ : ByteArray)).bind fun t522 => (if (t521 ++ ((((rd_T58 x7 x9).f0) ++ (⟨#[44]⟩ : ByteArray)) ++ ((rd_T58 x7 x9).f1))).size + t522.size ≤ 9223372036854775807 then (if x3.length < 8796093022208 then (span_Text.l0 k (x3 ++ [(t521 ++ ((((rd_T58 x7 x9).f0) ++ (⟨#[44]⟩ : ByteArray)) ++ ((rd_T58 x7 x9).f1))) ++ t522]) x7 x8 (wrap64 (x9 + 1))) else (none)) else (none))) else (none)))) else ((span_mark.f ((rd_T58 x7 x9).f2) (⟨#[91]⟩ : ByteArray) (⟨#[40]⟩ : ByteArray)).bind fun t526 => (if t526.size + ((((rd_T58 x7 x9).f0) ++ (⟨#[44]⟩ : ByteArray)) ++ ((rd_T58 x7 x9).f1)).size ≤ 9223372036854775807 then ((span_mark.f ((rd_T58 x7 x9).f3) (⟨#[93]⟩ : ByteArray) (⟨#[41]⟩ : ByteArray)).bind fun t527 => (if (t526 ++ ((((rd_T58 x7 x9).f0) ++ (⟨#[44]⟩ : ByteArray)) ++ ((rd_T58 x7 x9).f1))).size + t527.size ≤ 9223372036854775807 then (if x3.length < 8796093022208 then (span_Text.l0 k (x3 ++ [(t526 ++ ((((rd_T58 x7 x9).f0) ++ (⟨#[44]⟩ : ByteArray)) ++ ((rd_T58 x7 x9).f1))) ++ t527]) x7 x8 (wrap64 (x9 + 1))) else (none)) else (none))) else (none)))) else ((span_mark.f ((rd_T58 x7 x9).f2) (⟨#[91]⟩ : ByteArray) (⟨#[40]⟩ : ByteArray)).bind fun t531 => (if t531.size + ((((rd_T58 x7 x9).f0) ++ (⟨#[44]⟩ : ByteArray)) ++ ((rd_T58 x7 x9).f1)).size ≤ 9223372036854775807 then ((span_mark.f ((rd_T58 x7 x9).f3) (⟨#[93]⟩ : ByteArray) (⟨#[41]⟩ : ByteArray)).bind fun t532 => (if (t531 ++ ((((rd_T58 x7 x9).f0) ++ (⟨#[44]⟩ : ByteArray)) ++ ((rd_T58 x7 x9).f1))).size + t532.size ≤ 9223372036854775807 then (if x3.length < 8796093022208 then (span_Text.l0 k (x3 ++ [(t531 ++ ((((rd_T58 x7 x9).f0) ++ (⟨#[44]⟩ : ByteArray)) ++ ((rd_T58 x7 x9).f1))) ++ t532]) x7 x8 (wrap64 (x9 + 1))) else (none)) else (none))) else (none)))) else (none)) else (none)) else (none)) else (none)) else ((strings_Join.f x3 (⟨#[44]⟩ : ByteArray)).bind fun t536 => (some t536))
def span_Text.f (k : Nat) (l0 : List (S58)) : Option (ByteArray) := span_Text.l0 k ([] : List ByteArray) l0 (l0.length : Int) 0
theorem span_Text.mono_l : ∀ k, (∀ y0 y1 y2 y3, LeO (span_Text.l0 k y0 y1 y2 y3) (span_Text.l0 (k + 1) y0 y1 y2 y3))
 | 0 => fun _ _ _ _ r h => by simp [span_Text.l0] at h
 | k + 1 => by
  have ih0 := span_Text.mono_l k
  ·intro y0 y1 y2 y3
   unfold span_Text.l0
   exact mo
theorem span_Text.mono : ∀ a0 k, LeO (span_Text.f k a0) (span_Text.f (k + 1) a0) := by
 intro a0 k
 have ih0 := span_Text.mono_l k
 unfold span_Text.f
 exact mo
def span_Text.T8 : Bool × List (List Nat × List Nat) := (true, [([], []), ([], []), ([1], [1]), ([2], [2]), ([], []), ([3, 4], [3, 4]), ([], []), ([6], [6]), ([7, 3], [7]), ([5, 8], [5, 8]), ([9], [9]), ([0, 10, 8], [0, 10]), ([11, 11, 0, 1, 2, 3, 4, 5, 6, 7, 8, 9, 10, 11], [0, 11])])
def span_Text.B8 : List Nat := [0, 0, 2, 6, 0, 30, 0, 64, 206, 510, 1022, 2047, 4095]
theorem span_Text.tab8 : rtab .any (opsOf Tryd.f59 8) = span_Text.T8 := by kernel_rfl
theorem span_Text.bits8 : waitsOk span_Text.T8.2 span_Text.B8 = true := by kernel_rfl
theorem span_Text.calls (k : Nat) (A0 : Option Addr) (c0 : Nat) (l0 : List (S58)) (r : ByteArray) (w : World) (hr0 : Kd.C k58 w A0 l0.length l0) (hc0 : l0.length ≤ c0) (hG : Glob w) (h : span_Text.f k l0 = some r) :
 Calls Tryd.prog 59 #[.slice A0 l0.length c0] w fun e w' => e = .returned (.string r) ∧ Below w.heap.size w w' := by
 have hu58 := Tryd.underlying58
 have HG := Aside0.mk hG
 clear hG
 have HR0 := Aside0.mk hr0
 have HC0 := Aside0.mk hc0
 clear hr0 hc0
 have HB := Aside0.mk (Below.refl w.heap.size w)
 have H : (span_Text.l0 k ([] : List ByteArray) l0 (l0.length : Int) 0) = some r := h
 clear h
 have H' := Aside0.mk H
 clear H
 go_enter Tryd.func59, Tryd.ntmps59
 go_wp2
 go_loopg [3, 9] k (fun kq v3 v9 w' => ∃ (x3_1 : List ByteArray) (x9_1 : Int), v9 = .int .i64 x9_1 ∧ Aside0 (span_Text.l0 kq x3_1 l0 (l0.length : Int) x9_1 = some r) ∧ Aside0 (kq ≤ k) ∧ Aside0 (Kd.R Kd.string 9 w' w.heap.size (fun _ => True) v3 x3_1) ∧ Aside0 (Below w.heap.size w w'))
 case atStart => exact ⟨(([] : List ByteArray)), (0), cA, H', ⟨Nat.le_refl _⟩, ⟨by first | exact Kd.R_nil _ _ _ _ _ | exact Kd.N_nil _ _ _ _ _ | exact Kd.V_nil _ _ _ _ _ | exact Kd.Q_nil _ _ _ _ _ | exact Kd.S_nil _ _ _ _ _⟩, ⟨bE⟩⟩
 clear H'
 obtain ⟨x3_1, x9_1, rfl, HA, HK1, HO_3, HB⟩ := hrel
 cases gk with
 | zero => exact absurd HA.out (by simp [span_Text.l0])
 | succ k1 =>
  have H := HA.out
  clear HA
  simp only [span_Text.l0] at H
  (try simp only [toList_lit] at H)
  by_cases c2 : x9_1 < (l0.length : Int)
  rotate_left
  ·rw [if_neg c2] at H
   have c2b0 := dF c2
   clear c2
   replace H := bi H
   obtain ⟨t536, A520, H⟩ := H
   try dsimp only at H
   have A52 := Aside0.mk A520
   clear A520
   obtain rfl := Option.some.inj H
   obtain ⟨Ao53, co53, eo53⟩ := Kd.R_slice HO_3.out
   subst eo53
   go_wp2_with (first | (refine gl (some 48) Tryd.func99 #[.slice Ao53 x3_1.length co53, .string (⟨#[44]⟩ : ByteArray)] ?_; (with_reducible refine (strings_Join.calls _ _ x3_1 (⟨#[44]⟩ : ByteArray) t536 _ ?side1 ?side2 (gS HG) A52.out).mono ?_); (case side1 => repeat (first | exact (Kd.R_reads' HO_3.out).2.2 | (with_reducible refine Kd.C_alloc ?_ _) | (with_reducible refine Kd.C_drewN ?_ _) | (with_reducible refine Kd.C_drew ?_))); (case side2 => exact (Kd.R_reads' HO_3.out).2.1); rintro e w54 ⟨rfl, hb⟩; refine ⟨_, rfl, ?_⟩; replace HO_3 := rB HO_3 hb; replace HB := sB hb; (try clear hb)))
   go_ret
   exact ⟨eA, bE⟩
  rw [if_pos c2] at H
  have c2b0 := dT c2
  clear c2
  by_cases c3 : 0 ≤ x9_1
  rotate_left
  ·rw [if_neg c3] at H
   exact absurd H (by simp)
  rw [if_pos c3] at H
  have c3b0 := dT c3
  clear c3
  by_cases c4 : x9_1 < (l0.length : Int)
  rotate_left
  ·rw [if_neg c4] at H
   exact absurd H (by simp)
  rw [if_pos c4] at H
  have c4b0 := dT c4
  clear c4
  by_cases c5 : ((rd_T58 l0 x9_1).f0).size + 1 ≤ 9223372036854775807
  rotate_left
  ·rw [if_neg c5] at H
   exact absurd H (by simp)
  rw [if_pos c5] at H
  have c5b0 := eq_true c5
  have c5b1 := dT c5
  try have c5b2 : (9223372036854775807 < ((rd_T58 l0 x9_1).f0).size + 1) = False := eq_false (Nat.not_lt.2 c5)
  by_cases c6 : (((rd_T58 l0 x9_1).f0) ++ (⟨#[44]⟩ : ByteArray)).size + ((rd_T58 l0 x9_1).f1).size ≤ 9223372036854775807
  rotate_left
  ·rw [if_neg c6] at H
   exact absurd H (by simp)
  rw [if_pos c6] at H
  have c6b0 := eq_true c6
  have c6b1 := dT c6
  try have c6b2 : (9223372036854775807 < (((rd_T58 l0 x9_1).f0) ++ (⟨#[44]⟩ : ByteArray)).size + ((rd_T58 l0 x9_1).f1).size) = False := eq_false (Nat.not_lt.2 c6)
  have c6n : (((rd_T58 l0 x9_1).f0).size + 1) + ((rd_T58 l0 x9_1).f1).size ≤ 9223372036854775807 := by have z_ := c6; simp only [ByteArray.size_append] at z_; exact z_
  have c6m : (9223372036854775807 < (((rd_T58 l0 x9_1).f0).size + 1) + ((rd_T58 l0 x9_1).f1).size) = False := eq_false (Nat.not_lt.2 c6n)
  clear c6 c6b0 c6b1
  try clear c6b2
  by_cases c7 : ((rd_T58 l0 x9_1).f0).toList = ((rd_T58 l0 x9_1).f1).toList
  rotate_left
  ·rw [if_neg c7] at H
   obtain ⟨c7b0, c7b1⟩ := eqF c7
   replace H := bi H
   obtain ⟨t531, A420, H⟩ := H
   try dsimp only at H
   have A42 := Aside0.mk A420
   clear A420
   by_cases c43 : t531.size + ((((rd_T58 l0 x9_1).f0) ++ (⟨#[44]⟩ : ByteArray)) ++ ((rd_T58 l0 x9_1).f1)).size ≤ 9223372036854775807
   rotate_left
   ·rw [if_neg c43] at H
    exact absurd H (by simp)
   rw [if_pos c43] at H
   have c43b0 := eq_true c43
   have c43b1 := dT c43
   try have c43b2 : (9223372036854775807 < t531.size + ((((rd_T58 l0 x9_1).f0) ++ (⟨#[44]⟩ : ByteArray)) ++ ((rd_T58 l0 x9_1).f1)).size) = False := eq_false (Nat.not_lt.2 c43)
   have c43n : t531.size + ((((rd_T58 l0 x9_1).f0).size + 1) + ((rd_T58 l0 x9_1).f1).size) ≤ 9223372036854775807 := by have z_ := c43; simp only [ByteArray.size_append] at z_; exact z_
   have c43m : (9223372036854775807 < t531.size + ((((rd_T58 l0 x9_1).f0).size + 1) + ((rd_T58 l0 x9_1).f1).size)) = False := eq_false (Nat.not_lt.2 c43n)
   clear c43 c43b0 c43b1
   try clear c43b2
   replace H := bi H
   obtain ⟨t532, A440, H⟩ := H
   try dsimp only at H
   have A44 := Aside0.mk A440
   clear A440
   by_cases c45 : (t531 ++ ((((rd_T58 l0 x9_1).f0) ++ (⟨#[44]⟩ : ByteArray)) ++ ((rd_T58 l0 x9_1).f1))).size + t532.size ≤ 9223372036854775807
   rotate_left
   ·rw [if_neg c45] at H
    exact absurd H (by simp)
   rw [if_pos c45] at H
   have c45b0 := eq_true c45
   have c45b1 := dT c45
   try have c45b2 : (9223372036854775807 < (t531 ++ ((((rd_T58 l0 x9_1).f0) ++ (⟨#[44]⟩ : ByteArray)) ++ ((rd_T58 l0 x9_1).f1))).size + t532.size) = False := eq_false (Nat.not_lt.2 c45)
   have c45n : (t531.size + ((((rd_T58 l0 x9_1).f0).size + 1) + ((rd_T58 l0 x9_1).f1).size)) + t532.size ≤ 9223372036854775807 := by have z_ := c45; simp only [ByteArray.size_append] at z_; exact z_
   have c45m : (9223372036854775807 < (t531.size + ((((rd_T58 l0 x9_1).f0).size + 1) + ((rd_T58 l0 x9_1).f1).size)) + t532.size) = False := eq_false (Nat.not_lt.2 c45n)
   clear c45 c45b0 c45b1
   try clear c45b2
   by_cases c46 : x3_1.length < 8796093022208
   rotate_left
   ·rw [if_neg c46] at H
    exact absurd H (by simp)
   rw [if_pos c46] at H
   have LMc46 := Aside0.mk c46
   clear c46
   obtain ⟨y533, hy533⟩ : ∃ y_ : List ByteArray, y_ = (x3_1 ++ [(t531 ++ ((((rd_T58 l0 x9_1).f0) ++ (⟨#[44]⟩ : ByteArray)) ++ ((rd_T58 l0 x9_1).f1))) ++ t532]) := ⟨_, rfl⟩
   replace H : (span_Text.l0 k1 y533 l0 (l0.length : Int) (wrap64 (x9_1 + 1))) = some r := by first | (rw [hy533]; with_reducible exact H) | (have H2_ := (Option.bind_some _ _).symm.trans H; rw [hy533]; with_reducible exact H2_) | (have H2_ := (Option.bind_some _ _).symm.trans H; with_reducible exact H2_) | with_reducible exact H | (rw [hy533]; exact H) | exact H
   have Ny533 := Aside0.mk hy533
   clear hy533
   have H' := Aside0.mk H
   clear H
   have p514 : 0 ≤ (x9_1 : Int) := dA
   have q514 : x9_1 < (l0.length : Int) := dA
   obtain ⟨ad514, e514, hx514_0, hx514_1, hx514_2, hx514_3⟩ := at_T58 HR0.out x9_1 p514 q514
   cases e514
   replace hx514_0 := (HB.out.cell (World.block_lt_of_cell? w _ hx514_0)).trans hx514_0
   replace hx514_1 := (HB.out.cell (World.block_lt_of_cell? w _ hx514_1)).trans hx514_1
   replace hx514_2 := (HB.out.cell (World.block_lt_of_cell? w _ hx514_2)).trans hx514_2
   replace hx514_3 := (HB.out.cell (World.block_lt_of_cell? w _ hx514_3)).trans hx514_3
   replace p514 := eq_true p514
   replace q514 := eq_true q514
   try go_wp2_with (first | (refine be 5 #[.string (⟨#[]⟩ : ByteArray), .string (⟨#[]⟩ : ByteArray), .bool false, .bool false] 58 ?_; intro gb515 hg w47 hbox hb; replace HO_3 := rB HO_3 hb; have BK515 := Aside0.mk (hbox); have GW515 := gW hg; have GE515 := gW hg; replace HB := sB hb; clear hb hbox hg; have hcz48_0 : w47.cell? ⟨gb515, 0, none⟩ = some (.string (⟨#[]⟩ : ByteArray)) := (blk_cell BK515.out 0).trans rfl; have hcz48_1 : w47.cell? ⟨gb515, 1, none⟩ = some (.string (⟨#[]⟩ : ByteArray)) := (blk_cell BK515.out 1).trans rfl; have hcz48_2 : w47.cell? ⟨gb515, 2, none⟩ = some (.bool false) := (blk_cell BK515.out 2).trans rfl; have hcz48_3 : w47.cell? ⟨gb515, 3, none⟩ = some (.bool false) := (blk_cell BK515.out 3).trans rfl; have hfz48_0 := blk_frozen BK515.out 0; have hfz48_1 := blk_frozen BK515.out 1; have hfz48_2 := blk_frozen BK515.out 2; have hfz48_3 := blk_frozen BK515.out 3))
   have n0_ : Aside0 (Kd.R Kd.string 9 ((((w47.setCell ⟨gb515, 0, none⟩ (.string ((rd_T58 l0 x9_1).f0))).setCell ⟨gb515, 1, none⟩ (.string ((rd_T58 l0 x9_1).f1))).setCell ⟨gb515, 2, none⟩ (.bool ((rd_T58 l0 x9_1).f2))).setCell ⟨gb515, 3, none⟩ (.bool ((rd_T58 l0 x9_1).f3))) w.heap.size (fun _ => True) u3 x3_1) := ⟨by (with_reducible repeat (first | apply Kd.R_alloc | apply Kd.R_drewN | apply Kd.R_drew)); exact Kd.R_mono (Kd.R_far (p := ⟨gb515, 3, none⟩) (Kd.R_far (p := ⟨gb515, 2, none⟩) (Kd.R_far (p := ⟨gb515, 1, none⟩) (Kd.R_far (p := ⟨gb515, 0, none⟩) (Kd.R_types HO_3.out BK515.out (by decide)) (fun _ hk => hk.2) (.string ((rd_T58 l0 x9_1).f0))) (fun _ hk => hk.2) (.string ((rd_T58 l0 x9_1).f1))) (fun _ hk => hk.2) (.bool ((rd_T58 l0 x9_1).f2))) (fun _ hk => hk.2) (.bool ((rd_T58 l0 x9_1).f3))) (fun _ hk => trivial)⟩
   have n1_ : Aside0 (((((w47.setCell ⟨gb515, 0, none⟩ (.string ((rd_T58 l0 x9_1).f0))).setCell ⟨gb515, 1, none⟩ (.string ((rd_T58 l0 x9_1).f1))).setCell ⟨gb515, 2, none⟩ (.bool ((rd_T58 l0 x9_1).f2))).setCell ⟨gb515, 3, none⟩ (.bool ((rd_T58 l0 x9_1).f3))).heap[gb515]? = some (.cells #[.string ((rd_T58 l0 x9_1).f0), .string ((rd_T58 l0 x9_1).f1), .bool ((rd_T58 l0 x9_1).f2), .bool ((rd_T58 l0 x9_1).f3)] 58 (0, 0))) := ⟨bP BK515⟩
   have n2_ : Aside0 (Below w.heap.size w ((((w47.setCell ⟨gb515, 0, none⟩ (.string ((rd_T58 l0 x9_1).f0))).setCell ⟨gb515, 1, none⟩ (.string ((rd_T58 l0 x9_1).f1))).setCell ⟨gb515, 2, none⟩ (.bool ((rd_T58 l0 x9_1).f2))).setCell ⟨gb515, 3, none⟩ (.bool ((rd_T58 l0 x9_1).f3)))) := ⟨bG⟩
   (try clear HO_3)
   (try clear BK515)
   (try clear HB)
   generalize ((((w47.setCell ⟨gb515, 0, none⟩ (.string ((rd_T58 l0 x9_1).f0))).setCell ⟨gb515, 1, none⟩ (.string ((rd_T58 l0 x9_1).f1))).setCell ⟨gb515, 2, none⟩ (.bool ((rd_T58 l0 x9_1).f2))).setCell ⟨gb515, 3, none⟩ (.bool ((rd_T58 l0 x9_1).f3))) = w49 at n0_ n1_ n2_ ⊢
   have HO_3 := n0_
   have BK515 := n1_
   have HB := n2_
   clear n0_ n1_ n2_
   replace HO_3 := Aside0.mk (Kd.R_drew HO_3.out)
   replace BK515 := Aside0.mk (blk_drew BK515.out)
   replace HB := Aside0.mk (below_drew1 HB.out)
   refine start_ (n := 13) (S := fun w' => w'.cell? ⟨gb515, 0, none⟩ = some (.string ((rd_T58 l0 x9_1).f0)) ∧ w'.cell? ⟨gb515, 1, none⟩ = some (.string ((rd_T58 l0 x9_1).f1)) ∧ w'.cell? ⟨gb515, 2, none⟩ = some (.bool ((rd_T58 l0 x9_1).f2)) ∧ w'.cell? ⟨gb515, 3, none⟩ = some (.bool ((rd_T58 l0 x9_1).f3))) (ds := []) #[false, false, false, false, false, false, false, false, false, false, false, false, false] (by kernel_rfl) rfl rfl ⟨(blk_cell BK515.out 0).trans rfl, (blk_cell BK515.out 1).trans rfl, (blk_cell BK515.out 2).trans rfl, (blk_cell BK515.out 3).trans rfl⟩ (fun hHeld => ?_); refine with_tabW span_Text.tab8 span_Text.bits8 (fun HT_ HW_ => ?_)
   generalize w49.drew = w50 at HO_3 BK515 HB hHeld ⊢
   refine pz 0 (some 34) HT_ ?_
   refine pz 1 (some 35) HT_ ?_
   refine pz 4 (some 38) HT_ ?_
   refine pz 6 (some 40) HT_ ?_
   refine tm 2 (some 36) HT_ HW_ hHeld ?_
   refine tm 7 (some 41) HT_ HW_ hHeld ?_
   refine on 3 (some 37) HT_ (fun K hK => ?_)
   refine goes_ Tryd.func98 (by kernel_rfl) rfl #[.bool ((rd_T58 l0 x9_1).f2), .string (⟨#[91]⟩ : ByteArray), .string (⟨#[40]⟩ : ByteArray)] (by rfl) rfl rfl mA ?_
   with_reducible refine (span_mark.calls ((rd_T58 l0 x9_1).f2) (⟨#[91]⟩ : ByteArray) (⟨#[40]⟩ : ByteArray) t531 _ (gS HG) A42.out).mono ?_
   rintro e w' ⟨rfl, ⟨nd, rfl⟩⟩
   refine ⟨_, rfl, ?_⟩
   refine hK.out _ _ ⟨(blk_cell BK515.out 0).trans rfl, (blk_cell BK515.out 1).trans rfl, (blk_cell BK515.out 2).trans rfl, (blk_cell BK515.out 3).trans rfl⟩ (fun hHeld => ?_)
   clear hK K
   refine nz (some 37) ?_
   refine pz 5 (some 39) HT_ ?_
   refine on 8 (some 42) HT_ (fun K hK => ?_)
   refine goes_ Tryd.func98 (by kernel_rfl) rfl #[.bool ((rd_T58 l0 x9_1).f3), .string (⟨#[93]⟩ : ByteArray), .string (⟨#[41]⟩ : ByteArray)] (by rfl) rfl rfl mA ?_
   with_reducible refine (span_mark.calls ((rd_T58 l0 x9_1).f3) (⟨#[93]⟩ : ByteArray) (⟨#[41]⟩ : ByteArray) t532 _ (gS HG) A44.out).mono ?_
   rintro e w' ⟨rfl, ⟨nd, rfl⟩⟩
   refine ⟨_, rfl, ?_⟩
   refine hK.out _ _ ⟨(blk_cell BK515.out 0).trans rfl, (blk_cell BK515.out 1).trans rfl, (blk_cell BK515.out 2).trans rfl, (blk_cell BK515.out 3).trans rfl⟩ (fun hHeld => ?_)
   clear hK K
   refine nz (some 42) ?_
   refine pz 9 (some 43) HT_ ?_
   refine on 10 (some 44) HT_ (fun K hK => ?_)
   refine value_ (w1 := ?_) (v := ?_) (by rfl) rfl ?_ ?_
   rotate_left 2
   ·go_simp
    constructor
    ·rfl
    ·rfl
   refine hK.out _ _ ⟨(blk_cell (blk_alloc BK515.out _) 0).trans rfl, (blk_cell (blk_alloc BK515.out _) 1).trans rfl, (blk_cell (blk_alloc BK515.out _) 2).trans rfl, (blk_cell (blk_alloc BK515.out _) 3).trans rfl⟩ (fun hHeld => ?_)
   clear hK K
   refine nz (some 44) ?_
   refine on 11 (some 45) HT_ (fun K hK => ?_)
   refine Kd.R_append_step Kd.string (w0 := w) w.heap.size (by rfl) (.tmp 34) (.tmp 44) 43 9 (.string ⟨#[]⟩) 16 rfl Tryd.underlying43 info9 rfl (by decide) (by omega) u3 x3_1 ((t531 ++ ((((rd_T58 l0 x9_1).f0) ++ (⟨#[44]⟩ : ByteArray)) ++ ((rd_T58 l0 x9_1).f1))) ++ t532) [.string ((t531 ++ ((((rd_T58 l0 x9_1).f0) ++ (⟨#[44]⟩ : ByteArray)) ++ ((rd_T58 l0 x9_1).f1))) ++ t532)] (fun _ => True) (fun _ => False) rfl rfl ?aP (fun _ hk => hk.elim) ?aF ?aO ?aB ?aS ?aL ?_
   (case aP => exact rfl)
   (case aB => exact bG)
   (case aF => exact (fun _ _ => trivial))
   (case aO => exact (kR HO_3))
   (case aS => exact (below_size bG))
   (case aL => have := LMc46.out; omega)
   intro v534 w51 ho hb hg hat
   rw [← Ny533.out] at ho
   replace BK515 := Aside0.mk (blk_grown (g := gb515) (o := .cells #[.string ((rd_T58 l0 x9_1).f0), .string ((rd_T58 l0 x9_1).f1), .bool ((rd_T58 l0 x9_1).f2), .bool ((rd_T58 l0 x9_1).f3)] 58 (0, 0)) (bK BK515) hg (Kd.R_ne HO_3.out BK515.out (by decide)))
   replace HB := Aside0.mk (hb)
   have HO535 := Aside0.mk (ho)
   clear HO_3
   clear ho hb hg hat
   refine hK.out _ _ ⟨(blk_cell BK515.out 0).trans rfl, (blk_cell BK515.out 1).trans rfl, (blk_cell BK515.out 2).trans rfl, (blk_cell BK515.out 3).trans rfl⟩ (fun hHeld => ?_)
   clear hK K
   refine nz (some 45) ?_
   refine pz 12 (some 3) HT_ ?_
   refine done_ (done_of HT_.out (by kernel_rfl)) ?_
   try go_wp2
   go_roundg k1
   case measure => have := HK1.out; omega
   case rel => exact ⟨(y533), (wrap64 (x9_1 + 1)), cA, H', ⟨by have := HK1.out; omega⟩, ⟨kR HO535⟩, ⟨bG⟩⟩
  rw [if_pos c7] at H
  obtain ⟨c7b0, c7b1⟩ := eqT c7
  clear c7
  obtain ⟨bq8, hbq8⟩ : ∃ b_ : Bool, b_ = ((rd_T58 l0 x9_1).f2) := ⟨_, rfl⟩
  replace H : (if bq8 = true then (if (rd_T58 l0 x9_1).f3 = true then ((span_mark.f (bq8) (⟨#[91]⟩ : ByteArray) (⟨#[40]⟩ : ByteArray)).bind fun t516 => (if t516.size + ((rd_T58 l0 x9_1).f0).size ≤ 9223372036854775807 then ((span_mark.f ((rd_T58 l0 x9_1).f3) (⟨#[93]⟩ : ByteArray) (⟨#[41]⟩ : ByteArray)).bind fun t517 => (if (t516 ++ ((rd_T58 l0 x9_1).f0)).size + t517.size ≤ 9223372036854775807 then (if x3_1.length < 8796093022208 then (span_Text.l0 k1 (x3_1 ++ [(t516 ++ ((rd_T58 l0 x9_1).f0)) ++ t517]) l0 (l0.length : Int) (wrap64 (x9_1 + 1))) else (none)) else (none))) else (none))) else ((span_mark.f (bq8) (⟨#[91]⟩ : ByteArray) (⟨#[40]⟩ : ByteArray)).bind fun t521 => (if t521.size + ((((rd_T58 l0 x9_1).f0) ++ (⟨#[44]⟩ : ByteArray)) ++ ((rd_T58 l0 x9_1).f1)).size ≤ 9223372036854775807 then ((span_mark.f ((rd_T58 l0 x9_1).f3) (⟨#[93]⟩ : ByteArray) (⟨#[41]⟩ : ByteArray)).bind fun t522 => (if (t521 ++ ((((rd_T58 l0 x9_1).f0) ++ (⟨#[44]⟩ : ByteArray)) ++ ((rd_T58 l0 x9_1).f1))).size + t522.size ≤ 9223372036854775807 then (if x3_1.length < 8796093022208 then (span_Text.l0 k1 (x3_1 ++ [(t521 ++ ((((rd_T58 l0 x9_1).f0) ++ (⟨#[44]⟩ : ByteArray)) ++ ((rd_T58 l0 x9_1).f1))) ++ t522]) l0 (l0.length : Int) (wrap64 (x9_1 + 1))) else (none)) else (none))) else (none)))) else ((span_mark.f (bq8) (⟨#[91]⟩ : ByteArray) (⟨#[40]⟩ : ByteArray)).bind fun t526 => (if t526.size + ((((rd_T58 l0 x9_1).f0) ++ (⟨#[44]⟩ : ByteArray)) ++ ((rd_T58 l0 x9_1).f1)).size ≤ 9223372036854775807 then ((span_mark.f ((rd_T58 l0 x9_1).f3) (⟨#[93]⟩ : ByteArray) (⟨#[41]⟩ : ByteArray)).bind fun t527 => (if (t526 ++ ((((rd_T58 l0 x9_1).f0) ++ (⟨#[44]⟩ : ByteArray)) ++ ((rd_T58 l0 x9_1).f1))).size + t527.size ≤ 9223372036854775807 then (if x3_1.length < 8796093022208 then (span_Text.l0 k1 (x3_1 ++ [(t526 ++ ((((rd_T58 l0 x9_1).f0) ++ (⟨#[44]⟩ : ByteArray)) ++ ((rd_T58 l0 x9_1).f1))) ++ t527]) l0 (l0.length : Int) (wrap64 (x9_1 + 1))) else (none)) else (none))) else (none)))) = some r := by rw [← hbq8] at H; exact H
  have Nbq8 := Aside0.mk hbq8
  clear hbq8
  by_cases c9 : bq8 = true
  rotate_left
  ·replace c9 := Bool.eq_false_iff.mpr c9
   subst c9
   have H1 : ((span_mark.f (false) (⟨#[91]⟩ : ByteArray) (⟨#[40]⟩ : ByteArray)).bind fun t526 => (if t526.size + ((((rd_T58 l0 x9_1).f0) ++ (⟨#[44]⟩ : ByteArray)) ++ ((rd_T58 l0 x9_1).f1)).size ≤ 9223372036854775807 then ((span_mark.f ((rd_T58 l0 x9_1).f3) (⟨#[93]⟩ : ByteArray) (⟨#[41]⟩ : ByteArray)).bind fun t527 => (if (t526 ++ ((((rd_T58 l0 x9_1).f0) ++ (⟨#[44]⟩ : ByteArray)) ++ ((rd_T58 l0 x9_1).f1))).size + t527.size ≤ 9223372036854775807 then (if x3_1.length < 8796093022208 then (span_Text.l0 k1 (x3_1 ++ [(t526 ++ ((((rd_T58 l0 x9_1).f0) ++ (⟨#[44]⟩ : ByteArray)) ++ ((rd_T58 l0 x9_1).f1))) ++ t527]) l0 (l0.length : Int) (wrap64 (x9_1 + 1))) else (none)) else (none))) else (none))) = some r := by rw [if_neg (show ¬ (false = true) by decide)] at H; exact H
   clear H
   have H := H1
   clear H1
   replace H := bi H
   obtain ⟨t526, A320, H⟩ := H
   try dsimp only at H
   have A32 := Aside0.mk A320
   clear A320
   by_cases c33 : t526.size + ((((rd_T58 l0 x9_1).f0) ++ (⟨#[44]⟩ : ByteArray)) ++ ((rd_T58 l0 x9_1).f1)).size ≤ 9223372036854775807
   rotate_left
   ·rw [if_neg c33] at H
    exact absurd H (by simp)
   rw [if_pos c33] at H
   have c33b0 := eq_true c33
   have c33b1 := dT c33
   try have c33b2 : (9223372036854775807 < t526.size + ((((rd_T58 l0 x9_1).f0) ++ (⟨#[44]⟩ : ByteArray)) ++ ((rd_T58 l0 x9_1).f1)).size) = False := eq_false (Nat.not_lt.2 c33)
   have c33n : t526.size + ((((rd_T58 l0 x9_1).f0).size + 1) + ((rd_T58 l0 x9_1).f1).size) ≤ 9223372036854775807 := by have z_ := c33; simp only [ByteArray.size_append] at z_; exact z_
   have c33m : (9223372036854775807 < t526.size + ((((rd_T58 l0 x9_1).f0).size + 1) + ((rd_T58 l0 x9_1).f1).size)) = False := eq_false (Nat.not_lt.2 c33n)
   clear c33 c33b0 c33b1
   try clear c33b2
   replace H := bi H
   obtain ⟨t527, A340, H⟩ := H
   try dsimp only at H
   have A34 := Aside0.mk A340
   clear A340
   by_cases c35 : (t526 ++ ((((rd_T58 l0 x9_1).f0) ++ (⟨#[44]⟩ : ByteArray)) ++ ((rd_T58 l0 x9_1).f1))).size + t527.size ≤ 9223372036854775807
   rotate_left
   ·rw [if_neg c35] at H
    exact absurd H (by simp)
   rw [if_pos c35] at H
   have c35b0 := eq_true c35
   have c35b1 := dT c35
   try have c35b2 : (9223372036854775807 < (t526 ++ ((((rd_T58 l0 x9_1).f0) ++ (⟨#[44]⟩ : ByteArray)) ++ ((rd_T58 l0 x9_1).f1))).size + t527.size) = False := eq_false (Nat.not_lt.2 c35)
   have c35n : (t526.size + ((((rd_T58 l0 x9_1).f0).size + 1) + ((rd_T58 l0 x9_1).f1).size)) + t527.size ≤ 9223372036854775807 := by have z_ := c35; simp only [ByteArray.size_append] at z_; exact z_
   have c35m : (9223372036854775807 < (t526.size + ((((rd_T58 l0 x9_1).f0).size + 1) + ((rd_T58 l0 x9_1).f1).size)) + t527.size) = False := eq_false (Nat.not_lt.2 c35n)
   clear c35 c35b0 c35b1
   try clear c35b2
   by_cases c36 : x3_1.length < 8796093022208
   rotate_left
   ·rw [if_neg c36] at H
    exact absurd H (by simp)
   rw [if_pos c36] at H
   have LMc36 := Aside0.mk c36
   clear c36
   obtain ⟨y528, hy528⟩ : ∃ y_ : List ByteArray, y_ = (x3_1 ++ [(t526 ++ ((((rd_T58 l0 x9_1).f0) ++ (⟨#[44]⟩ : ByteArray)) ++ ((rd_T58 l0 x9_1).f1))) ++ t527]) := ⟨_, rfl⟩
   replace H : (span_Text.l0 k1 y528 l0 (l0.length : Int) (wrap64 (x9_1 + 1))) = some r := by first | (rw [hy528]; with_reducible exact H) | (have H2_ := (Option.bind_some _ _).symm.trans H; rw [hy528]; with_reducible exact H2_) | (have H2_ := (Option.bind_some _ _).symm.trans H; with_reducible exact H2_) | with_reducible exact H | (rw [hy528]; exact H) | exact H
   have Ny528 := Aside0.mk hy528
   clear hy528
   have H' := Aside0.mk H
   clear H
   have p514 : 0 ≤ (x9_1 : Int) := dA
   have q514 : x9_1 < (l0.length : Int) := dA
   obtain ⟨ad514, e514, hx514_0, hx514_1, hx514_2, hx514_3⟩ := at_T58 HR0.out x9_1 p514 q514
   (try rw [← Nbq8.out] at hx514_2)
   (try rw [← Nbq8.out] at hx514_3)
   cases e514
   replace hx514_0 := (HB.out.cell (World.block_lt_of_cell? w _ hx514_0)).trans hx514_0
   replace hx514_1 := (HB.out.cell (World.block_lt_of_cell? w _ hx514_1)).trans hx514_1
   replace hx514_2 := (HB.out.cell (World.block_lt_of_cell? w _ hx514_2)).trans hx514_2
   replace hx514_3 := (HB.out.cell (World.block_lt_of_cell? w _ hx514_3)).trans hx514_3
   replace p514 := eq_true p514
   replace q514 := eq_true q514
   try go_wp2_with (first | (refine be 5 #[.string (⟨#[]⟩ : ByteArray), .string (⟨#[]⟩ : ByteArray), .bool false, .bool false] 58 ?_; intro gb515 hg w37 hbox hb; replace HO_3 := rB HO_3 hb; have BK515 := Aside0.mk (hbox); have GW515 := gW hg; have GE515 := gW hg; replace HB := sB hb; clear hb hbox hg; have hcz38_0 : w37.cell? ⟨gb515, 0, none⟩ = some (.string (⟨#[]⟩ : ByteArray)) := (blk_cell BK515.out 0).trans rfl; have hcz38_1 : w37.cell? ⟨gb515, 1, none⟩ = some (.string (⟨#[]⟩ : ByteArray)) := (blk_cell BK515.out 1).trans rfl; have hcz38_2 : w37.cell? ⟨gb515, 2, none⟩ = some (.bool false) := (blk_cell BK515.out 2).trans rfl; have hcz38_3 : w37.cell? ⟨gb515, 3, none⟩ = some (.bool false) := (blk_cell BK515.out 3).trans rfl; have hfz38_0 := blk_frozen BK515.out 0; have hfz38_1 := blk_frozen BK515.out 1; have hfz38_2 := blk_frozen BK515.out 2; have hfz38_3 := blk_frozen BK515.out 3))
   have n0_ : Aside0 (Kd.R Kd.string 9 ((((w37.setCell ⟨gb515, 0, none⟩ (.string ((rd_T58 l0 x9_1).f0))).setCell ⟨gb515, 1, none⟩ (.string ((rd_T58 l0 x9_1).f1))).setCell ⟨gb515, 2, none⟩ (.bool false)).setCell ⟨gb515, 3, none⟩ (.bool ((rd_T58 l0 x9_1).f3))) w.heap.size (fun _ => True) u3 x3_1) := ⟨by (with_reducible repeat (first | apply Kd.R_alloc | apply Kd.R_drewN | apply Kd.R_drew)); exact Kd.R_mono (Kd.R_far (p := ⟨gb515, 3, none⟩) (Kd.R_far (p := ⟨gb515, 2, none⟩) (Kd.R_far (p := ⟨gb515, 1, none⟩) (Kd.R_far (p := ⟨gb515, 0, none⟩) (Kd.R_types HO_3.out BK515.out (by decide)) (fun _ hk => hk.2) (.string ((rd_T58 l0 x9_1).f0))) (fun _ hk => hk.2) (.string ((rd_T58 l0 x9_1).f1))) (fun _ hk => hk.2) (.bool false)) (fun _ hk => hk.2) (.bool ((rd_T58 l0 x9_1).f3))) (fun _ hk => trivial)⟩
   have n1_ : Aside0 (((((w37.setCell ⟨gb515, 0, none⟩ (.string ((rd_T58 l0 x9_1).f0))).setCell ⟨gb515, 1, none⟩ (.string ((rd_T58 l0 x9_1).f1))).setCell ⟨gb515, 2, none⟩ (.bool false)).setCell ⟨gb515, 3, none⟩ (.bool ((rd_T58 l0 x9_1).f3))).heap[gb515]? = some (.cells #[.string ((rd_T58 l0 x9_1).f0), .string ((rd_T58 l0 x9_1).f1), .bool false, .bool ((rd_T58 l0 x9_1).f3)] 58 (0, 0))) := ⟨bP BK515⟩
   have n2_ : Aside0 (Below w.heap.size w ((((w37.setCell ⟨gb515, 0, none⟩ (.string ((rd_T58 l0 x9_1).f0))).setCell ⟨gb515, 1, none⟩ (.string ((rd_T58 l0 x9_1).f1))).setCell ⟨gb515, 2, none⟩ (.bool false)).setCell ⟨gb515, 3, none⟩ (.bool ((rd_T58 l0 x9_1).f3)))) := ⟨bG⟩
   (try clear HO_3)
   (try clear BK515)
   (try clear HB)
   generalize ((((w37.setCell ⟨gb515, 0, none⟩ (.string ((rd_T58 l0 x9_1).f0))).setCell ⟨gb515, 1, none⟩ (.string ((rd_T58 l0 x9_1).f1))).setCell ⟨gb515, 2, none⟩ (.bool false)).setCell ⟨gb515, 3, none⟩ (.bool ((rd_T58 l0 x9_1).f3))) = w39 at n0_ n1_ n2_ ⊢
   have HO_3 := n0_
   have BK515 := n1_
   have HB := n2_
   clear n0_ n1_ n2_
   replace HO_3 := Aside0.mk (Kd.R_drew HO_3.out)
   replace BK515 := Aside0.mk (blk_drew BK515.out)
   replace HB := Aside0.mk (below_drew1 HB.out)
   refine start_ (n := 13) (S := fun w' => w'.cell? ⟨gb515, 0, none⟩ = some (.string ((rd_T58 l0 x9_1).f0)) ∧ w'.cell? ⟨gb515, 1, none⟩ = some (.string ((rd_T58 l0 x9_1).f1)) ∧ w'.cell? ⟨gb515, 2, none⟩ = some (.bool false) ∧ w'.cell? ⟨gb515, 3, none⟩ = some (.bool ((rd_T58 l0 x9_1).f3))) (ds := []) #[false, false, false, false, false, false, false, false, false, false, false, false, false] (by kernel_rfl) rfl rfl ⟨(blk_cell BK515.out 0).trans rfl, (blk_cell BK515.out 1).trans rfl, (blk_cell BK515.out 2).trans rfl, (blk_cell BK515.out 3).trans rfl⟩ (fun hHeld => ?_); refine with_tabW span_Text.tab8 span_Text.bits8 (fun HT_ HW_ => ?_)
   generalize w39.drew = w40 at HO_3 BK515 HB hHeld ⊢
   refine pz 0 (some 34) HT_ ?_
   refine pz 1 (some 35) HT_ ?_
   refine pz 4 (some 38) HT_ ?_
   refine pz 6 (some 40) HT_ ?_
   refine tm 2 (some 36) HT_ HW_ hHeld ?_
   refine tm 7 (some 41) HT_ HW_ hHeld ?_
   refine on 3 (some 37) HT_ (fun K hK => ?_)
   refine goes_ Tryd.func98 (by kernel_rfl) rfl #[.bool false, .string (⟨#[91]⟩ : ByteArray), .string (⟨#[40]⟩ : ByteArray)] (by rfl) rfl rfl mA ?_
   with_reducible refine (span_mark.calls false (⟨#[91]⟩ : ByteArray) (⟨#[40]⟩ : ByteArray) t526 _ (gS HG) A32.out).mono ?_
   rintro e w' ⟨rfl, ⟨nd, rfl⟩⟩
   refine ⟨_, rfl, ?_⟩
   refine hK.out _ _ ⟨(blk_cell BK515.out 0).trans rfl, (blk_cell BK515.out 1).trans rfl, (blk_cell BK515.out 2).trans rfl, (blk_cell BK515.out 3).trans rfl⟩ (fun hHeld => ?_)
   clear hK K
   refine nz (some 37) ?_
   refine pz 5 (some 39) HT_ ?_
   refine on 8 (some 42) HT_ (fun K hK => ?_)
   refine goes_ Tryd.func98 (by kernel_rfl) rfl #[.bool ((rd_T58 l0 x9_1).f3), .string (⟨#[93]⟩ : ByteArray), .string (⟨#[41]⟩ : ByteArray)] (by rfl) rfl rfl mA ?_
   with_reducible refine (span_mark.calls ((rd_T58 l0 x9_1).f3) (⟨#[93]⟩ : ByteArray) (⟨#[41]⟩ : ByteArray) t527 _ (gS HG) A34.out).mono ?_
   rintro e w' ⟨rfl, ⟨nd, rfl⟩⟩
   refine ⟨_, rfl, ?_⟩
   refine hK.out _ _ ⟨(blk_cell BK515.out 0).trans rfl, (blk_cell BK515.out 1).trans rfl, (blk_cell BK515.out 2).trans rfl, (blk_cell BK515.out 3).trans rfl⟩ (fun hHeld => ?_)
   clear hK K
   refine nz (some 42) ?_
   refine pz 9 (some 43) HT_ ?_
   refine on 10 (some 44) HT_ (fun K hK => ?_)
   refine value_ (w1 := ?_) (v := ?_) (by rfl) rfl ?_ ?_
   rotate_left 2
   ·go_simp
    constructor
    ·rfl
    ·rfl
   refine hK.out _ _ ⟨(blk_cell (blk_alloc BK515.out _) 0).trans rfl, (blk_cell (blk_alloc BK515.out _) 1).trans rfl, (blk_cell (blk_alloc BK515.out _) 2).trans rfl, (blk_cell (blk_alloc BK515.out _) 3).trans rfl⟩ (fun hHeld => ?_)
   clear hK K
   refine nz (some 44) ?_
   refine on 11 (some 45) HT_ (fun K hK => ?_)
   refine Kd.R_append_step Kd.string (w0 := w) w.heap.size (by rfl) (.tmp 34) (.tmp 44) 43 9 (.string ⟨#[]⟩) 16 rfl Tryd.underlying43 info9 rfl (by decide) (by omega) u3 x3_1 ((t526 ++ ((((rd_T58 l0 x9_1).f0) ++ (⟨#[44]⟩ : ByteArray)) ++ ((rd_T58 l0 x9_1).f1))) ++ t527) [.string ((t526 ++ ((((rd_T58 l0 x9_1).f0) ++ (⟨#[44]⟩ : ByteArray)) ++ ((rd_T58 l0 x9_1).f1))) ++ t527)] (fun _ => True) (fun _ => False) rfl rfl ?aP (fun _ hk => hk.elim) ?aF ?aO ?aB ?aS ?aL ?_
   (case aP => exact rfl)
   (case aB => exact bG)
   (case aF => exact (fun _ _ => trivial))
   (case aO => exact (kR HO_3))
   (case aS => exact (below_size bG))
   (case aL => have := LMc36.out; omega)
   intro v529 w41 ho hb hg hat
   rw [← Ny528.out] at ho
   replace BK515 := Aside0.mk (blk_grown (g := gb515) (o := .cells #[.string ((rd_T58 l0 x9_1).f0), .string ((rd_T58 l0 x9_1).f1), .bool false, .bool ((rd_T58 l0 x9_1).f3)] 58 (0, 0)) (bK BK515) hg (Kd.R_ne HO_3.out BK515.out (by decide)))
   replace HB := Aside0.mk (hb)
   have HO530 := Aside0.mk (ho)
   clear HO_3
   clear ho hb hg hat
   refine hK.out _ _ ⟨(blk_cell BK515.out 0).trans rfl, (blk_cell BK515.out 1).trans rfl, (blk_cell BK515.out 2).trans rfl, (blk_cell BK515.out 3).trans rfl⟩ (fun hHeld => ?_)
   clear hK K
   refine nz (some 45) ?_
   refine pz 12 (some 3) HT_ ?_
   refine done_ (done_of HT_.out (by kernel_rfl)) ?_
   try go_wp2
   go_roundg k1
   case measure => have := HK1.out; omega
   case rel => exact ⟨(y528), (wrap64 (x9_1 + 1)), cA, H', ⟨by have := HK1.out; omega⟩, ⟨kR HO530⟩, ⟨bG⟩⟩
  subst c9
  have H1 : (if (rd_T58 l0 x9_1).f3 = true then ((span_mark.f (true) (⟨#[91]⟩ : ByteArray) (⟨#[40]⟩ : ByteArray)).bind fun t516 => (if t516.size + ((rd_T58 l0 x9_1).f0).size ≤ 9223372036854775807 then ((span_mark.f ((rd_T58 l0 x9_1).f3) (⟨#[93]⟩ : ByteArray) (⟨#[41]⟩ : ByteArray)).bind fun t517 => (if (t516 ++ ((rd_T58 l0 x9_1).f0)).size + t517.size ≤ 9223372036854775807 then (if x3_1.length < 8796093022208 then (span_Text.l0 k1 (x3_1 ++ [(t516 ++ ((rd_T58 l0 x9_1).f0)) ++ t517]) l0 (l0.length : Int) (wrap64 (x9_1 + 1))) else (none)) else (none))) else (none))) else ((span_mark.f (true) (⟨#[91]⟩ : ByteArray) (⟨#[40]⟩ : ByteArray)).bind fun t521 => (if t521.size + ((((rd_T58 l0 x9_1).f0) ++ (⟨#[44]⟩ : ByteArray)) ++ ((rd_T58 l0 x9_1).f1)).size ≤ 9223372036854775807 then ((span_mark.f ((rd_T58 l0 x9_1).f3) (⟨#[93]⟩ : ByteArray) (⟨#[41]⟩ : ByteArray)).bind fun t522 => (if (t521 ++ ((((rd_T58 l0 x9_1).f0) ++ (⟨#[44]⟩ : ByteArray)) ++ ((rd_T58 l0 x9_1).f1))).size + t522.size ≤ 9223372036854775807 then (if x3_1.length < 8796093022208 then (span_Text.l0 k1 (x3_1 ++ [(t521 ++ ((((rd_T58 l0 x9_1).f0) ++ (⟨#[44]⟩ : ByteArray)) ++ ((rd_T58 l0 x9_1).f1))) ++ t522]) l0 (l0.length : Int) (wrap64 (x9_1 + 1))) else (none)) else (none))) else (none)))) = some r := by rw [if_pos rfl] at H; exact H
  clear H
  have H := H1
  clear H1
  obtain ⟨bq10, hbq10⟩ : ∃ b_ : Bool, b_ = ((rd_T58 l0 x9_1).f3) := ⟨_, rfl⟩
  replace H : (if bq10 = true then ((span_mark.f (true) (⟨#[91]⟩ : ByteArray) (⟨#[40]⟩ : ByteArray)).bind fun t516 => (if t516.size + ((rd_T58 l0 x9_1).f0).size ≤ 9223372036854775807 then ((span_mark.f (bq10) (⟨#[93]⟩ : ByteArray) (⟨#[41]⟩ : ByteArray)).bind fun t517 => (if (t516 ++ ((rd_T58 l0 x9_1).f0)).size + t517.size ≤ 9223372036854775807 then (if x3_1.length < 8796093022208 then (span_Text.l0 k1 (x3_1 ++ [(t516 ++ ((rd_T58 l0 x9_1).f0)) ++ t517]) l0 (l0.length : Int) (wrap64 (x9_1 + 1))) else (none)) else (none))) else (none))) else ((span_mark.f (true) (⟨#[91]⟩ : ByteArray) (⟨#[40]⟩ : ByteArray)).bind fun t521 => (if t521.size + ((((rd_T58 l0 x9_1).f0) ++ (⟨#[44]⟩ : ByteArray)) ++ ((rd_T58 l0 x9_1).f1)).size ≤ 9223372036854775807 then ((span_mark.f (bq10) (⟨#[93]⟩ : ByteArray) (⟨#[41]⟩ : ByteArray)).bind fun t522 => (if (t521 ++ ((((rd_T58 l0 x9_1).f0) ++ (⟨#[44]⟩ : ByteArray)) ++ ((rd_T58 l0 x9_1).f1))).size + t522.size ≤ 9223372036854775807 then (if x3_1.length < 8796093022208 then (span_Text.l0 k1 (x3_1 ++ [(t521 ++ ((((rd_T58 l0 x9_1).f0) ++ (⟨#[44]⟩ : ByteArray)) ++ ((rd_T58 l0 x9_1).f1))) ++ t522]) l0 (l0.length : Int) (wrap64 (x9_1 + 1))) else (none)) else (none))) else (none)))) = some r := by rw [← hbq10] at H; exact H
  have Nbq10 := Aside0.mk hbq10
  clear hbq10
  by_cases c11 : bq10 = true
  ·subst c11
   have H1 : ((span_mark.f (true) (⟨#[91]⟩ : ByteArray) (⟨#[40]⟩ : ByteArray)).bind fun t516 => (if t516.size + ((rd_T58 l0 x9_1).f0).size ≤ 9223372036854775807 then ((span_mark.f (true) (⟨#[93]⟩ : ByteArray) (⟨#[41]⟩ : ByteArray)).bind fun t517 => (if (t516 ++ ((rd_T58 l0 x9_1).f0)).size + t517.size ≤ 9223372036854775807 then (if x3_1.length < 8796093022208 then (span_Text.l0 k1 (x3_1 ++ [(t516 ++ ((rd_T58 l0 x9_1).f0)) ++ t517]) l0 (l0.length : Int) (wrap64 (x9_1 + 1))) else (none)) else (none))) else (none))) = some r := by rw [if_pos rfl] at H; exact H
   clear H
   have H := H1
   clear H1
   replace H := bi H
   obtain ⟨t516, A120, H⟩ := H
   try dsimp only at H
   have A12 := Aside0.mk A120
   clear A120
   by_cases c13 : t516.size + ((rd_T58 l0 x9_1).f0).size ≤ 9223372036854775807
   rotate_left
   ·rw [if_neg c13] at H
    exact absurd H (by simp)
   rw [if_pos c13] at H
   have c13b0 := eq_true c13
   have c13b1 := dT c13
   try have c13b2 : (9223372036854775807 < t516.size + ((rd_T58 l0 x9_1).f0).size) = False := eq_false (Nat.not_lt.2 c13)
   replace H := bi H
   obtain ⟨t517, A140, H⟩ := H
   try dsimp only at H
   have A14 := Aside0.mk A140
   clear A140
   by_cases c15 : (t516 ++ ((rd_T58 l0 x9_1).f0)).size + t517.size ≤ 9223372036854775807
   rotate_left
   ·rw [if_neg c15] at H
    exact absurd H (by simp)
   rw [if_pos c15] at H
   have c15b0 := eq_true c15
   have c15b1 := dT c15
   try have c15b2 : (9223372036854775807 < (t516 ++ ((rd_T58 l0 x9_1).f0)).size + t517.size) = False := eq_false (Nat.not_lt.2 c15)
   have c15n : (t516.size + ((rd_T58 l0 x9_1).f0).size) + t517.size ≤ 9223372036854775807 := by have z_ := c15; simp only [ByteArray.size_append] at z_; exact z_
   have c15m : (9223372036854775807 < (t516.size + ((rd_T58 l0 x9_1).f0).size) + t517.size) = False := eq_false (Nat.not_lt.2 c15n)
   clear c15 c15b0 c15b1
   try clear c15b2
   by_cases c16 : x3_1.length < 8796093022208
   rotate_left
   ·rw [if_neg c16] at H
    exact absurd H (by simp)
   rw [if_pos c16] at H
   have LMc16 := Aside0.mk c16
   clear c16
   obtain ⟨y518, hy518⟩ : ∃ y_ : List ByteArray, y_ = (x3_1 ++ [(t516 ++ ((rd_T58 l0 x9_1).f0)) ++ t517]) := ⟨_, rfl⟩
   replace H : (span_Text.l0 k1 y518 l0 (l0.length : Int) (wrap64 (x9_1 + 1))) = some r := by first | (rw [hy518]; with_reducible exact H) | (have H2_ := (Option.bind_some _ _).symm.trans H; rw [hy518]; with_reducible exact H2_) | (have H2_ := (Option.bind_some _ _).symm.trans H; with_reducible exact H2_) | with_reducible exact H | (rw [hy518]; exact H) | exact H
   have Ny518 := Aside0.mk hy518
   clear hy518
   have H' := Aside0.mk H
   clear H
   have p514 : 0 ≤ (x9_1 : Int) := dA
   have q514 : x9_1 < (l0.length : Int) := dA
   obtain ⟨ad514, e514, hx514_0, hx514_1, hx514_2, hx514_3⟩ := at_T58 HR0.out x9_1 p514 q514
   (try rw [← Nbq8.out] at hx514_2)
   (try rw [← Nbq10.out] at hx514_2)
   (try rw [← Nbq8.out] at hx514_3)
   (try rw [← Nbq10.out] at hx514_3)
   cases e514
   replace hx514_0 := (HB.out.cell (World.block_lt_of_cell? w _ hx514_0)).trans hx514_0
   replace hx514_1 := (HB.out.cell (World.block_lt_of_cell? w _ hx514_1)).trans hx514_1
   replace hx514_2 := (HB.out.cell (World.block_lt_of_cell? w _ hx514_2)).trans hx514_2
   replace hx514_3 := (HB.out.cell (World.block_lt_of_cell? w _ hx514_3)).trans hx514_3
   replace p514 := eq_true p514
   replace q514 := eq_true q514
   try go_wp2_with (first | (refine be 5 #[.string (⟨#[]⟩ : ByteArray), .string (⟨#[]⟩ : ByteArray), .bool false, .bool false] 58 ?_; intro gb515 hg w17 hbox hb; replace HO_3 := rB HO_3 hb; have BK515 := Aside0.mk (hbox); have GW515 := gW hg; have GE515 := gW hg; replace HB := sB hb; clear hb hbox hg; have hcz18_0 : w17.cell? ⟨gb515, 0, none⟩ = some (.string (⟨#[]⟩ : ByteArray)) := (blk_cell BK515.out 0).trans rfl; have hcz18_1 : w17.cell? ⟨gb515, 1, none⟩ = some (.string (⟨#[]⟩ : ByteArray)) := (blk_cell BK515.out 1).trans rfl; have hcz18_2 : w17.cell? ⟨gb515, 2, none⟩ = some (.bool false) := (blk_cell BK515.out 2).trans rfl; have hcz18_3 : w17.cell? ⟨gb515, 3, none⟩ = some (.bool false) := (blk_cell BK515.out 3).trans rfl; have hfz18_0 := blk_frozen BK515.out 0; have hfz18_1 := blk_frozen BK515.out 1; have hfz18_2 := blk_frozen BK515.out 2; have hfz18_3 := blk_frozen BK515.out 3))
   have n0_ : Aside0 (Kd.R Kd.string 9 ((((w17.setCell ⟨gb515, 0, none⟩ (.string ((rd_T58 l0 x9_1).f0))).setCell ⟨gb515, 1, none⟩ (.string ((rd_T58 l0 x9_1).f1))).setCell ⟨gb515, 2, none⟩ (.bool true)).setCell ⟨gb515, 3, none⟩ (.bool true)) w.heap.size (fun _ => True) u3 x3_1) := ⟨by (with_reducible repeat (first | apply Kd.R_alloc | apply Kd.R_drewN | apply Kd.R_drew)); exact Kd.R_mono (Kd.R_far (p := ⟨gb515, 3, none⟩) (Kd.R_far (p := ⟨gb515, 2, none⟩) (Kd.R_far (p := ⟨gb515, 1, none⟩) (Kd.R_far (p := ⟨gb515, 0, none⟩) (Kd.R_types HO_3.out BK515.out (by decide)) (fun _ hk => hk.2) (.string ((rd_T58 l0 x9_1).f0))) (fun _ hk => hk.2) (.string ((rd_T58 l0 x9_1).f1))) (fun _ hk => hk.2) (.bool true)) (fun _ hk => hk.2) (.bool true)) (fun _ hk => trivial)⟩
   have n1_ : Aside0 (((((w17.setCell ⟨gb515, 0, none⟩ (.string ((rd_T58 l0 x9_1).f0))).setCell ⟨gb515, 1, none⟩ (.string ((rd_T58 l0 x9_1).f1))).setCell ⟨gb515, 2, none⟩ (.bool true)).setCell ⟨gb515, 3, none⟩ (.bool true)).heap[gb515]? = some (.cells #[.string ((rd_T58 l0 x9_1).f0), .string ((rd_T58 l0 x9_1).f1), .bool true, .bool true] 58 (0, 0))) := ⟨bP BK515⟩
   have n2_ : Aside0 (Below w.heap.size w ((((w17.setCell ⟨gb515, 0, none⟩ (.string ((rd_T58 l0 x9_1).f0))).setCell ⟨gb515, 1, none⟩ (.string ((rd_T58 l0 x9_1).f1))).setCell ⟨gb515, 2, none⟩ (.bool true)).setCell ⟨gb515, 3, none⟩ (.bool true))) := ⟨bG⟩
   (try clear HO_3)
   (try clear BK515)
   (try clear HB)
   generalize ((((w17.setCell ⟨gb515, 0, none⟩ (.string ((rd_T58 l0 x9_1).f0))).setCell ⟨gb515, 1, none⟩ (.string ((rd_T58 l0 x9_1).f1))).setCell ⟨gb515, 2, none⟩ (.bool true)).setCell ⟨gb515, 3, none⟩ (.bool true)) = w19 at n0_ n1_ n2_ ⊢
   have HO_3 := n0_
   have BK515 := n1_
   have HB := n2_
   clear n0_ n1_ n2_
   replace HO_3 := Aside0.mk (Kd.R_drew HO_3.out)
   replace BK515 := Aside0.mk (blk_drew BK515.out)
   replace HB := Aside0.mk (below_drew1 HB.out)
   refine start_ (n := 13) (S := fun w' => w'.cell? ⟨gb515, 0, none⟩ = some (.string ((rd_T58 l0 x9_1).f0)) ∧ w'.cell? ⟨gb515, 1, none⟩ = some (.string ((rd_T58 l0 x9_1).f1)) ∧ w'.cell? ⟨gb515, 2, none⟩ = some (.bool true) ∧ w'.cell? ⟨gb515, 3, none⟩ = some (.bool true)) (ds := []) #[false, false, false, false, false, false, false, false, false, false, false, false, false] (by kernel_rfl) rfl rfl ⟨(blk_cell BK515.out 0).trans rfl, (blk_cell BK515.out 1).trans rfl, (blk_cell BK515.out 2).trans rfl, (blk_cell BK515.out 3).trans rfl⟩ (fun hHeld => ?_); refine with_tabW span_Text.tab8 span_Text.bits8 (fun HT_ HW_ => ?_)
   generalize w19.drew = w20 at HO_3 BK515 HB hHeld ⊢
   refine pz 0 (some 34) HT_ ?_
   refine pz 1 (some 35) HT_ ?_
   refine pz 4 (some 38) HT_ ?_
   refine pz 6 (some 40) HT_ ?_
   refine tm 2 (some 36) HT_ HW_ hHeld ?_
   refine tm 7 (some 41) HT_ HW_ hHeld ?_
   refine on 3 (some 37) HT_ (fun K hK => ?_)
   refine goes_ Tryd.func98 (by kernel_rfl) rfl #[.bool true, .string (⟨#[91]⟩ : ByteArray), .string (⟨#[40]⟩ : ByteArray)] (by rfl) rfl rfl mA ?_
   with_reducible refine (span_mark.calls true (⟨#[91]⟩ : ByteArray) (⟨#[40]⟩ : ByteArray) t516 _ (gS HG) A12.out).mono ?_
   rintro e w' ⟨rfl, ⟨nd, rfl⟩⟩
   refine ⟨_, rfl, ?_⟩
   refine hK.out _ _ ⟨(blk_cell BK515.out 0).trans rfl, (blk_cell BK515.out 1).trans rfl, (blk_cell BK515.out 2).trans rfl, (blk_cell BK515.out 3).trans rfl⟩ (fun hHeld => ?_)
   clear hK K
   refine nz (some 37) ?_
   refine pz 5 (some 39) HT_ ?_
   refine on 8 (some 42) HT_ (fun K hK => ?_)
   refine goes_ Tryd.func98 (by kernel_rfl) rfl #[.bool true, .string (⟨#[93]⟩ : ByteArray), .string (⟨#[41]⟩ : ByteArray)] (by rfl) rfl rfl mA ?_
   with_reducible refine (span_mark.calls true (⟨#[93]⟩ : ByteArray) (⟨#[41]⟩ : ByteArray) t517 _ (gS HG) A14.out).mono ?_
   rintro e w' ⟨rfl, ⟨nd, rfl⟩⟩
   refine ⟨_, rfl, ?_⟩
   refine hK.out _ _ ⟨(blk_cell BK515.out 0).trans rfl, (blk_cell BK515.out 1).trans rfl, (blk_cell BK515.out 2).trans rfl, (blk_cell BK515.out 3).trans rfl⟩ (fun hHeld => ?_)
   clear hK K
   refine nz (some 42) ?_
   refine pz 9 (some 43) HT_ ?_
   refine on 10 (some 44) HT_ (fun K hK => ?_)
   refine value_ (w1 := ?_) (v := ?_) (by rfl) rfl ?_ ?_
   rotate_left 2
   ·go_simp
    constructor
    ·rfl
    ·rfl
   refine hK.out _ _ ⟨(blk_cell (blk_alloc BK515.out _) 0).trans rfl, (blk_cell (blk_alloc BK515.out _) 1).trans rfl, (blk_cell (blk_alloc BK515.out _) 2).trans rfl, (blk_cell (blk_alloc BK515.out _) 3).trans rfl⟩ (fun hHeld => ?_)
   clear hK K
   refine nz (some 44) ?_
   refine on 11 (some 45) HT_ (fun K hK => ?_)
   refine Kd.R_append_step Kd.string (w0 := w) w.heap.size (by rfl) (.tmp 34) (.tmp 44) 43 9 (.string ⟨#[]⟩) 16 rfl Tryd.underlying43 info9 rfl (by decide) (by omega) u3 x3_1 ((t516 ++ ((rd_T58 l0 x9_1).f0)) ++ t517) [.string ((t516 ++ ((rd_T58 l0 x9_1).f0)) ++ t517)] (fun _ => True) (fun _ => False) rfl rfl ?aP (fun _ hk => hk.elim) ?aF ?aO ?aB ?aS ?aL ?_
   (case aP => exact rfl)
   (case aB => exact bG)
   (case aF => exact (fun _ _ => trivial))
   (case aO => exact (kR HO_3))
   (case aS => exact (below_size bG))
   (case aL => have := LMc16.out; omega)
   intro v519 w21 ho hb hg hat
   rw [← Ny518.out] at ho
   replace BK515 := Aside0.mk (blk_grown (g := gb515) (o := .cells #[.string ((rd_T58 l0 x9_1).f0), .string ((rd_T58 l0 x9_1).f1), .bool true, .bool true] 58 (0, 0)) (bK BK515) hg (Kd.R_ne HO_3.out BK515.out (by decide)))
   replace HB := Aside0.mk (hb)
   have HO520 := Aside0.mk (ho)
   clear HO_3
   clear ho hb hg hat
   refine hK.out _ _ ⟨(blk_cell BK515.out 0).trans rfl, (blk_cell BK515.out 1).trans rfl, (blk_cell BK515.out 2).trans rfl, (blk_cell BK515.out 3).trans rfl⟩ (fun hHeld => ?_)
   clear hK K
   refine nz (some 45) ?_
   refine pz 12 (some 3) HT_ ?_
   refine done_ (done_of HT_.out (by kernel_rfl)) ?_
   try go_wp2
   go_roundg k1
   case measure => have := HK1.out; omega
   case rel => exact ⟨(y518), (wrap64 (x9_1 + 1)), cA, H', ⟨by have := HK1.out; omega⟩, ⟨kR HO520⟩, ⟨bG⟩⟩
  replace c11 := Bool.eq_false_iff.mpr c11
  subst c11
  have H1 : ((span_mark.f (true) (⟨#[91]⟩ : ByteArray) (⟨#[40]⟩ : ByteArray)).bind fun t521 => (if t521.size + ((((rd_T58 l0 x9_1).f0) ++ (⟨#[44]⟩ : ByteArray)) ++ ((rd_T58 l0 x9_1).f1)).size ≤ 9223372036854775807 then ((span_mark.f (false) (⟨#[93]⟩ : ByteArray) (⟨#[41]⟩ : ByteArray)).bind fun t522 => (if (t521 ++ ((((rd_T58 l0 x9_1).f0) ++ (⟨#[44]⟩ : ByteArray)) ++ ((rd_T58 l0 x9_1).f1))).size + t522.size ≤ 9223372036854775807 then (if x3_1.length < 8796093022208 then (span_Text.l0 k1 (x3_1 ++ [(t521 ++ ((((rd_T58 l0 x9_1).f0) ++ (⟨#[44]⟩ : ByteArray)) ++ ((rd_T58 l0 x9_1).f1))) ++ t522]) l0 (l0.length : Int) (wrap64 (x9_1 + 1))) else (none)) else (none))) else (none))) = some r := by rw [if_neg (show ¬ (false = true) by decide)] at H; exact H
  clear H
  have H := H1
  clear H1
  replace H := bi H
  obtain ⟨t521, A220, H⟩ := H
  try dsimp only at H
  have A22 := Aside0.mk A220
  clear A220
  by_cases c23 : t521.size + ((((rd_T58 l0 x9_1).f0) ++ (⟨#[44]⟩ : ByteArray)) ++ ((rd_T58 l0 x9_1).f1)).size ≤ 9223372036854775807
  rotate_left
  ·rw [if_neg c23] at H
   exact absurd H (by simp)
  rw [if_pos c23] at H
  have c23b0 := eq_true c23
  have c23b1 := dT c23
  try have c23b2 : (9223372036854775807 < t521.size + ((((rd_T58 l0 x9_1).f0) ++ (⟨#[44]⟩ : ByteArray)) ++ ((rd_T58 l0 x9_1).f1)).size) = False := eq_false (Nat.not_lt.2 c23)
  have c23n : t521.size + ((((rd_T58 l0 x9_1).f0).size + 1) + ((rd_T58 l0 x9_1).f1).size) ≤ 9223372036854775807 := by have z_ := c23; simp only [ByteArray.size_append] at z_; exact z_
  have c23m : (9223372036854775807 < t521.size + ((((rd_T58 l0 x9_1).f0).size + 1) + ((rd_T58 l0 x9_1).f1).size)) = False := eq_false (Nat.not_lt.2 c23n)
  clear c23 c23b0 c23b1
  try clear c23b2
  replace H := bi H
  obtain ⟨t522, A240, H⟩ := H
  try dsimp only at H
  have A24 := Aside0.mk A240
  clear A240
  by_cases c25 : (t521 ++ ((((rd_T58 l0 x9_1).f0) ++ (⟨#[44]⟩ : ByteArray)) ++ ((rd_T58 l0 x9_1).f1))).size + t522.size ≤ 9223372036854775807
  rotate_left
  ·rw [if_neg c25] at H
   exact absurd H (by simp)
  rw [if_pos c25] at H
  have c25b0 := eq_true c25
  have c25b1 := dT c25
  try have c25b2 : (9223372036854775807 < (t521 ++ ((((rd_T58 l0 x9_1).f0) ++ (⟨#[44]⟩ : ByteArray)) ++ ((rd_T58 l0 x9_1).f1))).size + t522.size) = False := eq_false (Nat.not_lt.2 c25)
  have c25n : (t521.size + ((((rd_T58 l0 x9_1).f0).size + 1) + ((rd_T58 l0 x9_1).f1).size)) + t522.size ≤ 9223372036854775807 := by have z_ := c25; simp only [ByteArray.size_append] at z_; exact z_
  have c25m : (9223372036854775807 < (t521.size + ((((rd_T58 l0 x9_1).f0).size + 1) + ((rd_T58 l0 x9_1).f1).size)) + t522.size) = False := eq_false (Nat.not_lt.2 c25n)
  clear c25 c25b0 c25b1
  try clear c25b2
  by_cases c26 : x3_1.length < 8796093022208
  rotate_left
  ·rw [if_neg c26] at H
   exact absurd H (by simp)
  rw [if_pos c26] at H
  have LMc26 := Aside0.mk c26
  clear c26
  obtain ⟨y523, hy523⟩ : ∃ y_ : List ByteArray, y_ = (x3_1 ++ [(t521 ++ ((((rd_T58 l0 x9_1).f0) ++ (⟨#[44]⟩ : ByteArray)) ++ ((rd_T58 l0 x9_1).f1))) ++ t522]) := ⟨_, rfl⟩
  replace H : (span_Text.l0 k1 y523 l0 (l0.length : Int) (wrap64 (x9_1 + 1))) = some r := by first | (rw [hy523]; with_reducible exact H) | (have H2_ := (Option.bind_some _ _).symm.trans H; rw [hy523]; with_reducible exact H2_) | (have H2_ := (Option.bind_some _ _).symm.trans H; with_reducible exact H2_) | with_reducible exact H | (rw [hy523]; exact H) | exact H
  have Ny523 := Aside0.mk hy523
  clear hy523
  have H' := Aside0.mk H
  clear H
  have p514 : 0 ≤ (x9_1 : Int) := dA
  have q514 : x9_1 < (l0.length : Int) := dA
  obtain ⟨ad514, e514, hx514_0, hx514_1, hx514_2, hx514_3⟩ := at_T58 HR0.out x9_1 p514 q514
  (try rw [← Nbq8.out] at hx514_2)
  (try rw [← Nbq10.out] at hx514_2)
  (try rw [← Nbq8.out] at hx514_3)
  (try rw [← Nbq10.out] at hx514_3)
  cases e514
  replace hx514_0 := (HB.out.cell (World.block_lt_of_cell? w _ hx514_0)).trans hx514_0
  replace hx514_1 := (HB.out.cell (World.block_lt_of_cell? w _ hx514_1)).trans hx514_1
  replace hx514_2 := (HB.out.cell (World.block_lt_of_cell? w _ hx514_2)).trans hx514_2
  replace hx514_3 := (HB.out.cell (World.block_lt_of_cell? w _ hx514_3)).trans hx514_3
  replace p514 := eq_true p514
  replace q514 := eq_true q514
  try go_wp2_with (first | (refine be 5 #[.string (⟨#[]⟩ : ByteArray), .string (⟨#[]⟩ : ByteArray), .bool false, .bool false] 58 ?_; intro gb515 hg w27 hbox hb; replace HO_3 := rB HO_3 hb; have BK515 := Aside0.mk (hbox); have GW515 := gW hg; have GE515 := gW hg; replace HB := sB hb; clear hb hbox hg; have hcz28_0 : w27.cell? ⟨gb515, 0, none⟩ = some (.string (⟨#[]⟩ : ByteArray)) := (blk_cell BK515.out 0).trans rfl; have hcz28_1 : w27.cell? ⟨gb515, 1, none⟩ = some (.string (⟨#[]⟩ : ByteArray)) := (blk_cell BK515.out 1).trans rfl; have hcz28_2 : w27.cell? ⟨gb515, 2, none⟩ = some (.bool false) := (blk_cell BK515.out 2).trans rfl; have hcz28_3 : w27.cell? ⟨gb515, 3, none⟩ = some (.bool false) := (blk_cell BK515.out 3).trans rfl; have hfz28_0 := blk_frozen BK515.out 0; have hfz28_1 := blk_frozen BK515.out 1; have hfz28_2 := blk_frozen BK515.out 2; have hfz28_3 := blk_frozen BK515.out 3))
  have n0_ : Aside0 (Kd.R Kd.string 9 ((((w27.setCell ⟨gb515, 0, none⟩ (.string ((rd_T58 l0 x9_1).f0))).setCell ⟨gb515, 1, none⟩ (.string ((rd_T58 l0 x9_1).f1))).setCell ⟨gb515, 2, none⟩ (.bool true)).setCell ⟨gb515, 3, none⟩ (.bool false)) w.heap.size (fun _ => True) u3 x3_1) := ⟨by (with_reducible repeat (first | apply Kd.R_alloc | apply Kd.R_drewN | apply Kd.R_drew)); exact Kd.R_mono (Kd.R_far (p := ⟨gb515, 3, none⟩) (Kd.R_far (p := ⟨gb515, 2, none⟩) (Kd.R_far (p := ⟨gb515, 1, none⟩) (Kd.R_far (p := ⟨gb515, 0, none⟩) (Kd.R_types HO_3.out BK515.out (by decide)) (fun _ hk => hk.2) (.string ((rd_T58 l0 x9_1).f0))) (fun _ hk => hk.2) (.string ((rd_T58 l0 x9_1).f1))) (fun _ hk => hk.2) (.bool true)) (fun _ hk => hk.2) (.bool false)) (fun _ hk => trivial)⟩
  have n1_ : Aside0 (((((w27.setCell ⟨gb515, 0, none⟩ (.string ((rd_T58 l0 x9_1).f0))).setCell ⟨gb515, 1, none⟩ (.string ((rd_T58 l0 x9_1).f1))).setCell ⟨gb515, 2, none⟩ (.bool true)).setCell ⟨gb515, 3, none⟩ (.bool false)).heap[gb515]? = some (.cells #[.string ((rd_T58 l0 x9_1).f0), .string ((rd_T58 l0 x9_1).f1), .bool true, .bool false] 58 (0, 0))) := ⟨bP BK515⟩
  have n2_ : Aside0 (Below w.heap.size w ((((w27.setCell ⟨gb515, 0, none⟩ (.string ((rd_T58 l0 x9_1).f0))).setCell ⟨gb515, 1, none⟩ (.string ((rd_T58 l0 x9_1).f1))).setCell ⟨gb515, 2, none⟩ (.bool true)).setCell ⟨gb515, 3, none⟩ (.bool false))) := ⟨bG⟩
  (try clear HO_3)
  (try clear BK515)
  (try clear HB)
  generalize ((((w27.setCell ⟨gb515, 0, none⟩ (.string ((rd_T58 l0 x9_1).f0))).setCell ⟨gb515, 1, none⟩ (.string ((rd_T58 l0 x9_1).f1))).setCell ⟨gb515, 2, none⟩ (.bool true)).setCell ⟨gb515, 3, none⟩ (.bool false)) = w29 at n0_ n1_ n2_ ⊢
  have HO_3 := n0_
  have BK515 := n1_
  have HB := n2_
  clear n0_ n1_ n2_
  replace HO_3 := Aside0.mk (Kd.R_drew HO_3.out)
  replace BK515 := Aside0.mk (blk_drew BK515.out)
  replace HB := Aside0.mk (below_drew1 HB.out)
  refine start_ (n := 13) (S := fun w' => w'.cell? ⟨gb515, 0, none⟩ = some (.string ((rd_T58 l0 x9_1).f0)) ∧ w'.cell? ⟨gb515, 1, none⟩ = some (.string ((rd_T58 l0 x9_1).f1)) ∧ w'.cell? ⟨gb515, 2, none⟩ = some (.bool true) ∧ w'.cell? ⟨gb515, 3, none⟩ = some (.bool false)) (ds := []) #[false, false, false, false, false, false, false, false, false, false, false, false, false] (by kernel_rfl) rfl rfl ⟨(blk_cell BK515.out 0).trans rfl, (blk_cell BK515.out 1).trans rfl, (blk_cell BK515.out 2).trans rfl, (blk_cell BK515.out 3).trans rfl⟩ (fun hHeld => ?_); refine with_tabW span_Text.tab8 span_Text.bits8 (fun HT_ HW_ => ?_)
  generalize w29.drew = w30 at HO_3 BK515 HB hHeld ⊢
  refine pz 0 (some 34) HT_ ?_
  refine pz 1 (some 35) HT_ ?_
  refine pz 4 (some 38) HT_ ?_
  refine pz 6 (some 40) HT_ ?_
  refine tm 2 (some 36) HT_ HW_ hHeld ?_
  refine tm 7 (some 41) HT_ HW_ hHeld ?_
  refine on 3 (some 37) HT_ (fun K hK => ?_)
  refine goes_ Tryd.func98 (by kernel_rfl) rfl #[.bool true, .string (⟨#[91]⟩ : ByteArray), .string (⟨#[40]⟩ : ByteArray)] (by rfl) rfl rfl mA ?_
  with_reducible refine (span_mark.calls true (⟨#[91]⟩ : ByteArray) (⟨#[40]⟩ : ByteArray) t521 _ (gS HG) A22.out).mono ?_
  rintro e w' ⟨rfl, ⟨nd, rfl⟩⟩
  refine ⟨_, rfl, ?_⟩
  refine hK.out _ _ ⟨(blk_cell BK515.out 0).trans rfl, (blk_cell BK515.out 1).trans rfl, (blk_cell BK515.out 2).trans rfl, (blk_cell BK515.out 3).trans rfl⟩ (fun hHeld => ?_)
  clear hK K
  refine nz (some 37) ?_
  refine pz 5 (some 39) HT_ ?_
  refine on 8 (some 42) HT_ (fun K hK => ?_)
  refine goes_ Tryd.func98 (by kernel_rfl) rfl #[.bool false, .string (⟨#[93]⟩ : ByteArray), .string (⟨#[41]⟩ : ByteArray)] (by rfl) rfl rfl mA ?_
  with_reducible refine (span_mark.calls false (⟨#[93]⟩ : ByteArray) (⟨#[41]⟩ : ByteArray) t522 _ (gS HG) A24.out).mono ?_
  rintro e w' ⟨rfl, ⟨nd, rfl⟩⟩
  refine ⟨_, rfl, ?_⟩
  refine hK.out _ _ ⟨(blk_cell BK515.out 0).trans rfl, (blk_cell BK515.out 1).trans rfl, (blk_cell BK515.out 2).trans rfl, (blk_cell BK515.out 3).trans rfl⟩ (fun hHeld => ?_)
  clear hK K
  refine nz (some 42) ?_
  refine pz 9 (some 43) HT_ ?_
  refine on 10 (some 44) HT_ (fun K hK => ?_)
  refine value_ (w1 := ?_) (v := ?_) (by rfl) rfl ?_ ?_
  rotate_left 2
  ·go_simp
   constructor
   ·rfl
   ·rfl
  refine hK.out _ _ ⟨(blk_cell (blk_alloc BK515.out _) 0).trans rfl, (blk_cell (blk_alloc BK515.out _) 1).trans rfl, (blk_cell (blk_alloc BK515.out _) 2).trans rfl, (blk_cell (blk_alloc BK515.out _) 3).trans rfl⟩ (fun hHeld => ?_)
  clear hK K
  refine nz (some 44) ?_
  refine on 11 (some 45) HT_ (fun K hK => ?_)
  refine Kd.R_append_step Kd.string (w0 := w) w.heap.size (by rfl) (.tmp 34) (.tmp 44) 43 9 (.string ⟨#[]⟩) 16 rfl Tryd.underlying43 info9 rfl (by decide) (by omega) u3 x3_1 ((t521 ++ ((((rd_T58 l0 x9_1).f0) ++ (⟨#[44]⟩ : ByteArray)) ++ ((rd_T58 l0 x9_1).f1))) ++ t522) [.string ((t521 ++ ((((rd_T58 l0 x9_1).f0) ++ (⟨#[44]⟩ : ByteArray)) ++ ((rd_T58 l0 x9_1).f1))) ++ t522)] (fun _ => True) (fun _ => False) rfl rfl ?aP (fun _ hk => hk.elim) ?aF ?aO ?aB ?aS ?aL ?_
  (case aP => exact rfl)
  (case aB => exact bG)
  (case aF => exact (fun _ _ => trivial))
  (case aO => exact (kR HO_3))
  (case aS => exact (below_size bG))
  (case aL => have := LMc26.out; omega)
  intro v524 w31 ho hb hg hat
  rw [← Ny523.out] at ho
  replace BK515 := Aside0.mk (blk_grown (g := gb515) (o := .cells #[.string ((rd_T58 l0 x9_1).f0), .string ((rd_T58 l0 x9_1).f1), .bool true, .bool false] 58 (0, 0)) (bK BK515) hg (Kd.R_ne HO_3.out BK515.out (by decide)))
  replace HB := Aside0.mk (hb)
  have HO525 := Aside0.mk (ho)
  clear HO_3
  clear ho hb hg hat
  refine hK.out _ _ ⟨(blk_cell BK515.out 0).trans rfl, (blk_cell BK515.out 1).trans rfl, (blk_cell BK515.out 2).trans rfl, (blk_cell BK515.out 3).trans rfl⟩ (fun hHeld => ?_)
  clear hK K
  refine nz (some 45) ?_
  refine pz 12 (some 3) HT_ ?_
  refine done_ (done_of HT_.out (by kernel_rfl)) ?_
  try go_wp2
  go_roundg k1
  case measure => have := HK1.out; omega
  case rel => exact ⟨(y523), (wrap64 (x9_1 + 1)), cA, H', ⟨by have := HK1.out; omega⟩, ⟨kR HO525⟩, ⟨bG⟩⟩
def newellaw07_awake.f (k : Nat)  : Option (Bool) := (span_Parse.f k (⟨#[91, 49, 44, 50, 41]⟩ : ByteArray)).bind fun bt537 => (if bt537.2 = 0 then (if (bt537.1.length : Int) = 1 then ((span_Holds.f k bt537.1 (⟨#[49, 46, 53]⟩ : ByteArray)).bind fun t541 => (if t541 = true then ((span_Is.f (⟨#[40]⟩ : ByteArray)).bind fun t542 => (if t542 = true then ((span_Text.f k bt537.1).bind fun t543 => (some (t543.toList == ([91, 49, 44, 50, 41] : List UInt8)))) else (some false))) else (some false))) else (some false)) else (some false))
theorem newellaw07_awake.mono : ∀ k, LeO (newellaw07_awake.f k ) (newellaw07_awake.f (k + 1) ) := by
 intro  k
 unfold newellaw07_awake.f
 have m0 := @span_Holds.mono
 have m1 := @span_Parse.mono
 have m2 := @span_Text.mono
 exact mo
theorem newellaw07_awake.calls (k : Nat)  (r : Bool) (w : World) (hG : Glob w) (h : newellaw07_awake.f k  = some r) :
 Calls Tryd.prog 57 #[] w fun e w' => e = .returned (.bool r) ∧ Below w.heap.size w w' := by
 have HG := Aside0.mk hG
 clear hG
 have HB := Aside0.mk (Below.refl w.heap.size w)
 have H : ((span_Parse.f k (⟨#[91, 49, 44, 50, 41]⟩ : ByteArray)).bind fun bt537 => (if bt537.2 = 0 then (if (bt537.1.length : Int) = 1 then ((span_Holds.f k bt537.1 (⟨#[49, 46, 53]⟩ : ByteArray)).bind fun t541 => (if t541 = true then ((span_Is.f (⟨#[40]⟩ : ByteArray)).bind fun t542 => (if t542 = true then ((span_Text.f k bt537.1).bind fun t543 => (some (t543.toList == ([91, 49, 44, 50, 41] : List UInt8)))) else (some false))) else (some false))) else (some false)) else (some false))) = some r := h
 clear h
 replace H := bi H
 obtain ⟨⟨t537, t538⟩, A10, H⟩ := H
 try dsimp only at H
 have A1 := Aside0.mk A10
 clear A10
 by_cases c2 : t538 = 0
 rotate_left
 ·rw [if_neg c2] at H
  obtain ⟨c2b0, c2b1⟩ := eqF c2
  obtain rfl := Option.some.inj H
  go_enter Tryd.func57, Tryd.ntmps57
  go_wp2_with (first | (refine gl (some 4) Tryd.func56 #[.string (⟨#[91, 49, 44, 50, 41]⟩ : ByteArray)] ?_; (with_reducible refine (span_Parse.calls k (⟨#[91, 49, 44, 50, 41]⟩ : ByteArray) t537 t538 _ (gS HG) A1.out).mono ?_); rintro e w21 ⟨v539, rfl, ho0, hb⟩; refine ⟨_, rfl, ?_⟩; have HO540 := Aside0.mk (Kd.R_lower ho0 (below_size bE)); replace HB := sB hb; (try clear hb); (try clear ho0)))
  go_ret
  exact ⟨eA, bE⟩
 rw [if_pos c2] at H
 obtain ⟨c2b0, c2b1⟩ := eqT c2
 clear c2
 by_cases c3 : (t537.length : Int) = 1
 rotate_left
 ·rw [if_neg c3] at H
  obtain ⟨c3b0, c3b1⟩ := eqF c3
  obtain rfl := Option.some.inj H
  go_enter Tryd.func57, Tryd.ntmps57
  go_wp2_with (first | (refine gl (some 4) Tryd.func56 #[.string (⟨#[91, 49, 44, 50, 41]⟩ : ByteArray)] ?_; (with_reducible refine (span_Parse.calls k (⟨#[91, 49, 44, 50, 41]⟩ : ByteArray) t537 t538 _ (gS HG) A1.out).mono ?_); rintro e w19 ⟨v539, rfl, ho0, hb⟩; refine ⟨_, rfl, ?_⟩; have HO540 := Aside0.mk (Kd.R_lower ho0 (below_size bE)); replace HB := sB hb; (try clear hb); (try clear ho0); obtain ⟨Ao20, co20, eo20⟩ := Kd.R_slice HO540.out; subst eo20))
  go_ret
  exact ⟨eA, bE⟩
 rw [if_pos c3] at H
 obtain ⟨c3b0, c3b1⟩ := eqT c3
 clear c3
 replace H := bi H
 obtain ⟨t541, A40, H⟩ := H
 try dsimp only at H
 have A4 := Aside0.mk A40
 clear A40
 by_cases c5 : t541 = true
 rotate_left
 ·replace c5 := Bool.eq_false_iff.mpr c5
  subst c5
  have H1 : (some false) = some r := by rw [if_neg (show ¬ (false = true) by decide)] at H; exact H
  clear H
  have H := H1
  clear H1
  obtain rfl := Option.some.inj H
  go_enter Tryd.func57, Tryd.ntmps57
  go_wp2_with (first | (refine gl (some 4) Tryd.func56 #[.string (⟨#[91, 49, 44, 50, 41]⟩ : ByteArray)] ?_; (with_reducible refine (span_Parse.calls k (⟨#[91, 49, 44, 50, 41]⟩ : ByteArray) t537 t538 _ (gS HG) A1.out).mono ?_); rintro e w16 ⟨v539, rfl, ho0, hb⟩; refine ⟨_, rfl, ?_⟩; have HO540 := Aside0.mk (Kd.R_lower ho0 (below_size bE)); replace HB := sB hb; (try clear hb); (try clear ho0); obtain ⟨Ao17, co17, eo17⟩ := Kd.R_slice HO540.out; subst eo17) | (go_at_call 58; (with_reducible refine (span_Holds.calls k _ _ t537 (⟨#[49, 46, 53]⟩ : ByteArray) false _ ?side1 ?side2 (gS HG) A4.out).mono ?_); (case side1 => repeat (first | exact (Kd.R_reads' HO540.out).2.2 | (with_reducible refine Kd.C_alloc ?_ _) | (with_reducible refine Kd.C_drewN ?_ _) | (with_reducible refine Kd.C_drew ?_))); (case side2 => exact (Kd.R_reads' HO540.out).2.1); rintro e w18 ⟨rfl, hb⟩; replace HO540 := rB HO540 hb; replace HB := sB hb; (try clear hb)))
  go_ret
  exact ⟨eA, bE⟩
 subst c5
 have H1 : ((span_Is.f (⟨#[40]⟩ : ByteArray)).bind fun t542 => (if t542 = true then ((span_Text.f k t537).bind fun t543 => (some (t543.toList == ([91, 49, 44, 50, 41] : List UInt8)))) else (some false))) = some r := by rw [if_pos rfl] at H; exact H
 clear H
 have H := H1
 clear H1
 replace H := bi H
 obtain ⟨t542, A60, H⟩ := H
 try dsimp only at H
 have A6 := Aside0.mk A60
 clear A60
 by_cases c7 : t542 = true
 rotate_left
 ·replace c7 := Bool.eq_false_iff.mpr c7
  subst c7
  have H1 : (some false) = some r := by rw [if_neg (show ¬ (false = true) by decide)] at H; exact H
  clear H
  have H := H1
  clear H1
  obtain rfl := Option.some.inj H
  go_enter Tryd.func57, Tryd.ntmps57
  go_wp2_with (first | (refine gl (some 4) Tryd.func56 #[.string (⟨#[91, 49, 44, 50, 41]⟩ : ByteArray)] ?_; (with_reducible refine (span_Parse.calls k (⟨#[91, 49, 44, 50, 41]⟩ : ByteArray) t537 t538 _ (gS HG) A1.out).mono ?_); rintro e w13 ⟨v539, rfl, ho0, hb⟩; refine ⟨_, rfl, ?_⟩; have HO540 := Aside0.mk (Kd.R_lower ho0 (below_size bE)); replace HB := sB hb; (try clear hb); (try clear ho0); obtain ⟨Ao14, co14, eo14⟩ := Kd.R_slice HO540.out; subst eo14) | (go_at_call 58; (with_reducible refine (span_Holds.calls k _ _ t537 (⟨#[49, 46, 53]⟩ : ByteArray) true _ ?side1 ?side2 (gS HG) A4.out).mono ?_); (case side1 => repeat (first | exact (Kd.R_reads' HO540.out).2.2 | (with_reducible refine Kd.C_alloc ?_ _) | (with_reducible refine Kd.C_drewN ?_ _) | (with_reducible refine Kd.C_drew ?_))); (case side2 => exact (Kd.R_reads' HO540.out).2.1); rintro e w15 ⟨rfl, hb⟩; replace HO540 := rB HO540 hb; replace HB := sB hb; (try clear hb)) | (go_at_call 86; (with_reducible refine (span_Is.calls (⟨#[40]⟩ : ByteArray) false _ (gS HG) A6.out).mono ?_); rintro e w' ⟨rfl, ⟨nd, rfl⟩⟩))
  go_ret
  exact ⟨eA, bE⟩
 subst c7
 have H1 : ((span_Text.f k t537).bind fun t543 => (some (t543.toList == ([91, 49, 44, 50, 41] : List UInt8)))) = some r := by rw [if_pos rfl] at H; exact H
 clear H
 have H := H1
 clear H1
 replace H := bi H
 obtain ⟨t543, A80, H⟩ := H
 try dsimp only at H
 have A8 := Aside0.mk A80
 clear A80
 obtain rfl := Option.some.inj H
 go_enter Tryd.func57, Tryd.ntmps57
 go_wp2_with (first | (refine gl (some 4) Tryd.func56 #[.string (⟨#[91, 49, 44, 50, 41]⟩ : ByteArray)] ?_; (with_reducible refine (span_Parse.calls k (⟨#[91, 49, 44, 50, 41]⟩ : ByteArray) t537 t538 _ (gS HG) A1.out).mono ?_); rintro e w9 ⟨v539, rfl, ho0, hb⟩; refine ⟨_, rfl, ?_⟩; have HO540 := Aside0.mk (Kd.R_lower ho0 (below_size bE)); replace HB := sB hb; (try clear hb); (try clear ho0); obtain ⟨Ao10, co10, eo10⟩ := Kd.R_slice HO540.out; subst eo10) | (go_at_call 58; (with_reducible refine (span_Holds.calls k _ _ t537 (⟨#[49, 46, 53]⟩ : ByteArray) true _ ?side1 ?side2 (gS HG) A4.out).mono ?_); (case side1 => repeat (first | exact (Kd.R_reads' HO540.out).2.2 | (with_reducible refine Kd.C_alloc ?_ _) | (with_reducible refine Kd.C_drewN ?_ _) | (with_reducible refine Kd.C_drew ?_))); (case side2 => exact (Kd.R_reads' HO540.out).2.1); rintro e w11 ⟨rfl, hb⟩; replace HO540 := rB HO540 hb; replace HB := sB hb; (try clear hb)) | (go_at_call 86; (with_reducible refine (span_Is.calls (⟨#[40]⟩ : ByteArray) true _ (gS HG) A6.out).mono ?_); rintro e w' ⟨rfl, ⟨nd, rfl⟩⟩) | (go_at_call 59; (with_reducible refine (span_Text.calls k _ _ t537 t543 _ ?side1 ?side2 (gS HG) A8.out).mono ?_); (case side1 => repeat (first | exact (Kd.R_reads' HO540.out).2.2 | (with_reducible refine Kd.C_alloc ?_ _) | (with_reducible refine Kd.C_drewN ?_ _) | (with_reducible refine Kd.C_drew ?_))); (case side2 => exact (Kd.R_reads' HO540.out).2.1); rintro e w12 ⟨rfl, hb⟩; replace HO540 := rB HO540 hb; replace HB := sB hb; (try clear hb)))
 go_ret
 exact ⟨eA, bE⟩
def newellaw07_few.l0 : Nat → List (S58) → Int → Option (Bool)
 | 0, _, _ => none
 | k + 1, x0, x3 => if x3 < (x0.length : Int) then (if 0 ≤ x3 then (if (((rd_T58 x0 x3).f0).size : Int) > 100 then (some false) else (if (((rd_T58 x0 x3).f1).size : Int) > 100 then (some false) else (newellaw07_few.l0 k x0 (wrap64 (x3 + 1))))) else (none)) else (some (decide ((x0.length : Int) ≤ 20)))
def newellaw07_few.f (k : Nat) (l0 : List (S58)) : Option (Bool) := newellaw07_few.l0 k l0 0
theorem newellaw07_few.mono_l : ∀ k, (∀ y0 y1, LeO (newellaw07_few.l0 k y0 y1) (newellaw07_few.l0 (k + 1) y0 y1))
 | 0 => fun _ _ r h => by simp [newellaw07_few.l0] at h
 | k + 1 => by
  have ih0 := newellaw07_few.mono_l k
  ·intro y0 y1
   unfold newellaw07_few.l0
   exact mo
theorem newellaw07_few.mono : ∀ a0 k, LeO (newellaw07_few.f k a0) (newellaw07_few.f (k + 1) a0) := by
 intro a0 k
 have ih0 := newellaw07_few.mono_l k
 unfold newellaw07_few.f
 exact mo
theorem newellaw07_few.calls (k : Nat) (A0 : Option Addr) (c0 : Nat) (l0 : List (S58)) (r : Bool) (w : World) (hr0 : Kd.C k58 w A0 l0.length l0) (hc0 : l0.length ≤ c0) (hG : Glob w) (h : newellaw07_few.f k l0 = some r) :
 Calls Tryd.prog 61 #[.slice A0 l0.length c0] w fun e w' => e = .returned (.bool r) ∧ Drawn0 w w' := by
 have HG := Aside0.mk hG
 clear hG
 have HR0 := Aside0.mk hr0
 have HC0 := Aside0.mk hc0
 clear hr0 hc0
 have H : (newellaw07_few.l0 k l0 0) = some r := h
 clear h
 have H' := Aside0.mk H
 clear H
 go_enter Tryd.func61, Tryd.ntmps61
 go_wp2
 go_loopg [3] k (fun kq v3 w' => ∃ (x3_1 : Int), v3 = .int .i64 x3_1 ∧ Aside0 (newellaw07_few.l0 kq l0 x3_1 = some r) ∧ Aside0 (kq ≤ k) ∧ Drawn0 w w')
 case atStart => exact ⟨(0), cA, H', ⟨Nat.le_refl _⟩, by repeat (first | exact Drawn0.refl _ | apply Drawn0.step)⟩
 clear H'
 obtain ⟨x3_1, rfl, HA, HK1, ⟨m1, rfl⟩⟩ := hrel
 cases gk with
 | zero => exact absurd HA.out (by simp [newellaw07_few.l0])
 | succ k1 =>
  have H := HA.out
  clear HA
  simp only [newellaw07_few.l0] at H
  by_cases c2 : x3_1 < (l0.length : Int)
  rotate_left
  ·rw [if_neg c2] at H
   have c2b0 := dF c2
   clear c2
   obtain rfl := Option.some.inj H
   go_wp2
   go_ret
   exact ⟨by first | rfl | (simp; done) | (simp [*]; done), by repeat (first | exact Drawn0.refl _ | apply Drawn0.step)⟩
  rw [if_pos c2] at H
  have c2b0 := dT c2
  clear c2
  by_cases c3 : 0 ≤ x3_1
  rotate_left
  ·rw [if_neg c3] at H
   exact absurd H (by simp)
  rw [if_pos c3] at H
  have c3b0 := dT c3
  clear c3
  by_cases c4 : (((rd_T58 l0 x3_1).f0).size : Int) > 100
  ·rw [if_pos c4] at H
   have c4b0 := dT c4
   have c4b1 : decide (100 < ((rd_T58 l0 x3_1).f0).size) = true := decide_eq_true (by omega)
   clear c4
   obtain rfl := Option.some.inj H
   have p512 : 0 ≤ (x3_1 : Int) := dA
   have q512 : x3_1 < (l0.length : Int) := dA
   obtain ⟨ad512, e512, hx512_0, hx512_1, hx512_2, hx512_3⟩ := at_T58 HR0.out x3_1 p512 q512
   cases e512
   replace p512 := eq_true p512
   replace q512 := eq_true q512
   go_wp2
   go_ret
   exact ⟨by first | rfl | (simp; done) | (simp [*]; done), by repeat (first | exact Drawn0.refl _ | apply Drawn0.step)⟩
  rw [if_neg c4] at H
  have c4b0 := dF c4
  have c4b1 : decide (100 < ((rd_T58 l0 x3_1).f0).size) = false := decide_eq_false (by omega)
  clear c4
  by_cases c5 : (((rd_T58 l0 x3_1).f1).size : Int) > 100
  ·rw [if_pos c5] at H
   have c5b0 := dT c5
   have c5b1 : decide (100 < ((rd_T58 l0 x3_1).f1).size) = true := decide_eq_true (by omega)
   clear c5
   obtain rfl := Option.some.inj H
   have p512 : 0 ≤ (x3_1 : Int) := dA
   have q512 : x3_1 < (l0.length : Int) := dA
   obtain ⟨ad512, e512, hx512_0, hx512_1, hx512_2, hx512_3⟩ := at_T58 HR0.out x3_1 p512 q512
   cases e512
   replace p512 := eq_true p512
   replace q512 := eq_true q512
   have p513 : 0 ≤ (x3_1 : Int) := dA
   have q513 : x3_1 < (l0.length : Int) := dA
   obtain ⟨ad513, e513, hx513_0, hx513_1, hx513_2, hx513_3⟩ := at_T58 HR0.out x3_1 p513 q513
   obtain rfl : ad512 = ad513 := (by injection e513)
   replace p513 := eq_true p513
   replace q513 := eq_true q513
   go_wp2
   go_ret
   exact ⟨by first | rfl | (simp; done) | (simp [*]; done), by repeat (first | exact Drawn0.refl _ | apply Drawn0.step)⟩
  rw [if_neg c5] at H
  have c5b0 := dF c5
  have c5b1 : decide (100 < ((rd_T58 l0 x3_1).f1).size) = false := decide_eq_false (by omega)
  clear c5
  have H' := Aside0.mk H
  clear H
  have p512 : 0 ≤ (x3_1 : Int) := dA
  have q512 : x3_1 < (l0.length : Int) := dA
  obtain ⟨ad512, e512, hx512_0, hx512_1, hx512_2, hx512_3⟩ := at_T58 HR0.out x3_1 p512 q512
  cases e512
  replace p512 := eq_true p512
  replace q512 := eq_true q512
  have p513 : 0 ≤ (x3_1 : Int) := dA
  have q513 : x3_1 < (l0.length : Int) := dA
  obtain ⟨ad513, e513, hx513_0, hx513_1, hx513_2, hx513_3⟩ := at_T58 HR0.out x3_1 p513 q513
  obtain rfl : ad512 = ad513 := (by injection e513)
  replace p513 := eq_true p513
  replace q513 := eq_true q513
  go_wp2
  go_roundg k1
  case measure => have := HK1.out; omega
  case rel => exact ⟨(wrap64 (x3_1 + 1)), cA, H', ⟨by have := HK1.out; omega⟩, by repeat (first | exact Drawn0.refl _ | apply Drawn0.step)⟩
mutual
def newelref05_Text.l0 : Nat → List (S58) → ByteArray → Int → Option (ByteArray)
 | 0, _, _, _ => none
 | k + 1, x0, x3, x4 => if x4 < (x0.length : Int) then (if 0 ≤ x4 then (if x4 > 0 then (if x3.size + 1 ≤ 9223372036854775807 then (newelref05_Text.j1 k x0 (x3 ++ (⟨#[44]⟩ : ByteArray)) x4 ((rd_T58 x0 x4).f0) ((rd_T58 x0 x4).f1) ((rd_T58 x0 x4).f2) ((rd_T58 x0 x4).f3)) else (none)) else (newelref05_Text.j1 k x0 x3 x4 ((rd_T58 x0 x4).f0) ((rd_T58 x0 x4).f1) ((rd_T58 x0 x4).f2) ((rd_T58 x0 x4).f3))) else (none)) else (some x3)
def newelref05_Text.j1 : Nat → List (S58) → ByteArray → Int → ByteArray → ByteArray → Bool → Bool → Option (ByteArray)
 | 0, _, _, _, _, _, _, _ => none
 | k + 1, x0, x3, x4, x546000, x546001, x546002, x546003 => if x546002 = true then (if x3.size + 1 ≤ 9223372036854775807 then (newelref05_Text.j2 k x0 (x3 ++ (⟨#[91]⟩ : ByteArray)) x4 x546000 x546001 x546002 x546003) else (none)) else (if x3.size + 1 ≤ 9223372036854775807 then (newelref05_Text.j2 k x0 (x3 ++ (⟨#[40]⟩ : ByteArray)) x4 x546000 x546001 x546002 x546003) else (none))
def newelref05_Text.j2 : Nat → List (S58) → ByteArray → Int → ByteArray → ByteArray → Bool → Bool → Option (ByteArray)
 | 0, _, _, _, _, _, _, _ => none
 | k + 1, x0, x3, x4, x546000, x546001, x546002, x546003 => if x3.size + x546000.size ≤ 9223372036854775807 then (if x546000.toList = x546001.toList then (if x546002 = true then (newelref05_Text.j3 k x0 (x3 ++ x546000) x4 (!x546003) x546000 x546001 x546002 x546003) else (newelref05_Text.j3 k x0 (x3 ++ x546000) x4 true x546000 x546001 x546002 x546003)) else (newelref05_Text.j3 k x0 (x3 ++ x546000) x4 true x546000 x546001 x546002 x546003)) else (none)
def newelref05_Text.j3 : Nat → List (S58) → ByteArray → Int → Bool → ByteArray → ByteArray → Bool → Bool → Option (ByteArray)
 | 0, _, _, _, _, _, _, _, _ => none
 | k + 1, x0, x3, x4, x44, x546000, x546001, x546002, x546003 => if x44 = true then (if x3.size + 1 ≤ 9223372036854775807 then (if (x3 ++ (⟨#[44]⟩ : ByteArray)).size + x546001.size ≤ 9223372036854775807 then (if x546003 = true then (if ((x3 ++ (⟨#[44]⟩ : ByteArray)) ++ x546001).size + 1 ≤ 9223372036854775807 then (newelref05_Text.l0 k x0 (((x3 ++ (⟨#[44]⟩ : ByteArray)) ++ x546001) ++ (⟨#[93]⟩ : ByteArray)) (wrap64 (x4 + 1))) else (none)) else (if ((x3 ++ (⟨#[44]⟩ : ByteArray)) ++ x546001).size + 1 ≤ 9223372036854775807 then (newelref05_Text.l0 k x0 (((x3 ++ (⟨#[44]⟩ : ByteArray)) ++ x546001) ++ (⟨#[41]⟩ : ByteArray)) (wrap64 (x4 + 1))) else (none))) else (none)) else (none)) else (if x546003 = true then (if x3.size + 1 ≤ 9223372036854775807 then (newelref05_Text.l0 k x0 (x3 ++ (⟨#[93]⟩ : ByteArray)) (wrap64 (x4 + 1))) else (none)) else (if x3.size + 1 ≤ 9223372036854775807 then (newelref05_Text.l0 k x0 (x3 ++ (⟨#[41]⟩ : ByteArray)) (wrap64 (x4 + 1))) else (none)))
end
def newelref05_Text.f (k : Nat) (l0 : List (S58)) : Option (ByteArray) := newelref05_Text.l0 k l0 (⟨#[]⟩ : ByteArray) 0
theorem newelref05_Text.mono_l : ∀ k, (∀ y0 y1 y2, LeO (newelref05_Text.l0 k y0 y1 y2) (newelref05_Text.l0 (k + 1) y0 y1 y2)) ∧ (∀ y0 y1 y2 y3 y4 y5 y6, LeO (newelref05_Text.j1 k y0 y1 y2 y3 y4 y5 y6) (newelref05_Text.j1 (k + 1) y0 y1 y2 y3 y4 y5 y6)) ∧ (∀ y0 y1 y2 y3 y4 y5 y6, LeO (newelref05_Text.j2 k y0 y1 y2 y3 y4 y5 y6) (newelref05_Text.j2 (k + 1) y0 y1 y2 y3 y4 y5 y6)) ∧ (∀ y0 y1 y2 y3 y4 y5 y6 y7, LeO (newelref05_Text.j3 k y0 y1 y2 y3 y4 y5 y6 y7) (newelref05_Text.j3 (k + 1) y0 y1 y2 y3 y4 y5 y6 y7))
 | 0 => ⟨fun _ _ _ r h => by simp [newelref05_Text.l0] at h, fun _ _ _ _ _ _ _ r h => by simp [newelref05_Text.j1] at h, fun _ _ _ _ _ _ _ r h => by simp [newelref05_Text.j2] at h, fun _ _ _ _ _ _ _ _ r h => by simp [newelref05_Text.j3] at h⟩
 | k + 1 => by
  obtain ⟨ih0, ih1, ih2, ih3⟩ := newelref05_Text.mono_l k
  refine ⟨?_, ?_, ?_, ?_⟩
  ·intro y0 y1 y2
   unfold newelref05_Text.l0
   exact mo
  ·intro y0 y1 y2 y3 y4 y5 y6
   unfold newelref05_Text.j1
   exact mo
  ·intro y0 y1 y2 y3 y4 y5 y6
   unfold newelref05_Text.j2
   exact mo
  ·intro y0 y1 y2 y3 y4 y5 y6 y7
   unfold newelref05_Text.j3
   exact mo
theorem newelref05_Text.mono : ∀ a0 k, LeO (newelref05_Text.f k a0) (newelref05_Text.f (k + 1) a0) := by
 intro a0 k
 obtain ⟨ih0, ih1, ih2, ih3⟩ := newelref05_Text.mono_l k
 unfold newelref05_Text.f
 exact mo
theorem newelref05_Text.calls (k : Nat) (A0 : Option Addr) (c0 : Nat) (l0 : List (S58)) (r : ByteArray) (w : World) (hr0 : Kd.C k58 w A0 l0.length l0) (hc0 : l0.length ≤ c0) (hG : Glob w) (h : newelref05_Text.f k l0 = some r) :
 Calls Tryd.prog 102 #[.slice A0 l0.length c0] w fun e w' => e = .returned (.string r) ∧ Below w.heap.size w w' := by
 have hu58 := Tryd.underlying58
 have HG := Aside0.mk hG
 clear hG
 have HR0 := Aside0.mk hr0
 have HC0 := Aside0.mk hc0
 clear hr0 hc0
 have HB := Aside0.mk (Below.refl w.heap.size w)
 have H : (newelref05_Text.l0 k l0 (⟨#[]⟩ : ByteArray) 0) = some r := h
 clear h
 have H' := Aside0.mk H
 clear H
 go_enter Tryd.func102, Tryd.ntmps102
 go_wp2
 go_loopg [3, 4] k (fun kq v3 v4 w' => ∃ (x3_1 : ByteArray) (x4_1 : Int), v3 = .string x3_1 ∧ v4 = .int .i64 x4_1 ∧ Aside0 (newelref05_Text.l0 kq l0 x3_1 x4_1 = some r) ∧ Aside0 (kq ≤ k) ∧ Aside0 (Below w.heap.size w w'))
 case atStart => exact ⟨((⟨#[]⟩ : ByteArray)), (0), cA, cA, H', ⟨Nat.le_refl _⟩, ⟨bE⟩⟩
 clear H'
 try clear c1
 obtain ⟨x3_1, x4_1, rfl, rfl, HA, HK1, HB⟩ := hrel
 cases gk with
 | zero => exact absurd HA.out (by simp [newelref05_Text.l0])
 | succ k1 =>
  have H := HA.out
  clear HA
  simp only [newelref05_Text.l0] at H
  (try simp only [toList_lit] at H)
  by_cases c2 : x4_1 < (l0.length : Int)
  rotate_left
  ·rw [if_neg c2] at H
   have c2b0 := dF c2
   clear c2
   obtain rfl := Option.some.inj H
   go_wp2
   go_ret
   exact ⟨eA, bE⟩
  rw [if_pos c2] at H
  have c2b0 := dT c2
  clear c2
  by_cases c3 : 0 ≤ x4_1
  rotate_left
  ·rw [if_neg c3] at H
   exact absurd H (by simp)
  rw [if_pos c3] at H
  have c3b0 := dT c3
  clear c3
  have HC4 := Aside0.mk H
  clear H
  have p544 : 0 ≤ (x4_1 : Int) := dA
  have q544 : x4_1 < (l0.length : Int) := dA
  obtain ⟨ad544, e544, hx544_0, hx544_1, hx544_2, hx544_3⟩ := at_T58 HR0.out x4_1 p544 q544
  cases e544
  replace hx544_0 := (HB.out.cell (World.block_lt_of_cell? w _ hx544_0)).trans hx544_0
  replace hx544_1 := (HB.out.cell (World.block_lt_of_cell? w _ hx544_1)).trans hx544_1
  replace hx544_2 := (HB.out.cell (World.block_lt_of_cell? w _ hx544_2)).trans hx544_2
  replace hx544_3 := (HB.out.cell (World.block_lt_of_cell? w _ hx544_3)).trans hx544_3
  replace p544 := eq_true p544
  replace q544 := eq_true q544
  go_upto_if 17 with (first | (refine be 5 #[.string (⟨#[]⟩ : ByteArray), .string (⟨#[]⟩ : ByteArray), .bool false, .bool false] 58 ?_; intro gb545 hg w5 hbox hb; have BK545 := Aside0.mk (hbox); have GW545 := gW hg; have GE545 := gW hg; replace HB := sB hb; clear hb hbox hg; have hcz6_0 : w5.cell? ⟨gb545, 0, none⟩ = some (.string (⟨#[]⟩ : ByteArray)) := (blk_cell BK545.out 0).trans rfl; have hcz6_1 : w5.cell? ⟨gb545, 1, none⟩ = some (.string (⟨#[]⟩ : ByteArray)) := (blk_cell BK545.out 1).trans rfl; have hcz6_2 : w5.cell? ⟨gb545, 2, none⟩ = some (.bool false) := (blk_cell BK545.out 2).trans rfl; have hcz6_3 : w5.cell? ⟨gb545, 3, none⟩ = some (.bool false) := (blk_cell BK545.out 3).trans rfl; have hfz6_0 := blk_frozen BK545.out 0; have hfz6_1 := blk_frozen BK545.out 1; have hfz6_2 := blk_frozen BK545.out 2; have hfz6_3 := blk_frozen BK545.out 3))
  (try simp only [Act.put, List.setIfInBounds_toArray, List.set_cons_zero, List.set_cons_succ])
  go_cut [3] (fun v3 wc => ∃ (kq : Nat) (x3_3 : ByteArray), v3 = .string x3_3 ∧ Aside0 (newelref05_Text.j1 kq l0 x3_3 x4_1 ((rd_T58 l0 x4_1).f0) ((rd_T58 l0 x4_1).f1) ((rd_T58 l0 x4_1).f2) ((rd_T58 l0 x4_1).f3) = some r) ∧ Aside0 (kq ≤ k1) ∧ Aside0 (wc.heap[gb545]? = some (.cells #[.string ((rd_T58 l0 x4_1).f0), .string ((rd_T58 l0 x4_1).f1), .bool ((rd_T58 l0 x4_1).f2), .bool ((rd_T58 l0 x4_1).f3)] 58 (0, 0))) ∧ Aside0 (Below w.heap.size w wc))
  case first =>
   have H := HC4.out
   clear HC4
   by_cases c7 : x4_1 > 0
   rotate_left
   ·rw [if_neg c7] at H
    have c7b0 := dF c7
    clear c7
    (first | rw [c7b0] | (simp only [i64_w, i32_w]; rw [c7b0]) | skip)
    have H' := Aside0.mk H
    clear H
    go_wp2
    go_meet
    case rel => exact ⟨_, (x3_1), cA, H', ⟨by have := HK1.out; first | omega | exact Nat.le_refl _⟩, ⟨bP BK545⟩, ⟨bG⟩⟩
   rw [if_pos c7] at H
   have c7b0 := dT c7
   clear c7
   (first | rw [c7b0] | (simp only [i64_w, i32_w]; rw [c7b0]) | skip)
   by_cases c8 : x3_1.size + 1 ≤ 9223372036854775807
   rotate_left
   ·rw [if_neg c8] at H
    exact absurd H (by simp)
   rw [if_pos c8] at H
   have c8b0 := eq_true c8
   have c8b1 := dT c8
   try have c8b2 : (9223372036854775807 < x3_1.size + 1) = False := eq_false (Nat.not_lt.2 c8)
   have H' := Aside0.mk H
   clear H
   go_wp2
   go_meet
   case rel => exact ⟨_, (x3_1 ++ (⟨#[44]⟩ : ByteArray)), cA, H', ⟨by have := HK1.out; first | omega | exact Nat.le_refl _⟩, ⟨bP BK545⟩, ⟨bG⟩⟩
  clear HC4
  try clear c1
  try clear c2
  try clear c2b0
  try clear p2
  try clear c3
  try clear c3b0
  try clear p5
  try clear q5
  try clear hx5
  try clear c7
  try clear c7b0
  try clear c8
  try clear c8b0
  try clear c8b1
  try clear c8b2
  try clear hcz6_0
  try clear hcz6_1
  try clear hcz6_2
  try clear hcz6_3
  try clear hfz6_0
  try clear hfz6_1
  try clear hfz6_2
  try clear hfz6_3
  try clear hx544_0
  try clear hx544_1
  try clear hx544_2
  try clear hx544_3
  try clear p544
  try clear q544
  obtain ⟨kq, x3_3, rfl, HA, HJ3, BK545, HB⟩ := hcut
  cases kq with
  | zero => exact absurd HA.out (by simp [newelref05_Text.j1])
  | succ kj3 =>
   have H := HA.out
   clear HA
   simp only [newelref05_Text.j1] at H
   (try simp only [toList_lit] at H)
   have HC9 := Aside0.mk H
   clear H
   obtain ⟨hcz10_0, hcz10_1, hcz10_2, hcz10_3, hfz10_0, hfz10_1, hfz10_2, hfz10_3⟩ := cells4 BK545
   go_upto_if 21 with (fail)
   go_cut [3] (fun v3 wc => ∃ (kq : Nat) (x3_8 : ByteArray), v3 = .string x3_8 ∧ Aside0 (newelref05_Text.j2 kq l0 x3_8 x4_1 ((rd_T58 l0 x4_1).f0) ((rd_T58 l0 x4_1).f1) ((rd_T58 l0 x4_1).f2) ((rd_T58 l0 x4_1).f3) = some r) ∧ Aside0 (kq ≤ kj3) ∧ Aside0 (wc.heap[gb545]? = some (.cells #[.string ((rd_T58 l0 x4_1).f0), .string ((rd_T58 l0 x4_1).f1), .bool ((rd_T58 l0 x4_1).f2), .bool ((rd_T58 l0 x4_1).f3)] 58 (0, 0))) ∧ Aside0 (Below w.heap.size w wc))
   case first =>
    have H := HC9.out
    clear HC9
    by_cases c11 : ((rd_T58 l0 x4_1).f2) = true
    rotate_left
    ·rw [if_neg c11] at H
     have c11b0 : ((rd_T58 l0 x4_1).f2) = false := by simpa using c11
     clear c11
     (first | rw [c11b0] | (simp only [i64_w, i32_w]; rw [c11b0]) | skip)
     by_cases c13 : x3_3.size + 1 ≤ 9223372036854775807
     rotate_left
     ·rw [if_neg c13] at H
      exact absurd H (by simp)
     rw [if_pos c13] at H
     have c13b0 := eq_true c13
     have c13b1 := dT c13
     try have c13b2 : (9223372036854775807 < x3_3.size + 1) = False := eq_false (Nat.not_lt.2 c13)
     have H' := Aside0.mk H
     clear H
     go_wp2
     go_meet
     case rel => exact ⟨_, (x3_3 ++ (⟨#[40]⟩ : ByteArray)), cA, H', ⟨by have := HK1.out; have := HJ3.out; first | omega | exact Nat.le_refl _⟩, ⟨bK BK545⟩, ⟨bG⟩⟩
    rw [if_pos c11] at H
    have c11b0 : ((rd_T58 l0 x4_1).f2) = true := c11
    clear c11
    (first | rw [c11b0] | (simp only [i64_w, i32_w]; rw [c11b0]) | skip)
    by_cases c12 : x3_3.size + 1 ≤ 9223372036854775807
    rotate_left
    ·rw [if_neg c12] at H
     exact absurd H (by simp)
    rw [if_pos c12] at H
    have c12b0 := eq_true c12
    have c12b1 := dT c12
    try have c12b2 : (9223372036854775807 < x3_3.size + 1) = False := eq_false (Nat.not_lt.2 c12)
    have H' := Aside0.mk H
    clear H
    go_wp2
    go_meet
    case rel => exact ⟨_, (x3_3 ++ (⟨#[91]⟩ : ByteArray)), cA, H', ⟨by have := HK1.out; have := HJ3.out; first | omega | exact Nat.le_refl _⟩, ⟨bK BK545⟩, ⟨bG⟩⟩
   clear HC9
   try clear c1
   try clear c2
   try clear c2b0
   try clear p2
   try clear c3
   try clear c3b0
   try clear p5
   try clear q5
   try clear hx5
   try clear c7
   try clear c7b0
   try clear c8
   try clear c8b0
   try clear c8b1
   try clear c8b2
   try clear c10
   try clear c11
   try clear c11b0
   try clear c12
   try clear c12b0
   try clear c12b1
   try clear c12b2
   try clear c13
   try clear c13b0
   try clear c13b1
   try clear c13b2
   try clear hcz10_0
   try clear hcz10_1
   try clear hcz10_2
   try clear hcz10_3
   try clear hcz6_0
   try clear hcz6_1
   try clear hcz6_2
   try clear hcz6_3
   try clear hfz10_0
   try clear hfz10_1
   try clear hfz10_2
   try clear hfz10_3
   try clear hfz6_0
   try clear hfz6_1
   try clear hfz6_2
   try clear hfz6_3
   try clear hx544_0
   try clear hx544_1
   try clear hx544_2
   try clear hx544_3
   try clear p2
   try clear p5
   try clear p544
   try clear q5
   try clear q544
   obtain ⟨kq, x3_8, rfl, HA, HJ8, BK545, HB⟩ := hcut
   cases kq with
   | zero => exact absurd HA.out (by simp [newelref05_Text.j2])
   | succ kj8 =>
    have H := HA.out
    clear HA
    simp only [newelref05_Text.j2] at H
    (try simp only [toList_lit] at H)
    by_cases c14 : x3_8.size + ((rd_T58 l0 x4_1).f0).size ≤ 9223372036854775807
    rotate_left
    ·rw [if_neg c14] at H
     exact absurd H (by simp)
    rw [if_pos c14] at H
    have c14b0 := eq_true c14
    have c14b1 := dT c14
    try have c14b2 : (9223372036854775807 < x3_8.size + ((rd_T58 l0 x4_1).f0).size) = False := eq_false (Nat.not_lt.2 c14)
    have HC15 := Aside0.mk H
    clear H
    obtain ⟨hcz16_0, hcz16_1, hcz16_2, hcz16_3, hfz16_0, hfz16_1, hfz16_2, hfz16_3⟩ := cells4 BK545
    go_upto_region 12 with (fail)
    go_cut [44] (fun v44 wc => ∃ (kq : Nat) (x44_14 : Bool), v44 = .bool x44_14 ∧ Aside0 (newelref05_Text.j3 kq l0 (x3_8 ++ ((rd_T58 l0 x4_1).f0)) x4_1 x44_14 ((rd_T58 l0 x4_1).f0) ((rd_T58 l0 x4_1).f1) ((rd_T58 l0 x4_1).f2) ((rd_T58 l0 x4_1).f3) = some r) ∧ Aside0 (kq ≤ kj8) ∧ Aside0 (wc.heap[gb545]? = some (.cells #[.string ((rd_T58 l0 x4_1).f0), .string ((rd_T58 l0 x4_1).f1), .bool ((rd_T58 l0 x4_1).f2), .bool ((rd_T58 l0 x4_1).f3)] 58 (0, 0))) ∧ Aside0 (Below w.heap.size w wc))
    case first =>
     have H := HC15.out
     clear HC15
     by_cases c17 : ((rd_T58 l0 x4_1).f0).toList = ((rd_T58 l0 x4_1).f1).toList
     rotate_left
     ·rw [if_neg c17] at H
      obtain ⟨c17b0, c17b1⟩ := eqF c17
      (first | rw [c17b0] | (simp only [i64_w, i32_w]; rw [c17b0]) | skip)
      have H' := Aside0.mk H
      clear H
      obtain ⟨hcz21_0, hcz21_1, hcz21_2, hcz21_3, hfz21_0, hfz21_1, hfz21_2, hfz21_3⟩ := cells4 BK545
      go_wp2
      go_meet
      case rel => exact ⟨_, (true), cA, H', ⟨by have := HK1.out; have := HJ3.out; have := HJ8.out; first | omega | exact Nat.le_refl _⟩, ⟨bK BK545⟩, ⟨bG⟩⟩
     rw [if_pos c17] at H
     obtain ⟨c17b0, c17b1⟩ := eqT c17
     clear c17
     (first | rw [c17b0] | (simp only [i64_w, i32_w]; rw [c17b0]) | skip)
     by_cases c18 : ((rd_T58 l0 x4_1).f2) = true
     rotate_left
     ·rw [if_neg c18] at H
      have c18b0 : ((rd_T58 l0 x4_1).f2) = false := by simpa using c18
      clear c18
      have H' := Aside0.mk H
      clear H
      obtain ⟨hcz20_0, hcz20_1, hcz20_2, hcz20_3, hfz20_0, hfz20_1, hfz20_2, hfz20_3⟩ := cells4 BK545
      go_wp2
      go_meet
      case rel => exact ⟨_, (true), cA, H', ⟨by have := HK1.out; have := HJ3.out; have := HJ8.out; first | omega | exact Nat.le_refl _⟩, ⟨bK BK545⟩, ⟨bG⟩⟩
     rw [if_pos c18] at H
     have c18b0 : ((rd_T58 l0 x4_1).f2) = true := c18
     clear c18
     have H' := Aside0.mk H
     clear H
     obtain ⟨hcz19_0, hcz19_1, hcz19_2, hcz19_3, hfz19_0, hfz19_1, hfz19_2, hfz19_3⟩ := cells4 BK545
     go_wp2
     go_meet
     case rel => exact ⟨_, (!((rd_T58 l0 x4_1).f3)), cA, H', ⟨by have := HK1.out; have := HJ3.out; have := HJ8.out; first | omega | exact Nat.le_refl _⟩, ⟨bK BK545⟩, ⟨bG⟩⟩
    clear HC15
    try clear c1
    try clear c2
    try clear c2b0
    try clear p2
    try clear c3
    try clear c3b0
    try clear p5
    try clear q5
    try clear hx5
    try clear c7
    try clear c7b0
    try clear c8
    try clear c8b0
    try clear c8b1
    try clear c8b2
    try clear c10
    try clear c11
    try clear c11b0
    try clear c12
    try clear c12b0
    try clear c12b1
    try clear c12b2
    try clear c13
    try clear c13b0
    try clear c13b1
    try clear c13b2
    try clear c14
    try clear c14b0
    try clear c14b1
    try clear c14b2
    try clear c17
    try clear c17b0
    try clear c17b1
    try clear c18
    try clear c18b0
    try clear hcz10_0
    try clear hcz10_1
    try clear hcz10_2
    try clear hcz10_3
    try clear hcz16_0
    try clear hcz16_1
    try clear hcz16_2
    try clear hcz16_3
    try clear hcz19_0
    try clear hcz19_1
    try clear hcz19_2
    try clear hcz19_3
    try clear hcz20_0
    try clear hcz20_1
    try clear hcz20_2
    try clear hcz20_3
    try clear hcz21_0
    try clear hcz21_1
    try clear hcz21_2
    try clear hcz21_3
    try clear hcz6_0
    try clear hcz6_1
    try clear hcz6_2
    try clear hcz6_3
    try clear hfz10_0
    try clear hfz10_1
    try clear hfz10_2
    try clear hfz10_3
    try clear hfz16_0
    try clear hfz16_1
    try clear hfz16_2
    try clear hfz16_3
    try clear hfz19_0
    try clear hfz19_1
    try clear hfz19_2
    try clear hfz19_3
    try clear hfz20_0
    try clear hfz20_1
    try clear hfz20_2
    try clear hfz20_3
    try clear hfz21_0
    try clear hfz21_1
    try clear hfz21_2
    try clear hfz21_3
    try clear hfz6_0
    try clear hfz6_1
    try clear hfz6_2
    try clear hfz6_3
    try clear hx544_0
    try clear hx544_1
    try clear hx544_2
    try clear hx544_3
    try clear p2
    try clear p5
    try clear p544
    try clear q5
    try clear q544
    obtain ⟨kq, x44_14, rfl, HA, HJ14, BK545, HB⟩ := hcut
    cases kq with
    | zero => exact absurd HA.out (by simp [newelref05_Text.j3])
    | succ kj14 =>
     have H := HA.out
     clear HA
     simp only [newelref05_Text.j3] at H
     (try simp only [toList_lit] at H)
     by_cases c22 : x44_14 = true
     rotate_left
     ·replace c22 := Bool.eq_false_iff.mpr c22
      subst c22
      have H1 : (if ((rd_T58 l0 x4_1).f3) = true then (if (x3_8 ++ ((rd_T58 l0 x4_1).f0)).size + 1 ≤ 9223372036854775807 then (newelref05_Text.l0 kj14 l0 ((x3_8 ++ ((rd_T58 l0 x4_1).f0)) ++ (⟨#[93]⟩ : ByteArray)) (wrap64 (x4_1 + 1))) else (none)) else (if (x3_8 ++ ((rd_T58 l0 x4_1).f0)).size + 1 ≤ 9223372036854775807 then (newelref05_Text.l0 kj14 l0 ((x3_8 ++ ((rd_T58 l0 x4_1).f0)) ++ (⟨#[41]⟩ : ByteArray)) (wrap64 (x4_1 + 1))) else (none))) = some r := by rw [if_neg (show ¬ (false = true) by decide)] at H; exact H
      clear H
      have H := H1
      clear H1
      by_cases c30 : ((rd_T58 l0 x4_1).f3) = true
      rotate_left
      ·rw [if_neg c30] at H
       have c30b0 : ((rd_T58 l0 x4_1).f3) = false := by simpa using c30
       clear c30
       by_cases c33 : (x3_8 ++ ((rd_T58 l0 x4_1).f0)).size + 1 ≤ 9223372036854775807
       rotate_left
       ·rw [if_neg c33] at H
        exact absurd H (by simp)
       rw [if_pos c33] at H
       have c33b0 := eq_true c33
       have c33b1 := dT c33
       try have c33b2 : (9223372036854775807 < (x3_8 ++ ((rd_T58 l0 x4_1).f0)).size + 1) = False := eq_false (Nat.not_lt.2 c33)
       have c33n : (x3_8.size + ((rd_T58 l0 x4_1).f0).size) + 1 ≤ 9223372036854775807 := by have z_ := c33; simp only [ByteArray.size_append] at z_; exact z_
       have c33m : (9223372036854775807 < (x3_8.size + ((rd_T58 l0 x4_1).f0).size) + 1) = False := eq_false (Nat.not_lt.2 c33n)
       clear c33 c33b0 c33b1
       try clear c33b2
       have H' := Aside0.mk H
       clear H
       obtain ⟨hcz34_0, hcz34_1, hcz34_2, hcz34_3, hfz34_0, hfz34_1, hfz34_2, hfz34_3⟩ := cells4 BK545
       go_wp2
       go_roundg kj14
       case measure => have := HK1.out; have := HJ3.out; have := HJ8.out; have := HJ14.out; omega
       case rel => exact ⟨((x3_8 ++ ((rd_T58 l0 x4_1).f0)) ++ (⟨#[41]⟩ : ByteArray)), (wrap64 (x4_1 + 1)), cA, cA, H', ⟨by have := HK1.out; have := HJ3.out; have := HJ8.out; have := HJ14.out; omega⟩, ⟨bG⟩⟩
      rw [if_pos c30] at H
      have c30b0 : ((rd_T58 l0 x4_1).f3) = true := c30
      clear c30
      by_cases c31 : (x3_8 ++ ((rd_T58 l0 x4_1).f0)).size + 1 ≤ 9223372036854775807
      rotate_left
      ·rw [if_neg c31] at H
       exact absurd H (by simp)
      rw [if_pos c31] at H
      have c31b0 := eq_true c31
      have c31b1 := dT c31
      try have c31b2 : (9223372036854775807 < (x3_8 ++ ((rd_T58 l0 x4_1).f0)).size + 1) = False := eq_false (Nat.not_lt.2 c31)
      have c31n : (x3_8.size + ((rd_T58 l0 x4_1).f0).size) + 1 ≤ 9223372036854775807 := by have z_ := c31; simp only [ByteArray.size_append] at z_; exact z_
      have c31m : (9223372036854775807 < (x3_8.size + ((rd_T58 l0 x4_1).f0).size) + 1) = False := eq_false (Nat.not_lt.2 c31n)
      clear c31 c31b0 c31b1
      try clear c31b2
      have H' := Aside0.mk H
      clear H
      obtain ⟨hcz32_0, hcz32_1, hcz32_2, hcz32_3, hfz32_0, hfz32_1, hfz32_2, hfz32_3⟩ := cells4 BK545
      go_wp2
      go_roundg kj14
      case measure => have := HK1.out; have := HJ3.out; have := HJ8.out; have := HJ14.out; omega
      case rel => exact ⟨((x3_8 ++ ((rd_T58 l0 x4_1).f0)) ++ (⟨#[93]⟩ : ByteArray)), (wrap64 (x4_1 + 1)), cA, cA, H', ⟨by have := HK1.out; have := HJ3.out; have := HJ8.out; have := HJ14.out; omega⟩, ⟨bG⟩⟩
     subst c22
     have H1 : (if (x3_8 ++ ((rd_T58 l0 x4_1).f0)).size + 1 ≤ 9223372036854775807 then (if ((x3_8 ++ ((rd_T58 l0 x4_1).f0)) ++ (⟨#[44]⟩ : ByteArray)).size + ((rd_T58 l0 x4_1).f1).size ≤ 9223372036854775807 then (if ((rd_T58 l0 x4_1).f3) = true then (if (((x3_8 ++ ((rd_T58 l0 x4_1).f0)) ++ (⟨#[44]⟩ : ByteArray)) ++ ((rd_T58 l0 x4_1).f1)).size + 1 ≤ 9223372036854775807 then (newelref05_Text.l0 kj14 l0 ((((x3_8 ++ ((rd_T58 l0 x4_1).f0)) ++ (⟨#[44]⟩ : ByteArray)) ++ ((rd_T58 l0 x4_1).f1)) ++ (⟨#[93]⟩ : ByteArray)) (wrap64 (x4_1 + 1))) else (none)) else (if (((x3_8 ++ ((rd_T58 l0 x4_1).f0)) ++ (⟨#[44]⟩ : ByteArray)) ++ ((rd_T58 l0 x4_1).f1)).size + 1 ≤ 9223372036854775807 then (newelref05_Text.l0 kj14 l0 ((((x3_8 ++ ((rd_T58 l0 x4_1).f0)) ++ (⟨#[44]⟩ : ByteArray)) ++ ((rd_T58 l0 x4_1).f1)) ++ (⟨#[41]⟩ : ByteArray)) (wrap64 (x4_1 + 1))) else (none))) else (none)) else (none)) = some r := by rw [if_pos rfl] at H; exact H
     clear H
     have H := H1
     clear H1
     by_cases c23 : (x3_8 ++ ((rd_T58 l0 x4_1).f0)).size + 1 ≤ 9223372036854775807
     rotate_left
     ·rw [if_neg c23] at H
      exact absurd H (by simp)
     rw [if_pos c23] at H
     have c23b0 := eq_true c23
     have c23b1 := dT c23
     try have c23b2 : (9223372036854775807 < (x3_8 ++ ((rd_T58 l0 x4_1).f0)).size + 1) = False := eq_false (Nat.not_lt.2 c23)
     have c23n : (x3_8.size + ((rd_T58 l0 x4_1).f0).size) + 1 ≤ 9223372036854775807 := by have z_ := c23; simp only [ByteArray.size_append] at z_; exact z_
     have c23m : (9223372036854775807 < (x3_8.size + ((rd_T58 l0 x4_1).f0).size) + 1) = False := eq_false (Nat.not_lt.2 c23n)
     clear c23 c23b0 c23b1
     try clear c23b2
     by_cases c24 : ((x3_8 ++ ((rd_T58 l0 x4_1).f0)) ++ (⟨#[44]⟩ : ByteArray)).size + ((rd_T58 l0 x4_1).f1).size ≤ 9223372036854775807
     rotate_left
     ·rw [if_neg c24] at H
      exact absurd H (by simp)
     rw [if_pos c24] at H
     have c24b0 := eq_true c24
     have c24b1 := dT c24
     try have c24b2 : (9223372036854775807 < ((x3_8 ++ ((rd_T58 l0 x4_1).f0)) ++ (⟨#[44]⟩ : ByteArray)).size + ((rd_T58 l0 x4_1).f1).size) = False := eq_false (Nat.not_lt.2 c24)
     have c24n : ((x3_8.size + ((rd_T58 l0 x4_1).f0).size) + 1) + ((rd_T58 l0 x4_1).f1).size ≤ 9223372036854775807 := by have z_ := c24; simp only [ByteArray.size_append] at z_; exact z_
     have c24m : (9223372036854775807 < ((x3_8.size + ((rd_T58 l0 x4_1).f0).size) + 1) + ((rd_T58 l0 x4_1).f1).size) = False := eq_false (Nat.not_lt.2 c24n)
     clear c24 c24b0 c24b1
     try clear c24b2
     by_cases c25 : ((rd_T58 l0 x4_1).f3) = true
     rotate_left
     ·rw [if_neg c25] at H
      have c25b0 : ((rd_T58 l0 x4_1).f3) = false := by simpa using c25
      clear c25
      by_cases c28 : (((x3_8 ++ ((rd_T58 l0 x4_1).f0)) ++ (⟨#[44]⟩ : ByteArray)) ++ ((rd_T58 l0 x4_1).f1)).size + 1 ≤ 9223372036854775807
      rotate_left
      ·rw [if_neg c28] at H
       exact absurd H (by simp)
      rw [if_pos c28] at H
      have c28b0 := eq_true c28
      have c28b1 := dT c28
      try have c28b2 : (9223372036854775807 < (((x3_8 ++ ((rd_T58 l0 x4_1).f0)) ++ (⟨#[44]⟩ : ByteArray)) ++ ((rd_T58 l0 x4_1).f1)).size + 1) = False := eq_false (Nat.not_lt.2 c28)
      have c28n : (((x3_8.size + ((rd_T58 l0 x4_1).f0).size) + 1) + ((rd_T58 l0 x4_1).f1).size) + 1 ≤ 9223372036854775807 := by have z_ := c28; simp only [ByteArray.size_append] at z_; exact z_
      have c28m : (9223372036854775807 < (((x3_8.size + ((rd_T58 l0 x4_1).f0).size) + 1) + ((rd_T58 l0 x4_1).f1).size) + 1) = False := eq_false (Nat.not_lt.2 c28n)
      clear c28 c28b0 c28b1
      try clear c28b2
      have H' := Aside0.mk H
      clear H
      obtain ⟨hcz29_0, hcz29_1, hcz29_2, hcz29_3, hfz29_0, hfz29_1, hfz29_2, hfz29_3⟩ := cells4 BK545
      go_wp2
      go_roundg kj14
      case measure => have := HK1.out; have := HJ3.out; have := HJ8.out; have := HJ14.out; omega
      case rel => exact ⟨((((x3_8 ++ ((rd_T58 l0 x4_1).f0)) ++ (⟨#[44]⟩ : ByteArray)) ++ ((rd_T58 l0 x4_1).f1)) ++ (⟨#[41]⟩ : ByteArray)), (wrap64 (x4_1 + 1)), cA, cA, H', ⟨by have := HK1.out; have := HJ3.out; have := HJ8.out; have := HJ14.out; omega⟩, ⟨bG⟩⟩
     rw [if_pos c25] at H
     have c25b0 : ((rd_T58 l0 x4_1).f3) = true := c25
     clear c25
     by_cases c26 : (((x3_8 ++ ((rd_T58 l0 x4_1).f0)) ++ (⟨#[44]⟩ : ByteArray)) ++ ((rd_T58 l0 x4_1).f1)).size + 1 ≤ 9223372036854775807
     rotate_left
     ·rw [if_neg c26] at H
      exact absurd H (by simp)
     rw [if_pos c26] at H
     have c26b0 := eq_true c26
     have c26b1 := dT c26
     try have c26b2 : (9223372036854775807 < (((x3_8 ++ ((rd_T58 l0 x4_1).f0)) ++ (⟨#[44]⟩ : ByteArray)) ++ ((rd_T58 l0 x4_1).f1)).size + 1) = False := eq_false (Nat.not_lt.2 c26)
     have c26n : (((x3_8.size + ((rd_T58 l0 x4_1).f0).size) + 1) + ((rd_T58 l0 x4_1).f1).size) + 1 ≤ 9223372036854775807 := by have z_ := c26; simp only [ByteArray.size_append] at z_; exact z_
     have c26m : (9223372036854775807 < (((x3_8.size + ((rd_T58 l0 x4_1).f0).size) + 1) + ((rd_T58 l0 x4_1).f1).size) + 1) = False := eq_false (Nat.not_lt.2 c26n)
     clear c26 c26b0 c26b1
     try clear c26b2
     have H' := Aside0.mk H
     clear H
     obtain ⟨hcz27_0, hcz27_1, hcz27_2, hcz27_3, hfz27_0, hfz27_1, hfz27_2, hfz27_3⟩ := cells4 BK545
     go_wp2
     go_roundg kj14
     case measure => have := HK1.out; have := HJ3.out; have := HJ8.out; have := HJ14.out; omega
     case rel => exact ⟨((((x3_8 ++ ((rd_T58 l0 x4_1).f0)) ++ (⟨#[44]⟩ : ByteArray)) ++ ((rd_T58 l0 x4_1).f1)) ++ (⟨#[93]⟩ : ByteArray)), (wrap64 (x4_1 + 1)), cA, cA, H', ⟨by have := HK1.out; have := HJ3.out; have := HJ8.out; have := HJ14.out; omega⟩, ⟨bG⟩⟩
def newelref05_Is.f (a0 : ByteArray) : Option (Bool) := if (a0.size : Int) > 0 then (if 0 < (a0.size : Int) then (if (bt a0 0) = 91 then (some true) else (some ((bt a0 0) == 40))) else (none)) else (some false)
theorem newelref05_Is.calls (a0 : ByteArray) (r : Bool) (w : World) (hG : Glob w) (h : newelref05_Is.f a0 = some r) :
 Calls Tryd.prog 51 #[.string a0] w fun e w' => e = .returned (.bool r) ∧ Drawn0 w w' := by
 have HG := Aside0.mk hG
 clear hG
 have H : (if (a0.size : Int) > 0 then (if 0 < (a0.size : Int) then (if (bt a0 0) = 91 then (some true) else (some ((bt a0 0) == 40))) else (none)) else (some false)) = some r := h
 clear h
 by_cases c2 : (a0.size : Int) > 0
 rotate_left
 ·rw [if_neg c2] at H
  have c2b0 := dF c2
  have c2b1 : decide (0 < a0.size) = false := decide_eq_false (by omega)
  clear c2
  obtain rfl := Option.some.inj H
  go_enter Tryd.func51, Tryd.ntmps51
  go_wp2
  go_ret
  exact ⟨by first | rfl | (simp; done) | (simp [*]; done), by repeat (first | exact Drawn0.refl _ | apply Drawn0.step)⟩
 rw [if_pos c2] at H
 have c2b0 := dT c2
 have c2b1 : decide (0 < a0.size) = true := decide_eq_true (by omega)
 clear c2
 by_cases c3 : 0 < (a0.size : Int)
 rotate_left
 ·rw [if_neg c3] at H
  exact absurd H (by simp)
 rw [if_pos c3] at H
 have c3b0 := dT c3
 have c3b1 : decide (0 < a0.size) = true := decide_eq_true (by omega)
 clear c3
 by_cases c5 : (bt a0 0) = 91
 ·rw [if_pos c5] at H
  obtain ⟨c5b0, c5b1⟩ := eqT c5
  clear c5
  obtain rfl := Option.some.inj H
  have p4 : 0 ≤ (0 : Int) := (by omega)
  have q4 : 0 < a0.size := (by have : (0 : Int) < (a0.size : Int) := dA; omega)
  have hx4 : ∀ h : 0 < a0.size, ((a0[0]'h).toNat : Int) = bt a0 0 := bt_at a0 0
  clear p4
  have qi4 : (0 < (a0.size : Int)) = True := eq_true (dA)
  replace q4 := eq_true q4
  go_enter Tryd.func51, Tryd.ntmps51
  go_wp2
  go_ret
  exact ⟨by first | rfl | (simp; done) | (simp [*]; done), by repeat (first | exact Drawn0.refl _ | apply Drawn0.step)⟩
 rw [if_neg c5] at H
 obtain ⟨c5b0, c5b1⟩ := eqF c5
 obtain rfl := Option.some.inj H
 have p4 : 0 ≤ (0 : Int) := (by omega)
 have q4 : 0 < a0.size := (by have : (0 : Int) < (a0.size : Int) := dA; omega)
 have hx4 : ∀ h : 0 < a0.size, ((a0[0]'h).toNat : Int) = bt a0 0 := bt_at a0 0
 clear p4
 have qi4 : (0 < (a0.size : Int)) = True := eq_true (dA)
 replace q4 := eq_true q4
 have p6 : 0 ≤ (0 : Int) := (by omega)
 have q6 : 0 < a0.size := (by have : (0 : Int) < (a0.size : Int) := dA; omega)
 have hx6 : ∀ h : 0 < a0.size, ((a0[0]'h).toNat : Int) = bt a0 0 := bt_at a0 0
 clear p6
 have qi6 : (0 < (a0.size : Int)) = True := eq_true (dA)
 replace q6 := eq_true q6
 go_enter Tryd.func51, Tryd.ntmps51
 go_wp2
 go_ret
 exact ⟨by first | rfl | (simp; done) | (simp [*]; done), by repeat (first | exact Drawn0.refl _ | apply Drawn0.step)⟩
mutual
def newelref05_blank.j1 : Nat → ByteArray → Option (ByteArray)
 | 0, _ => none
 | k + 1, x0 => newelref05_blank.l1 k x0
def newelref05_blank.l1 : Nat → ByteArray → Option (ByteArray)
 | 0, _ => none
 | k + 1, x0 => if (x0.size : Int) > 0 then (if 0 ≤ (wrap64 ((x0.size : Int) - 1)) then (if (wrap64 ((x0.size : Int) - 1)) < (x0.size : Int) then (if (bt x0 (wrap64 ((x0.size : Int) - 1))) = 32 then (if (wrap64 ((x0.size : Int) - 1)) ≤ (x0.size : Int) then (newelref05_blank.l1 k (x0.extract 0 ((wrap64 ((x0.size : Int) - 1)) : Int).toNat)) else (none)) else (some x0)) else (none)) else (none)) else (some x0)
def newelref05_blank.l0 : Nat → ByteArray → Option (ByteArray)
 | 0, _ => none
 | k + 1, x0 => if (x0.size : Int) > 0 then (if 0 < (x0.size : Int) then (if (bt x0 0) = 32 then (if 1 ≤ (x0.size : Int) then (newelref05_blank.l0 k (x0.extract 1 x0.size)) else (none)) else (newelref05_blank.j1 k x0)) else (none)) else (newelref05_blank.j1 k x0)
end
def newelref05_blank.f (k : Nat) (a0 : ByteArray) : Option (ByteArray) := newelref05_blank.l0 k a0
theorem newelref05_blank.mono_l : ∀ k, (∀ y0, LeO (newelref05_blank.j1 k y0) (newelref05_blank.j1 (k + 1) y0)) ∧ (∀ y0, LeO (newelref05_blank.l1 k y0) (newelref05_blank.l1 (k + 1) y0)) ∧ (∀ y0, LeO (newelref05_blank.l0 k y0) (newelref05_blank.l0 (k + 1) y0))
 | 0 => ⟨fun _ r h => by simp [newelref05_blank.j1] at h, fun _ r h => by simp [newelref05_blank.l1] at h, fun _ r h => by simp [newelref05_blank.l0] at h⟩
 | k + 1 => by
  obtain ⟨ih0, ih1, ih2⟩ := newelref05_blank.mono_l k
  refine ⟨?_, ?_, ?_⟩
  ·intro y0
   unfold newelref05_blank.j1
   exact mo
  ·intro y0
   unfold newelref05_blank.l1
   exact mo
  ·intro y0
   unfold newelref05_blank.l0
   exact mo
theorem newelref05_blank.mono : ∀ a0 k, LeO (newelref05_blank.f k a0) (newelref05_blank.f (k + 1) a0) := by
 intro a0 k
 obtain ⟨ih0, ih1, ih2⟩ := newelref05_blank.mono_l k
 unfold newelref05_blank.f
 exact mo
theorem newelref05_blank.calls (k : Nat) (a0 : ByteArray) (r : ByteArray) (w : World) (hG : Glob w) (h : newelref05_blank.f k a0 = some r) :
 Calls Tryd.prog 121 #[.string a0] w fun e w' => e = .returned (.string r) ∧ Drawn0 w w' := by
 have HG := Aside0.mk hG
 clear hG
 have H : (newelref05_blank.l0 k a0) = some r := h
 clear h
 have HC2 := Aside0.mk H
 clear H
 go_enter Tryd.func121, Tryd.ntmps121
 go_upto_block 0 with (fail)
 go_cut [0] (fun v0 wc => ∃ (kq : Nat) (x0_1 : ByteArray), v0 = .string x0_1 ∧ Aside0 (newelref05_blank.j1 kq x0_1 = some r) ∧ Aside0 (kq ≤ k) ∧ Drawn0 w wc)
 case first =>
  have H := HC2.out
  clear HC2
  have H' := Aside0.mk H
  clear H
  go_wp2
  go_loopg [0] k (fun kq v0 w' => ∃ (x0_1 : ByteArray), v0 = .string x0_1 ∧ Aside0 (newelref05_blank.l0 kq x0_1 = some r) ∧ Aside0 (kq ≤ k) ∧ Drawn0 w w')
  case atStart => exact ⟨(a0), cA, H', ⟨Nat.le_refl _⟩, by repeat (first | exact Drawn0.refl _ | apply Drawn0.step)⟩
  clear H'
  try clear c1
  try clear p2
  obtain ⟨x0_1, rfl, HA, HK1, ⟨m1, rfl⟩⟩ := hrel
  cases gk with
  | zero => exact absurd HA.out (by simp [newelref05_blank.l0])
  | succ k1 =>
   have H := HA.out
   clear HA
   simp only [newelref05_blank.l0] at H
   (try simp only [toList_lit] at H)
   by_cases c3 : (x0_1.size : Int) > 0
   rotate_left
   ·rw [if_neg c3] at H
    have c3b0 := dF c3
    have c3b1 : decide (0 < x0_1.size) = false := decide_eq_false (by omega)
    clear c3
    (first | rw [c3b0] | (simp only [i64_w, i32_w]; rw [c3b0]) | skip)
    have H' := Aside0.mk H
    clear H
    go_wp2
    go_meet
    case rel => exact ⟨_, (x0_1), cA, H', ⟨by have := HK1.out; first | omega | exact Nat.le_refl _⟩, by repeat (first | exact Drawn0.refl _ | apply Drawn0.step)⟩
   rw [if_pos c3] at H
   have c3b0 := dT c3
   have c3b1 : decide (0 < x0_1.size) = true := decide_eq_true (by omega)
   clear c3
   (first | rw [c3b0] | (simp only [i64_w, i32_w]; rw [c3b0]) | skip)
   by_cases c4 : 0 < (x0_1.size : Int)
   rotate_left
   ·rw [if_neg c4] at H
    exact absurd H (by simp)
   rw [if_pos c4] at H
   have c4b0 := dT c4
   have c4b1 : decide (0 < x0_1.size) = true := decide_eq_true (by omega)
   clear c4
   by_cases c6 : (bt x0_1 0) = 32
   rotate_left
   ·rw [if_neg c6] at H
    obtain ⟨c6b0, c6b1⟩ := eqF c6
    have H' := Aside0.mk H
    clear H
    have p5 : 0 ≤ (0 : Int) := (by omega)
    have q5 : 0 < x0_1.size := (by have : (0 : Int) < (x0_1.size : Int) := dA; omega)
    have hx5 : ∀ h : 0 < x0_1.size, ((x0_1[0]'h).toNat : Int) = bt x0_1 0 := bt_at x0_1 0
    clear p5
    have qi5 : (0 < (x0_1.size : Int)) = True := eq_true (dA)
    replace q5 := eq_true q5
    go_wp2
    go_meet
    case rel => exact ⟨_, (x0_1), cA, H', ⟨by have := HK1.out; first | omega | exact Nat.le_refl _⟩, by repeat (first | exact Drawn0.refl _ | apply Drawn0.step)⟩
   rw [if_pos c6] at H
   obtain ⟨c6b0, c6b1⟩ := eqT c6
   clear c6
   by_cases c7 : 1 ≤ (x0_1.size : Int)
   rotate_left
   ·rw [if_neg c7] at H
    exact absurd H (by simp)
   rw [if_pos c7] at H
   have c7b0 := eq_true c7
   have c7b1 := dT c7
   clear c7
   have H' := Aside0.mk H
   clear H
   have p5 : 0 ≤ (0 : Int) := (by omega)
   have q5 : 0 < x0_1.size := (by have : (0 : Int) < (x0_1.size : Int) := dA; omega)
   have hx5 : ∀ h : 0 < x0_1.size, ((x0_1[0]'h).toNat : Int) = bt x0_1 0 := bt_at x0_1 0
   clear p5
   have qi5 : (0 < (x0_1.size : Int)) = True := eq_true (dA)
   replace q5 := eq_true q5
   go_wp2
   go_roundg k1
   case measure => have := HK1.out; omega
   case rel => exact ⟨(x0_1.extract 1 x0_1.size), cA, H', ⟨by have := HK1.out; omega⟩, by repeat (first | exact Drawn0.refl _ | apply Drawn0.step)⟩
 clear HC2
 try clear c1
 try clear p2
 try clear c3
 try clear c3b0
 try clear c3b1
 try clear c4
 try clear c4b0
 try clear c4b1
 try clear p5
 try clear q5
 try clear hx5
 try clear qi5
 try clear c6
 try clear c6b0
 try clear c6b1
 try clear c7
 try clear c7b0
 try clear c7b1
 try clear p2
 try clear p5
 try clear q5
 obtain ⟨kq, x0_1, rfl, HA, HJ1, ⟨mc1, rfl⟩⟩ := hcut
 cases kq with
 | zero => exact absurd HA.out (by simp [newelref05_blank.j1])
 | succ kj1 =>
  have H := HA.out
  clear HA
  simp only [newelref05_blank.j1] at H
  (try simp only [toList_lit] at H)
  have H' := Aside0.mk H
  clear H
  go_wp2
  go_loopg [0] kj1 (fun kq v0 w' => ∃ (x0_2 : ByteArray), v0 = .string x0_2 ∧ Aside0 (newelref05_blank.l1 kq x0_2 = some r) ∧ Aside0 (kq ≤ kj1) ∧ Drawn0 w w')
  case atStart => exact ⟨(x0_1), cA, H', ⟨Nat.le_refl _⟩, by repeat (first | exact Drawn0.refl _ | apply Drawn0.step)⟩
  clear H'
  try clear c1
  try clear p2
  try clear c3
  try clear c3b0
  try clear c3b1
  try clear c4
  try clear c4b0
  try clear c4b1
  try clear p5
  try clear q5
  try clear hx5
  try clear qi5
  try clear c6
  try clear c6b0
  try clear c6b1
  try clear c7
  try clear c7b0
  try clear c7b1
  try clear p2
  try clear p5
  try clear q5
  obtain ⟨x0_2, rfl, HA, HK2, ⟨m2, rfl⟩⟩ := hrel
  cases gk with
  | zero => exact absurd HA.out (by simp [newelref05_blank.l1])
  | succ k2 =>
   have H := HA.out
   clear HA
   simp only [newelref05_blank.l1] at H
   (try simp only [toList_lit] at H)
   by_cases c8 : (x0_2.size : Int) > 0
   rotate_left
   ·rw [if_neg c8] at H
    have c8b0 := dF c8
    have c8b1 : decide (0 < x0_2.size) = false := decide_eq_false (by omega)
    clear c8
    obtain rfl := Option.some.inj H
    go_wp2
    go_ret
    exact ⟨by first | rfl | (simp; done) | (simp [*]; done), by repeat (first | exact Drawn0.refl _ | apply Drawn0.step)⟩
   rw [if_pos c8] at H
   have c8b0 := dT c8
   have c8b1 : decide (0 < x0_2.size) = true := decide_eq_true (by omega)
   clear c8
   obtain ⟨ji9, hji9⟩ : ∃ j_ : Int, (wrap64 ((x0_2.size : Int) - 1)) = j_ := ⟨_, rfl⟩
   rw [hji9] at H
   have hji9w : (IntKind.i64.wrap ((x0_2.size : Int) - 1)) = ji9 := (i64_w _).trans hji9
   by_cases c10 : 0 ≤ (ji9)
   rotate_left
   ·rw [if_neg c10] at H
    exact absurd H (by simp)
   rw [if_pos c10] at H
   have c10b0 := dT c10
   clear c10
   by_cases c11 : (ji9) < (x0_2.size : Int)
   rotate_left
   ·rw [if_neg c11] at H
    exact absurd H (by simp)
   rw [if_pos c11] at H
   have c11b0 := dT c11
   clear c11
   by_cases c13 : (bt x0_2 (ji9)) = 32
   rotate_left
   ·rw [if_neg c13] at H
    obtain ⟨c13b0, c13b1⟩ := eqF c13
    obtain rfl := Option.some.inj H
    have p12 : 0 ≤ ((ji9) : Int) := dA
    have q12 : (ji9) < (x0_2.size : Int) := dA
    have hx12 := bt_at x0_2 (ji9)
    replace p12 := eq_true p12
    replace q12 := eq_true q12
    go_wp2
    go_ret
    exact ⟨by first | rfl | (simp; done) | (simp only [← hji9] <;> (first | rfl | simp)) | (simp [*]; done), by repeat (first | exact Drawn0.refl _ | apply Drawn0.step)⟩
   rw [if_pos c13] at H
   obtain ⟨c13b0, c13b1⟩ := eqT c13
   clear c13
   have c14b0 := eq_true (dA : 0 ≤ (ji9))
   by_cases c15 : (ji9) ≤ (x0_2.size : Int)
   rotate_left
   ·rw [if_neg c15] at H
    exact absurd H (by simp)
   rw [if_pos c15] at H
   have c15b0 := eq_true c15
   have c15b1 := dT c15
   clear c15
   have H' := Aside0.mk H
   clear H
   have p12 : 0 ≤ ((ji9) : Int) := dA
   have q12 : (ji9) < (x0_2.size : Int) := dA
   have hx12 := bt_at x0_2 (ji9)
   replace p12 := eq_true p12
   replace q12 := eq_true q12
   go_wp2
   go_roundg k2
   case measure => have := HJ1.out; have := HK2.out; omega
   case rel => exact ⟨(x0_2.extract 0 ((ji9) : Int).toNat), (by first | rfl | (simp; done) | (simp only [← hji9] <;> (first | rfl | simp)) | (simp [*]; done)), H', ⟨by have := HJ1.out; have := HK2.out; omega⟩, by repeat (first | exact Drawn0.refl _ | apply Drawn0.step)⟩
def newelref05_span.l0 : Nat → ByteArray → Int → Int → Int → Int → Option (ByteArray × ByteArray × Bool × Bool × Bool)
 | 0, _, _, _, _, _ => none
 | k + 1, x0, x1, x2, x8, x9 => if x9 < (x0.size : Int) then (if 0 ≤ x9 then (if (bt x0 x9) = 44 then (if x8 < 0 then (newelref05_span.l0 k x0 x1 x2 x9 (wrap64 (x9 + 1))) else (newelref05_span.l0 k x0 x1 x2 x8 (wrap64 (x9 + 1)))) else (newelref05_span.l0 k x0 x1 x2 x8 (wrap64 (x9 + 1)))) else (none)) else (if x8 < 0 then ((newelref05_blank.f k x0).bind fun t412 => (if t412.toList = ([] : List UInt8) then (some (t412, t412, true, true, false)) else (if x1 = 91 then (some (t412, t412, true, true, (x2 == 93))) else (some (t412, t412, true, true, false))))) else (if 0 ≤ x8 then (if x8 ≤ (x0.size : Int) then ((newelref05_blank.f k (x0.extract 0 (x8 : Int).toNat)).bind fun t413 => (if 0 ≤ (wrap64 (x8 + 1)) then (if (wrap64 (x8 + 1)) ≤ (x0.size : Int) then ((newelref05_blank.f k (x0.extract ((wrap64 (x8 + 1)) : Int).toNat x0.size)).bind fun t414 => (some (t413, t414, (x1 == 91), (x2 == 93), true))) else (none)) else (none))) else (none)) else (none)))
def newelref05_span.f (k : Nat) (a0 : ByteArray) (a1 : Int) (a2 : Int) : Option (ByteArray × ByteArray × Bool × Bool × Bool) := newelref05_span.l0 k a0 a1 a2 (-1) 0
theorem newelref05_span.mono_l : ∀ k, (∀ y0 y1 y2 y3 y4, LeO (newelref05_span.l0 k y0 y1 y2 y3 y4) (newelref05_span.l0 (k + 1) y0 y1 y2 y3 y4))
 | 0 => fun _ _ _ _ _ r h => by simp [newelref05_span.l0] at h
 | k + 1 => by
  have ih0 := newelref05_span.mono_l k
  ·intro y0 y1 y2 y3 y4
   unfold newelref05_span.l0
   have m0 := @newelref05_blank.mono
   exact mo
theorem newelref05_span.mono : ∀ a0 a1 a2 k, LeO (newelref05_span.f k a0 a1 a2) (newelref05_span.f (k + 1) a0 a1 a2) := by
 intro a0 a1 a2 k
 have ih0 := newelref05_span.mono_l k
 unfold newelref05_span.f
 have m0 := @newelref05_blank.mono
 exact mo
def newelref05_span.T10 : Bool × List (List Nat × List Nat) := (true, [([], []), ([], []), ([0, 1], [0, 1]), ([2], [2]), ([], []), ([], []), ([5], [5]), ([4, 6], [4, 6]), ([7, 3], [7]), ([], []), ([9], [9]), ([], []), ([11], [11]), ([3, 8, 10, 12], [3, 8, 10, 12]), ([13, 8, 0, 1, 2, 3, 4, 5, 6, 7, 8, 9, 10, 11, 12, 13], [13]), ([14, 0, 1, 2, 3, 4, 5, 6, 7, 8, 9, 10, 11, 12, 13, 14], [])])
def newelref05_span.B10 : List Nat := [0, 0, 3, 7, 0, 0, 32, 112, 255, 0, 512, 0, 2048, 8191, 16383, 32767]
theorem newelref05_span.tab10 : rtab .any (opsOf Tryd.f88 10) = newelref05_span.T10 := by kernel_rfl
theorem newelref05_span.bits10 : waitsOk newelref05_span.T10.2 newelref05_span.B10 = true := by kernel_rfl
theorem newelref05_span.calls (k : Nat) (a0 : ByteArray) (a1 : Int) (a2 : Int) (r1 : ByteArray) (r2 : ByteArray) (r3 : Bool) (r4 : Bool) (r5 : Bool) (w : World) (hG : Glob w) (h : newelref05_span.f k a0 a1 a2 = some (r1, r2, r3, r4, r5)) :
 Calls Tryd.prog 88 #[.string a0, .int .u8 a1, .int .u8 a2] w fun e w' => e = .returned (.tuple #[.agg #[.string r1, .string r2, .bool r3, .bool r4], .bool r5]) ∧ Below w.heap.size w w' := by
 have hu58 := Tryd.underlying58
 have HG := Aside0.mk hG
 clear hG
 have HB := Aside0.mk (Below.refl w.heap.size w)
 have H : (newelref05_span.l0 k a0 a1 a2 (-1) 0) = some (r1, r2, r3, r4, r5) := h
 clear h
 have H' := Aside0.mk H
 clear H
 go_enter Tryd.func88, Tryd.ntmps88
 go_wp2_with (first | (refine be 6 #[.string (⟨#[]⟩ : ByteArray), .string (⟨#[]⟩ : ByteArray), .bool false, .bool false] 58 ?_; intro gb411 hg w4 hbox hb; have BK411 := Aside0.mk (hbox); have GW411 := gW hg; have GE411 := gW hg; replace HB := sB hb; clear hb hbox hg))
 (try simp only [Act.put, List.setIfInBounds_toArray, List.set_cons_zero, List.set_cons_succ])
 go_loopg [8, 9] k (fun kq v8 v9 w' => ∃ (x8_1 : Int) (x9_1 : Int), v8 = .int .i64 x8_1 ∧ v9 = .int .i64 x9_1 ∧ Aside0 (newelref05_span.l0 kq a0 a1 a2 x8_1 x9_1 = some (r1, r2, r3, r4, r5)) ∧ Aside0 (kq ≤ k) ∧ Aside0 (w'.heap[gb411]? = some (.cells #[.string (⟨#[]⟩ : ByteArray), .string (⟨#[]⟩ : ByteArray), .bool false, .bool false] 58 (0, 0))) ∧ Aside0 (Below w.heap.size w w'))
 case atStart => exact ⟨((-1)), (0), cA, cA, H', ⟨Nat.le_refl _⟩, ⟨bK BK411⟩, ⟨bG⟩⟩
 clear H'
 try clear p2
 obtain ⟨x8_1, x9_1, rfl, rfl, HA, HK1, BK411, HB⟩ := hrel
 cases gk with
 | zero => exact absurd HA.out (by simp [newelref05_span.l0])
 | succ k1 =>
  have H := HA.out
  clear HA
  simp only [newelref05_span.l0] at H
  (try simp only [toList_lit] at H)
  by_cases c5 : x9_1 < (a0.size : Int)
  ·rw [if_pos c5] at H
   have c5b0 := dT c5
   clear c5
   by_cases c6 : 0 ≤ x9_1
   rotate_left
   ·rw [if_neg c6] at H
    exact absurd H (by simp)
   rw [if_pos c6] at H
   have c6b0 := dT c6
   clear c6
   by_cases c8 : (bt a0 x9_1) = 44
   rotate_left
   ·rw [if_neg c8] at H
    obtain ⟨c8b0, c8b1⟩ := eqF c8
    have H' := Aside0.mk H
    clear H
    have p7 : 0 ≤ (x9_1 : Int) := dA
    have q7 : x9_1 < (a0.size : Int) := dA
    have hx7 := bt_at a0 x9_1
    replace p7 := eq_true p7
    replace q7 := eq_true q7
    go_wp2
    go_roundg k1
    case measure => have := HK1.out; omega
    case rel => exact ⟨(x8_1), (wrap64 (x9_1 + 1)), cA, cA, H', ⟨by have := HK1.out; omega⟩, ⟨bK BK411⟩, ⟨bG⟩⟩
   rw [if_pos c8] at H
   obtain ⟨c8b0, c8b1⟩ := eqT c8
   clear c8
   by_cases c9 : x8_1 < 0
   rotate_left
   ·rw [if_neg c9] at H
    have c9b0 := dF c9
    clear c9
    have H' := Aside0.mk H
    clear H
    have p7 : 0 ≤ (x9_1 : Int) := dA
    have q7 : x9_1 < (a0.size : Int) := dA
    have hx7 := bt_at a0 x9_1
    replace p7 := eq_true p7
    replace q7 := eq_true q7
    go_wp2
    go_roundg k1
    case measure => have := HK1.out; omega
    case rel => exact ⟨(x8_1), (wrap64 (x9_1 + 1)), cA, cA, H', ⟨by have := HK1.out; omega⟩, ⟨bK BK411⟩, ⟨bG⟩⟩
   rw [if_pos c9] at H
   have c9b0 := dT c9
   clear c9
   have H' := Aside0.mk H
   clear H
   have p7 : 0 ≤ (x9_1 : Int) := dA
   have q7 : x9_1 < (a0.size : Int) := dA
   have hx7 := bt_at a0 x9_1
   replace p7 := eq_true p7
   replace q7 := eq_true q7
   go_wp2
   go_roundg k1
   case measure => have := HK1.out; omega
   case rel => exact ⟨(x9_1), (wrap64 (x9_1 + 1)), cA, cA, H', ⟨by have := HK1.out; omega⟩, ⟨bK BK411⟩, ⟨bG⟩⟩
  rw [if_neg c5] at H
  have c5b0 := dF c5
  clear c5
  by_cases c10 : x8_1 < 0
  ·rw [if_pos c10] at H
   have c10b0 := dT c10
   clear c10
   replace H := bi H
   obtain ⟨t412, A110, H⟩ := H
   try dsimp only at H
   have A11 := Aside0.mk A110
   clear A110
   by_cases c12 : t412.toList = ([] : List UInt8)
   ·rw [if_pos c12] at H
    obtain ⟨c12b0, c12b1⟩ := eqT c12
    (try (have c12b2 : t412.toList.isEmpty = true := by simpa using c12))
    clear c12
    simp only [Option.some.injEq, Prod.mk.injEq] at H
    obtain ⟨rfl, rfl, rfl, rfl, rfl⟩ := H
    go_wp2_with (first | (refine gl (some 29) Tryd.func121 #[.string a0] ?_; (with_reducible refine (newelref05_blank.calls k1 a0 t412 _ (gS HG) A11.out).mono ?_); rintro e w' ⟨rfl, ⟨nd, rfl⟩⟩; refine ⟨_, rfl, ?_⟩; (try (rw [drewN_self wr]; generalize hq_ : World.drewN wr _ = wr; have n0_ : Aside0 (wr.heap[gb411]? = some (.cells #[.string (⟨#[]⟩ : ByteArray), .string (⟨#[]⟩ : ByteArray), .bool false, .bool false] 58 (0, 0))) := ⟨by rw [← hq_]; exact (bK BK411)⟩; have n1_ : Aside0 (Below w.heap.size w wr) := ⟨by rw [← hq_]; exact bG⟩; clear BK411 HB hq_; have BK411 := n0_; have HB := n1_; clear n0_ n1_)); have hcz13_0 : wr.cell? ⟨gb411, 0, none⟩ = some (.string (⟨#[]⟩ : ByteArray)) := (blk_cell BK411.out 0).trans rfl; have hcz13_1 : wr.cell? ⟨gb411, 1, none⟩ = some (.string (⟨#[]⟩ : ByteArray)) := (blk_cell BK411.out 1).trans rfl; have hcz13_2 : wr.cell? ⟨gb411, 2, none⟩ = some (.bool false) := (blk_cell BK411.out 2).trans rfl; have hcz13_3 : wr.cell? ⟨gb411, 3, none⟩ = some (.bool false) := (blk_cell BK411.out 3).trans rfl; have hfz13_0 := blk_frozen BK411.out 0; have hfz13_1 := blk_frozen BK411.out 1; have hfz13_2 := blk_frozen BK411.out 2; have hfz13_3 := blk_frozen BK411.out 3))
    refine bodyPost_ret (results_ct rfl _ _ gb411 58 #[.string t412, .string t412, .bool true, .bool true] (0, 0) _ rfl (bP BK411) Tryd.underlying58 rfl (by kernel_rfl)) rfl ?_
    exact ⟨eA, bG⟩
   rw [if_neg c12] at H
   obtain ⟨c12b0, c12b1⟩ := eqF c12
   (try (have c12b2 : t412.toList.isEmpty = false := by simpa using c12))
   by_cases c14 : a1 = 91
   rotate_left
   ·rw [if_neg c14] at H
    obtain ⟨c14b0, c14b1⟩ := eqF c14
    simp only [Option.some.injEq, Prod.mk.injEq] at H
    obtain ⟨rfl, rfl, rfl, rfl, rfl⟩ := H
    go_wp2_with (first | (refine gl (some 29) Tryd.func121 #[.string a0] ?_; (with_reducible refine (newelref05_blank.calls k1 a0 t412 _ (gS HG) A11.out).mono ?_); rintro e w' ⟨rfl, ⟨nd, rfl⟩⟩; refine ⟨_, rfl, ?_⟩; (try (rw [drewN_self wr]; generalize hq_ : World.drewN wr _ = wr; have n0_ : Aside0 (wr.heap[gb411]? = some (.cells #[.string (⟨#[]⟩ : ByteArray), .string (⟨#[]⟩ : ByteArray), .bool false, .bool false] 58 (0, 0))) := ⟨by rw [← hq_]; exact (bK BK411)⟩; have n1_ : Aside0 (Below w.heap.size w wr) := ⟨by rw [← hq_]; exact bG⟩; clear BK411 HB hq_; have BK411 := n0_; have HB := n1_; clear n0_ n1_)); have hcz16_0 : wr.cell? ⟨gb411, 0, none⟩ = some (.string (⟨#[]⟩ : ByteArray)) := (blk_cell BK411.out 0).trans rfl; have hcz16_1 : wr.cell? ⟨gb411, 1, none⟩ = some (.string (⟨#[]⟩ : ByteArray)) := (blk_cell BK411.out 1).trans rfl; have hcz16_2 : wr.cell? ⟨gb411, 2, none⟩ = some (.bool false) := (blk_cell BK411.out 2).trans rfl; have hcz16_3 : wr.cell? ⟨gb411, 3, none⟩ = some (.bool false) := (blk_cell BK411.out 3).trans rfl; have hfz16_0 := blk_frozen BK411.out 0; have hfz16_1 := blk_frozen BK411.out 1; have hfz16_2 := blk_frozen BK411.out 2; have hfz16_3 := blk_frozen BK411.out 3))
    refine bodyPost_ret (results_ct rfl _ _ gb411 58 #[.string t412, .string t412, .bool true, .bool true] (0, 0) _ rfl (bP BK411) Tryd.underlying58 rfl (by kernel_rfl)) rfl ?_
    exact ⟨eA, bG⟩
   rw [if_pos c14] at H
   obtain ⟨c14b0, c14b1⟩ := eqT c14
   clear c14
   simp only [Option.some.injEq, Prod.mk.injEq] at H
   obtain ⟨rfl, rfl, rfl, rfl, rfl⟩ := H
   go_wp2_with (first | (refine gl (some 29) Tryd.func121 #[.string a0] ?_; (with_reducible refine (newelref05_blank.calls k1 a0 t412 _ (gS HG) A11.out).mono ?_); rintro e w' ⟨rfl, ⟨nd, rfl⟩⟩; refine ⟨_, rfl, ?_⟩; (try (rw [drewN_self wr]; generalize hq_ : World.drewN wr _ = wr; have n0_ : Aside0 (wr.heap[gb411]? = some (.cells #[.string (⟨#[]⟩ : ByteArray), .string (⟨#[]⟩ : ByteArray), .bool false, .bool false] 58 (0, 0))) := ⟨by rw [← hq_]; exact (bK BK411)⟩; have n1_ : Aside0 (Below w.heap.size w wr) := ⟨by rw [← hq_]; exact bG⟩; clear BK411 HB hq_; have BK411 := n0_; have HB := n1_; clear n0_ n1_)); have hcz15_0 : wr.cell? ⟨gb411, 0, none⟩ = some (.string (⟨#[]⟩ : ByteArray)) := (blk_cell BK411.out 0).trans rfl; have hcz15_1 : wr.cell? ⟨gb411, 1, none⟩ = some (.string (⟨#[]⟩ : ByteArray)) := (blk_cell BK411.out 1).trans rfl; have hcz15_2 : wr.cell? ⟨gb411, 2, none⟩ = some (.bool false) := (blk_cell BK411.out 2).trans rfl; have hcz15_3 : wr.cell? ⟨gb411, 3, none⟩ = some (.bool false) := (blk_cell BK411.out 3).trans rfl; have hfz15_0 := blk_frozen BK411.out 0; have hfz15_1 := blk_frozen BK411.out 1; have hfz15_2 := blk_frozen BK411.out 2; have hfz15_3 := blk_frozen BK411.out 3))
   refine bodyPost_ret (results_ct rfl _ _ gb411 58 #[.string t412, .string t412, .bool true, .bool true] (0, 0) _ rfl (bP BK411) Tryd.underlying58 rfl (by kernel_rfl)) rfl ?_
   exact ⟨eA, bG⟩
  rw [if_neg c10] at H
  have c10b0 := dF c10
  clear c10
  by_cases c17 : 0 ≤ x8_1
  rotate_left
  ·rw [if_neg c17] at H
   exact absurd H (by simp)
  rw [if_pos c17] at H
  have c17b0 := eq_true c17
  have c17b1 := dT c17
  clear c17
  by_cases c18 : x8_1 ≤ (a0.size : Int)
  rotate_left
  ·rw [if_neg c18] at H
   exact absurd H (by simp)
  rw [if_pos c18] at H
  have c18b0 := eq_true c18
  have c18b1 := dT c18
  clear c18
  replace H := bi H
  obtain ⟨t413, A190, H⟩ := H
  try dsimp only at H
  have A19 := Aside0.mk A190
  clear A190
  obtain ⟨ji20, hji20⟩ : ∃ j_ : Int, (wrap64 (x8_1 + 1)) = j_ := ⟨_, rfl⟩
  rw [hji20] at H
  (try rw [hji20] at A19)
  have hji20w : (IntKind.i64.wrap (x8_1 + 1)) = ji20 := (i64_w _).trans hji20
  by_cases c21 : 0 ≤ (ji20)
  rotate_left
  ·rw [if_neg c21] at H
   exact absurd H (by simp)
  rw [if_pos c21] at H
  have c21b0 := eq_true c21
  have c21b1 := dT c21
  clear c21
  by_cases c22 : (ji20) ≤ (a0.size : Int)
  rotate_left
  ·rw [if_neg c22] at H
   exact absurd H (by simp)
  rw [if_pos c22] at H
  have c22b0 := eq_true c22
  have c22b1 := dT c22
  clear c22
  replace H := bi H
  obtain ⟨t414, A230, H⟩ := H
  try dsimp only at H
  have A23 := Aside0.mk A230
  clear A230
  simp only [Option.some.injEq, Prod.mk.injEq] at H
  obtain ⟨rfl, rfl, rfl, rfl, rfl⟩ := H
  try go_wp2
  replace BK411 := Aside0.mk (blk_drew BK411.out)
  replace HB := Aside0.mk (below_drew1 HB.out)
  refine start_ (n := 16) (S := fun w' => True) (ds := []) #[false, false, false, false, false, false, false, false, false, false, false, false, false, false, false, false] (by kernel_rfl) rfl rfl trivial (fun hHeld => ?_); refine with_tabW newelref05_span.tab10 newelref05_span.bits10 (fun HT_ HW_ => ?_)
  generalize wr.drew = w24 at BK411 HB hHeld ⊢
  refine pz 0 (some 43) HT_ ?_
  refine pz 1 (some 44) HT_ ?_
  refine pz 2 (some 45) HT_ ?_
  refine pz 4 (some 47) HT_ ?_
  refine pz 5 (some 48) HT_ ?_
  refine pz 6 (some 49) HT_ ?_
  refine pz 7 (some 50) HT_ ?_
  refine pz 9 (some 52) HT_ ?_
  refine pz 10 (some 53) HT_ ?_
  refine pz 11 (some 54) HT_ ?_
  refine pz 12 (some 55) HT_ ?_
  refine on 3 (some 46) HT_ (fun K hK => ?_)
  refine goes_ Tryd.func121 (by kernel_rfl) rfl #[.string (a0.extract 0 (x8_1 : Int).toNat)] (by rfl) rfl rfl mA ?_
  with_reducible refine (newelref05_blank.calls k1 (a0.extract 0 (x8_1 : Int).toNat) t413 _ (gS HG) A19.out).mono ?_
  rintro e w' ⟨rfl, ⟨nd, rfl⟩⟩
  refine ⟨_, rfl, ?_⟩
  refine hK.out _ _ trivial (fun hHeld => ?_)
  clear hK K
  refine nz (some 46) ?_
  refine on 8 (some 51) HT_ (fun K hK => ?_)
  refine goes_ Tryd.func121 (by kernel_rfl) rfl #[.string (a0.extract ((ji20) : Int).toNat a0.size)] (by rfl) rfl rfl (by (try simp only [List.map_toArray, List.map_cons, List.map_nil]); first | done | (simp only [hji20]; rfl) | rfl | (simp only [List.length_drop, List.length_take]; rfl)) ?_
  with_reducible refine (newelref05_blank.calls k1 (a0.extract ((ji20) : Int).toNat a0.size) t414 _ (gS HG) A23.out).mono ?_
  rintro e w' ⟨rfl, ⟨nd, rfl⟩⟩
  refine ⟨_, rfl, ?_⟩
  refine hK.out _ _ trivial (fun hHeld => ?_)
  clear hK K
  refine nz (some 51) ?_
  refine pz 13 (some 56) HT_ ?_
  refine on 14 (none) HT_ (fun K hK => ?_)
  have hs25 : w24.cell? ⟨gb411, 0, none⟩ = some (.string (⟨#[]⟩ : ByteArray)) := (blk_cell BK411.out 0).trans rfl
  have hfs25 := blk_frozen BK411.out 0
  have hs26 : w24.cell? ⟨gb411, 1, none⟩ = some (.string (⟨#[]⟩ : ByteArray)) := (blk_cell BK411.out 1).trans rfl
  have hfs26 := blk_frozen BK411.out 1
  have hs27 : w24.cell? ⟨gb411, 2, none⟩ = some (.bool false) := (blk_cell BK411.out 2).trans rfl
  have hfs27 := blk_frozen BK411.out 2
  have hs28 : w24.cell? ⟨gb411, 3, none⟩ = some (.bool false) := (blk_cell BK411.out 3).trans rfl
  have hfs28 := blk_frozen BK411.out 3
  refine skip_ (w1 := ?_) (by rfl) rfl ?_ ?_
  rotate_left
  ·go_simp
   rfl
  refine hK.out _ _ trivial (fun hHeld => ?_)
  clear hK K
  refine pz 15 (some 7) HT_ ?_
  refine done_ (done_of HT_.out (by kernel_rfl)) ?_
  try go_wp2
  refine bodyPost_ret (results_ct rfl _ _ gb411 58 #[.string t413, .string t414, .bool (a1 == 91), .bool (a2 == 93)] (0, 0) _ rfl (bP BK411) Tryd.underlying58 rfl (by kernel_rfl)) rfl ?_
  exact ⟨by first | rfl | (simp [errW_none, errW_some] <;> rfl) | (simp only [← hji20]; first | rfl | (simp [errW_none, errW_some] <;> rfl)) | (simp [*, errW_none, errW_some] <;> rfl), bG⟩
def newelref05_Right.l0 : Nat → ByteArray → Int → Option (Bool)
 | 0, _, _ => none
 | k + 1, x0, x3 => if x3 < (x0.size : Int) then (if 0 ≤ x3 then (if (bt x0 x3) < 33 then (some false) else (if (bt x0 x3) > 126 then (some false) else (if (bt x0 x3) = 91 then (some false) else (if (bt x0 x3) = 93 then (some false) else (if (bt x0 x3) = 40 then (some false) else (if (bt x0 x3) = 41 then (some false) else (if (bt x0 x3) = 44 then (some false) else (newelref05_Right.l0 k x0 (wrap64 (x3 + 1)))))))))) else (none)) else (if (x0.size : Int) ≥ 1 then (some (decide ((x0.size : Int) ≤ 100))) else (some false))
def newelref05_Right.f (k : Nat) (a0 : ByteArray) : Option (Bool) := newelref05_Right.l0 k a0 0
theorem newelref05_Right.mono_l : ∀ k, (∀ y0 y1, LeO (newelref05_Right.l0 k y0 y1) (newelref05_Right.l0 (k + 1) y0 y1))
 | 0 => fun _ _ r h => by simp [newelref05_Right.l0] at h
 | k + 1 => by
  have ih0 := newelref05_Right.mono_l k
  ·intro y0 y1
   unfold newelref05_Right.l0
   exact mo
theorem newelref05_Right.mono : ∀ a0 k, LeO (newelref05_Right.f k a0) (newelref05_Right.f (k + 1) a0) := by
 intro a0 k
 have ih0 := newelref05_Right.mono_l k
 unfold newelref05_Right.f
 exact mo
theorem newelref05_Right.calls (k : Nat) (a0 : ByteArray) (r : Bool) (w : World) (hG : Glob w) (h : newelref05_Right.f k a0 = some r) :
 Calls Tryd.prog 29 #[.string a0] w fun e w' => e = .returned (.bool r) ∧ Drawn0 w w' := by
 have HG := Aside0.mk hG
 clear hG
 have H : (newelref05_Right.l0 k a0 0) = some r := h
 clear h
 have H' := Aside0.mk H
 clear H
 go_enter Tryd.func29, Tryd.ntmps29
 go_wp2
 go_loopg [3] k (fun kq v3 w' => ∃ (x3_1 : Int), v3 = .int .i64 x3_1 ∧ Aside0 (newelref05_Right.l0 kq a0 x3_1 = some r) ∧ Aside0 (kq ≤ k) ∧ Drawn0 w w')
 case atStart => exact ⟨(0), cA, H', ⟨Nat.le_refl _⟩, by repeat (first | exact Drawn0.refl _ | apply Drawn0.step)⟩
 clear H'
 obtain ⟨x3_1, rfl, HA, HK1, ⟨m1, rfl⟩⟩ := hrel
 cases gk with
 | zero => exact absurd HA.out (by simp [newelref05_Right.l0])
 | succ k1 =>
  have H := HA.out
  clear HA
  simp only [newelref05_Right.l0] at H
  by_cases c2 : x3_1 < (a0.size : Int)
  rotate_left
  ·rw [if_neg c2] at H
   have c2b0 := dF c2
   clear c2
   by_cases c12 : (a0.size : Int) ≥ 1
   rotate_left
   ·rw [if_neg c12] at H
    have c12b0 := dF c12
    have c12b1 : decide (1 ≤ a0.size) = false := decide_eq_false (by omega)
    clear c12
    obtain rfl := Option.some.inj H
    go_wp2
    go_ret
    exact ⟨by first | rfl | (simp; done) | (simp [*]; done), by repeat (first | exact Drawn0.refl _ | apply Drawn0.step)⟩
   rw [if_pos c12] at H
   have c12b0 := dT c12
   have c12b1 : decide (1 ≤ a0.size) = true := decide_eq_true (by omega)
   clear c12
   obtain rfl := Option.some.inj H
   go_wp2
   go_ret
   exact ⟨by first | rfl | (simp; done) | (simp [*]; done), by repeat (first | exact Drawn0.refl _ | apply Drawn0.step)⟩
  rw [if_pos c2] at H
  have c2b0 := dT c2
  clear c2
  by_cases c3 : 0 ≤ x3_1
  rotate_left
  ·rw [if_neg c3] at H
   exact absurd H (by simp)
  rw [if_pos c3] at H
  have c3b0 := dT c3
  clear c3
  by_cases c5 : (bt a0 x3_1) < 33
  ·rw [if_pos c5] at H
   have c5b0 := dT c5
   clear c5
   obtain rfl := Option.some.inj H
   have p4 : 0 ≤ (x3_1 : Int) := dA
   have q4 : x3_1 < (a0.size : Int) := dA
   have hx4 := bt_at a0 x3_1
   replace p4 := eq_true p4
   replace q4 := eq_true q4
   go_wp2
   go_ret
   exact ⟨by first | rfl | (simp; done) | (simp [*]; done), by repeat (first | exact Drawn0.refl _ | apply Drawn0.step)⟩
  rw [if_neg c5] at H
  have c5b0 := dF c5
  clear c5
  by_cases c6 : (bt a0 x3_1) > 126
  ·rw [if_pos c6] at H
   have c6b0 := dT c6
   clear c6
   obtain rfl := Option.some.inj H
   have p4 : 0 ≤ (x3_1 : Int) := dA
   have q4 : x3_1 < (a0.size : Int) := dA
   have hx4 := bt_at a0 x3_1
   replace p4 := eq_true p4
   replace q4 := eq_true q4
   go_wp2
   go_ret
   exact ⟨by first | rfl | (simp; done) | (simp [*]; done), by repeat (first | exact Drawn0.refl _ | apply Drawn0.step)⟩
  rw [if_neg c6] at H
  have c6b0 := dF c6
  clear c6
  by_cases c7 : (bt a0 x3_1) = 91
  ·rw [if_pos c7] at H
   obtain ⟨c7b0, c7b1⟩ := eqT c7
   clear c7
   obtain rfl := Option.some.inj H
   have p4 : 0 ≤ (x3_1 : Int) := dA
   have q4 : x3_1 < (a0.size : Int) := dA
   have hx4 := bt_at a0 x3_1
   replace p4 := eq_true p4
   replace q4 := eq_true q4
   go_wp2
   go_ret
   exact ⟨by first | rfl | (simp; done) | (simp [*]; done), by repeat (first | exact Drawn0.refl _ | apply Drawn0.step)⟩
  rw [if_neg c7] at H
  obtain ⟨c7b0, c7b1⟩ := eqF c7
  by_cases c8 : (bt a0 x3_1) = 93
  ·rw [if_pos c8] at H
   obtain ⟨c8b0, c8b1⟩ := eqT c8
   clear c8
   obtain rfl := Option.some.inj H
   have p4 : 0 ≤ (x3_1 : Int) := dA
   have q4 : x3_1 < (a0.size : Int) := dA
   have hx4 := bt_at a0 x3_1
   replace p4 := eq_true p4
   replace q4 := eq_true q4
   go_wp2
   go_ret
   exact ⟨by first | rfl | (simp; done) | (simp [*]; done), by repeat (first | exact Drawn0.refl _ | apply Drawn0.step)⟩
  rw [if_neg c8] at H
  obtain ⟨c8b0, c8b1⟩ := eqF c8
  by_cases c9 : (bt a0 x3_1) = 40
  ·rw [if_pos c9] at H
   obtain ⟨c9b0, c9b1⟩ := eqT c9
   clear c9
   obtain rfl := Option.some.inj H
   have p4 : 0 ≤ (x3_1 : Int) := dA
   have q4 : x3_1 < (a0.size : Int) := dA
   have hx4 := bt_at a0 x3_1
   replace p4 := eq_true p4
   replace q4 := eq_true q4
   go_wp2
   go_ret
   exact ⟨by first | rfl | (simp; done) | (simp [*]; done), by repeat (first | exact Drawn0.refl _ | apply Drawn0.step)⟩
  rw [if_neg c9] at H
  obtain ⟨c9b0, c9b1⟩ := eqF c9
  by_cases c10 : (bt a0 x3_1) = 41
  ·rw [if_pos c10] at H
   obtain ⟨c10b0, c10b1⟩ := eqT c10
   clear c10
   obtain rfl := Option.some.inj H
   have p4 : 0 ≤ (x3_1 : Int) := dA
   have q4 : x3_1 < (a0.size : Int) := dA
   have hx4 := bt_at a0 x3_1
   replace p4 := eq_true p4
   replace q4 := eq_true q4
   go_wp2
   go_ret
   exact ⟨by first | rfl | (simp; done) | (simp [*]; done), by repeat (first | exact Drawn0.refl _ | apply Drawn0.step)⟩
  rw [if_neg c10] at H
  obtain ⟨c10b0, c10b1⟩ := eqF c10
  by_cases c11 : (bt a0 x3_1) = 44
  ·rw [if_pos c11] at H
   obtain ⟨c11b0, c11b1⟩ := eqT c11
   clear c11
   obtain rfl := Option.some.inj H
   have p4 : 0 ≤ (x3_1 : Int) := dA
   have q4 : x3_1 < (a0.size : Int) := dA
   have hx4 := bt_at a0 x3_1
   replace p4 := eq_true p4
   replace q4 := eq_true q4
   go_wp2
   go_ret
   exact ⟨by first | rfl | (simp; done) | (simp [*]; done), by repeat (first | exact Drawn0.refl _ | apply Drawn0.step)⟩
  rw [if_neg c11] at H
  obtain ⟨c11b0, c11b1⟩ := eqF c11
  have H' := Aside0.mk H
  clear H
  have p4 : 0 ≤ (x3_1 : Int) := dA
  have q4 : x3_1 < (a0.size : Int) := dA
  have hx4 := bt_at a0 x3_1
  replace p4 := eq_true p4
  replace q4 := eq_true q4
  go_wp2
  go_roundg k1
  case measure => have := HK1.out; omega
  case rel => exact ⟨(wrap64 (x3_1 + 1)), cA, H', ⟨by have := HK1.out; omega⟩, by repeat (first | exact Drawn0.refl _ | apply Drawn0.step)⟩
def newelref01_Digit.f (a0 : Int) : Option (Bool) := if a0 ≥ 48 then (some (decide (a0 ≤ 57))) else (some false)
theorem newelref01_Digit.calls (a0 : Int) (r : Bool) (w : World) (hG : Glob w) (h : newelref01_Digit.f a0 = some r) :
 Calls Tryd.prog 78 #[.int .u8 a0] w fun e w' => e = .returned (.bool r) ∧ Drawn0 w w' := by
 have HG := Aside0.mk hG
 clear hG
 have H : (if a0 ≥ 48 then (some (decide (a0 ≤ 57))) else (some false)) = some r := h
 clear h
 by_cases c2 : a0 ≥ 48
 rotate_left
 ·rw [if_neg c2] at H
  have c2b0 := dF c2
  clear c2
  obtain rfl := Option.some.inj H
  go_enter Tryd.func78, Tryd.ntmps78
  go_wp2
  go_ret
  exact ⟨by first | rfl | (simp; done) | (simp [*]; done), by repeat (first | exact Drawn0.refl _ | apply Drawn0.step)⟩
 rw [if_pos c2] at H
 have c2b0 := dT c2
 clear c2
 obtain rfl := Option.some.inj H
 go_enter Tryd.func78, Tryd.ntmps78
 go_wp2
 go_ret
 exact ⟨by first | rfl | (simp; done) | (simp [*]; done), by repeat (first | exact Drawn0.refl _ | apply Drawn0.step)⟩
def newelref05_parts.l0 : Nat → ByteArray → List (S98) → Int → Option ((List (S98)))
 | 0, _, _, _ => none
 | k + 1, x0, x3, x4 => if x4 < (x0.size : Int) then (if 0 ≤ (wrap64 ((x3.length : Int) - 1)) then (if (wrap64 ((x3.length : Int) - 1)) < (x3.length : Int) then (if 0 ≤ x4 then (if (bt x0 x4) = 46 then (if x3.length < 5864062014805 then (newelref05_parts.l0 k x0 (x3 ++ [(⟨(⟨#[]⟩ : ByteArray), ((bt x0 x4) == 45), false⟩ : S98)]) (wrap64 (x4 + 1))) else (none)) else (if (bt x0 x4) = 45 then (if x3.length < 5864062014805 then (newelref05_parts.l0 k x0 (x3 ++ [(⟨(⟨#[]⟩ : ByteArray), true, false⟩ : S98)]) (wrap64 (x4 + 1))) else (none)) else (if ((rd_T98 x3 (wrap64 ((x3.length : Int) - 1))).f0).toList = ([] : List UInt8) then (if x4 ≤ (wrap64 (x4 + 1)) then (if (wrap64 (x4 + 1)) ≤ (x0.size : Int) then (if ((rd_T98 x3 (wrap64 ((x3.length : Int) - 1))).f0).size + (x0.extract (x4 : Int).toNat ((wrap64 (x4 + 1)) : Int).toNat).size ≤ 9223372036854775807 then (newelref05_parts.l0 k x0 (x3.set ((wrap64 ((x3.length : Int) - 1)) : Int).toNat (⟨((rd_T98 x3 (wrap64 ((x3.length : Int) - 1))).f0) ++ (x0.extract (x4 : Int).toNat ((wrap64 (x4 + 1)) : Int).toNat), (rd_T98 x3 (wrap64 ((x3.length : Int) - 1))).f1, (rd_T98 x3 (wrap64 ((x3.length : Int) - 1))).f2⟩ : S98)) (wrap64 (x4 + 1))) else (none)) else (none)) else (none)) else (if 0 ≤ (wrap64 ((((rd_T98 x3 (wrap64 ((x3.length : Int) - 1))).f0).size : Int) - 1)) then (if (wrap64 ((((rd_T98 x3 (wrap64 ((x3.length : Int) - 1))).f0).size : Int) - 1)) < (((rd_T98 x3 (wrap64 ((x3.length : Int) - 1))).f0).size : Int) then ((newelref01_Digit.f (bt ((rd_T98 x3 (wrap64 ((x3.length : Int) - 1))).f0) (wrap64 ((((rd_T98 x3 (wrap64 ((x3.length : Int) - 1))).f0).size : Int) - 1)))).bind fun t238 => ((newelref01_Digit.f (bt x0 x4)).bind fun t239 => (if (t238 != t239) = true then ((newelref01_Digit.f (bt x0 x4)).bind fun t240 => ((some (x3.set ((wrap64 ((x3.length : Int) - 1)) : Int).toNat (⟨(rd_T98 x3 (wrap64 ((x3.length : Int) - 1))).f0, (rd_T98 x3 (wrap64 ((x3.length : Int) - 1))).f1, t240⟩ : S98) : List (S98))).bind fun y241 => (if y241.length < 5864062014805 then ((some (y241 ++ [(⟨(⟨#[]⟩ : ByteArray), true, false⟩ : S98)] : List (S98))).bind fun y242 => (if 0 ≤ (wrap64 ((y242.length : Int) - 1)) then (if (wrap64 ((y242.length : Int) - 1)) < (y242.length : Int) then (if x4 ≤ (wrap64 (x4 + 1)) then (if (wrap64 (x4 + 1)) ≤ (x0.size : Int) then (if ((rd_T98 y242 (wrap64 ((y242.length : Int) - 1))).f0).size + (x0.extract (x4 : Int).toNat ((wrap64 (x4 + 1)) : Int).toNat).size ≤ 9223372036854775807 then (newelref05_parts.l0 k x0 (y242.set ((wrap64 ((y242.length : Int) - 1)) : Int).toNat (⟨((rd_T98 y242 (wrap64 ((y242.length : Int) - 1))).f0) ++ (x0.extract (x4 : Int).toNat ((wrap64 (x4 + 1)) : Int).toNat), (rd_T98 y242 (wrap64 ((y242.length : Int) - 1))).f1, (rd_T98 y242 (wrap64 ((y242.length : Int) - 1))).f2⟩ : S98)) (wrap64 (x4 + 1))) else (none)) else (none)) else (none)) else (none)) else (none))) else (none)))) else (if x4 ≤ (wrap64 (x4 + 1)) then (if (wrap64 (x4 + 1)) ≤ (x0.size : Int) then (if ((rd_T98 x3 (wrap64 ((x3.length : Int) - 1))).f0).size + (x0.extract (x4 : Int).toNat ((wrap64 (x4 + 1)) : Int).toNat).size ≤ 9223372036854775807 then (newelref05_parts.l0 k x0 (x3.set ((wrap64 ((x3.length : Int) - 1)) : Int).toNat (⟨((rd_T98 x3 (wrap64 ((x3.length : Int) - 1))).f0) ++ (x0.extract (x4 : Int).toNat ((wrap64 (x4 + 1)) : Int).toNat), (rd_T98 x3 (wrap64 ((x3.length : Int) - 1))).f1, (rd_T98 x3 (wrap64 ((x3.length : Int) - 1))).f2⟩ : S98)) (wrap64 (x4 + 1))) else (none)) else (none)) else (none))))) else (none)) else (none))))) else (none)) else (none)) else (none)) else (some x3)
def newelref05_parts.f (k : Nat) (a0 : ByteArray) : Option ((List (S98))) := newelref05_parts.l0 k a0 (([(⟨(⟨#[]⟩ : ByteArray), false, false⟩ : S98)] : List (S98))) 0
theorem newelref05_parts.mono_l : ∀ k, (∀ y0 y1 y2, LeO (newelref05_parts.l0 k y0 y1 y2) (newelref05_parts.l0 (k + 1) y0 y1 y2))
 | 0 => fun _ _ _ r h => by simp [newelref05_parts.l0] at h
 | k + 1 => by
  have ih0 := newelref05_parts.mono_l k
  ·intro y0 y1 y2
   unfold newelref05_parts.l0
   exact mo
theorem newelref05_parts.mono : ∀ a0 k, LeO (newelref05_parts.f k a0) (newelref05_parts.f (k + 1) a0) := by
 intro a0 k
 have ih0 := newelref05_parts.mono_l k
 unfold newelref05_parts.f
 exact mo
def newelref05_parts.T8 : Bool × List (List Nat × List Nat) := (true, [([], []), ([0], [0]), ([1], [1]), ([2], [2]), ([3], [3]), ([4], [4]), ([5], [5]), ([6, 5], [5, 6]), ([7, 5], [5, 7]), ([8, 5], [5, 8]), ([5], [5]), ([10, 5], [5, 10]), ([11, 5], [5, 11]), ([12, 5], [5, 12]), ([13, 5], [5, 13]), ([14, 5], [5, 14]), ([9, 15, 5], [5, 9, 15]), ([16, 5, 5], [5, 16]), ([5], [5]), ([5], [5]), ([18, 19, 5], [5, 18, 19]), ([20, 17, 5], [5, 20]), ([17, 21, 5], [5, 17, 21]), ([5, 22], [5, 22])])
def newelref05_parts.B8 : List Nat := [0, 1, 3, 7, 15, 31, 63, 127, 255, 511, 63, 1087, 3135, 7231, 15423, 31807, 65535, 131071, 63, 63, 786495, 2097151, 4194303, 8388607]
theorem newelref05_parts.tab8 : rtab .any (opsOf Tryd.f75 8) = newelref05_parts.T8 := by kernel_rfl
theorem newelref05_parts.bits8 : waitsOk newelref05_parts.T8.2 newelref05_parts.B8 = true := by kernel_rfl
def newelref05_parts.T12 : Bool × List (List Nat × List Nat) := (true, [([], []), ([], []), ([1], [1]), ([2], [2]), ([3], [3]), ([], []), ([], []), ([], []), ([7], [7]), ([5, 6, 8], [5, 6, 8]), ([4, 9], [4, 9]), ([0, 0, 1, 2, 3, 4, 5, 6, 7, 8, 9, 10], [0]), ([11, 0, 1, 2, 3, 4, 5, 6, 7, 8, 9, 10], [11]), ([12, 10, 0, 1, 2, 3, 4, 5, 6, 7, 8, 9, 10], [10, 12])])
def newelref05_parts.B12 : List Nat := [0, 0, 2, 6, 14, 0, 0, 0, 128, 480, 1022, 2047, 4095, 8191]
theorem newelref05_parts.tab12 : rtab .any (opsOf Tryd.f75 12) = newelref05_parts.T12 := by kernel_rfl
theorem newelref05_parts.bits12 : waitsOk newelref05_parts.T12.2 newelref05_parts.B12 = true := by kernel_rfl
theorem newelref05_parts.calls (k : Nat) (a0 : ByteArray) (r : List (S98)) (w : World) (hG : Glob w) (h : newelref05_parts.f k a0 = some r) :
 Calls Tryd.prog 75 #[.string a0] w fun e w' => ∃ v0_ : Value, e = .returned (v0_) ∧ Kd.R k98 98 w' w.heap.size (fun _ => True) v0_ r ∧ Below w.heap.size w w' := by
 have hu98 := Tryd.underlying98
 have HG := Aside0.mk hG
 clear hG
 have HB := Aside0.mk (Below.refl w.heap.size w)
 have H : (newelref05_parts.l0 k a0 (([(⟨(⟨#[]⟩ : ByteArray), false, false⟩ : S98)] : List (S98))) 0) = some r := h
 clear h
 obtain ⟨y224, hy224⟩ : ∃ y_ : List (S98), y_ = (([(⟨(⟨#[]⟩ : ByteArray), false, false⟩ : S98)] : List (S98))) := ⟨_, rfl⟩
 replace H : (newelref05_parts.l0 k a0 y224 0) = some r := by first | (rw [hy224]; with_reducible exact H) | (have H2_ := (Option.bind_some _ _).symm.trans H; rw [hy224]; with_reducible exact H2_) | (have H2_ := (Option.bind_some _ _).symm.trans H; with_reducible exact H2_) | with_reducible exact H | (rw [hy224]; exact H) | exact H
 have Ny224 := Aside0.mk hy224
 clear hy224
 have H' := Aside0.mk H
 clear H
 go_enter Tryd.func75, Tryd.ntmps75
 go_wp2_with (first | ((with_reducible refine gate_dst (N := 7) rfl ?_); (try (refine gate_guard (by rfl) ?_; dsimp only)); refine Kd.R_lit k98 _ 98 ?hg (N := 7) ?hd (xs := ([(⟨(⟨#[]⟩ : ByteArray), false, false⟩ : S98)] : List (S98))) (inner := [.string (⟨#[]⟩ : ByteArray), .bool false, .bool false]) (ok := fun _ => True) (okp := fun _ => True) ?hr ?hp (fun _ hk => hk) trivial (Below.refl _ _) (Nat.le_refl _) (by simp) ?_; (case hd => rfl); (case hg => rfl); (case hr => first | (go_simp; done) | (go_simp; rfl)); (case hp => exact (Reps.c3 (show Kd.M k98 _ _ _ (⟨(⟨#[]⟩ : ByteArray), false, false⟩ : S98) [.string (⟨#[]⟩ : ByteArray), .bool false, .bool false] from (k98_mkM _ _ _ (⟨(⟨#[]⟩ : ByteArray), false, false⟩ : S98) )) (Reps.none _ _))); intro v225 w2 ho3 hb hg_ hnew_; clear hg_ hnew_; (first | rw [← Ny224.out] at ho3 | (simp only [Int.reduceToNat] at ho3; rw [← Ny224.out] at ho3)); have HO226 := Aside0.mk (Kd.R_lower ho3 (below_size bE)); replace HB := sB hb; clear hb ho3))
 (try simp only [Act.put, List.setIfInBounds_toArray, List.set_cons_zero, List.set_cons_succ])
 go_loopg [3, 4] k (fun kq v3 v4 w' => ∃ (x3_1 : List (S98)) (x4_1 : Int), v4 = .int .i64 x4_1 ∧ Aside0 (newelref05_parts.l0 kq a0 x3_1 x4_1 = some r) ∧ Aside0 (kq ≤ k) ∧ Aside0 (Kd.R k98 98 w' w.heap.size (fun _ => True) v3 x3_1) ∧ Aside0 (Below w.heap.size w w'))
 case atStart => exact ⟨(y224), (0), cA, H', ⟨Nat.le_refl _⟩, ⟨kR HO226⟩, ⟨bE⟩⟩
 clear H'
 try clear p2
 try clear c3
 obtain ⟨x3_1, x4_1, rfl, HA, HK1, HO_3, HB⟩ := hrel
 cases gk with
 | zero => exact absurd HA.out (by simp [newelref05_parts.l0])
 | succ k1 =>
  have H := HA.out
  clear HA
  simp only [newelref05_parts.l0] at H
  by_cases c4 : x4_1 < (a0.size : Int)
  rotate_left
  ·rw [if_neg c4] at H
   have c4b0 := dF c4
   clear c4
   obtain rfl := Option.some.inj H
   go_wp2
   go_ret
   exact ⟨_, by first | rfl | (simp [errW_none, errW_some] <;> rfl) | (simp [*, errW_none, errW_some] <;> rfl), by (with_reducible repeat (first | apply Kd.R_alloc | apply Kd.R_drewN | apply Kd.R_drew)); exact HO_3.out, bE⟩
  rw [if_pos c4] at H
  have c4b0 := dT c4
  clear c4
  obtain ⟨ji5, hji5⟩ : ∃ j_ : Int, (wrap64 ((x3_1.length : Int) - 1)) = j_ := ⟨_, rfl⟩
  rw [hji5] at H
  have hji5w : (IntKind.i64.wrap ((x3_1.length : Int) - 1)) = ji5 := (i64_w _).trans hji5
  by_cases c6 : 0 ≤ (ji5)
  rotate_left
  ·rw [if_neg c6] at H
   exact absurd H (by simp)
  rw [if_pos c6] at H
  have c6b0 := dT c6
  clear c6
  by_cases c7 : (ji5) < (x3_1.length : Int)
  rotate_left
  ·rw [if_neg c7] at H
   exact absurd H (by simp)
  rw [if_pos c7] at H
  have c7b0 := dT c7
  clear c7
  by_cases c9 : 0 ≤ x4_1
  rotate_left
  ·rw [if_neg c9] at H
   exact absurd H (by simp)
  rw [if_pos c9] at H
  have c9b0 := dT c9
  clear c9
  by_cases c11 : (bt a0 x4_1) = 46
  ·rw [if_pos c11] at H
   obtain ⟨c11b0, c11b1⟩ := eqT c11
   clear c11
   by_cases c13 : x3_1.length < 5864062014805
   rotate_left
   ·rw [if_neg c13] at H
    exact absurd H (by simp)
   rw [if_pos c13] at H
   have LMc13 := Aside0.mk c13
   clear c13
   obtain ⟨y227, hy227⟩ : ∃ y_ : List (S98), y_ = (x3_1 ++ [(⟨(⟨#[]⟩ : ByteArray), ((bt a0 x4_1) == 45), false⟩ : S98)]) := ⟨_, rfl⟩
   replace H : (newelref05_parts.l0 k1 a0 y227 (wrap64 (x4_1 + 1))) = some r := by first | (rw [hy227]; with_reducible exact H) | (have H2_ := (Option.bind_some _ _).symm.trans H; rw [hy227]; with_reducible exact H2_) | (have H2_ := (Option.bind_some _ _).symm.trans H; with_reducible exact H2_) | with_reducible exact H | (rw [hy227]; exact H) | exact H
   have Ny227 := Aside0.mk hy227
   clear hy227
   have H' := Aside0.mk H
   clear H
   obtain ⟨Ao14, co14, eo14⟩ := Kd.R_slice HO_3.out
   subst eo14
   have p8 : 0 ≤ ((ji5) : Int) := dA
   have q8 : ((ji5) : Int) < ((x3_1.length : Int) : Int) := dA
   obtain ⟨go8, co8, eo8, gb8, gl8, cl8, HG8⟩ := Kd.R_form HO_3.out (by omega)
   (first | cases eo8 | (injection eo8 with ea_ en_ ec_; (first | subst ea_ | (injection ea_ with ea_; subst ea_)); subst ec_; clear en_))
   have GB8 := Aside0.mk gb8
   have GG8 := Aside0.mk HG8
   clear gb8 gl8 HG8
   obtain ⟨ce8, hcl8, hM8, hcc8, hfr8⟩ := Kd.R_elem HO_3.out z98 ((ji5) : Int) p8 q8
   obtain rfl := k98_openM hM8
   have hx8_0 : wr.cell? ⟨go8, ((ji5) : Int).toNat * 3, none⟩ = some (.string ((rd_T98 x3_1 (ji5)).f0)) := hcc8 0 _ rfl
   have hx8_1 : wr.cell? ⟨go8, ((ji5) : Int).toNat * 3 + 1, none⟩ = some (.bool ((rd_T98 x3_1 (ji5)).f1)) := hcc8 1 _ rfl
   have hx8_2 : wr.cell? ⟨go8, ((ji5) : Int).toNat * 3 + 2, none⟩ = some (.bool ((rd_T98 x3_1 (ji5)).f2)) := hcc8 2 _ rfl
   have hf8_0 : wr.frozen? ⟨go8, ((ji5) : Int).toNat * 3, none⟩ = false := hfr8 0
   have hf8_1 : wr.frozen? ⟨go8, ((ji5) : Int).toNat * 3 + 1, none⟩ = false := hfr8 1
   have hf8_2 : wr.frozen? ⟨go8, ((ji5) : Int).toNat * 3 + 2, none⟩ = false := hfr8 2
   clear hcl8 hcc8 hfr8 hM8
   replace p8 := eq_true p8
   replace q8 := eq_true q8
   have p10 : 0 ≤ (x4_1 : Int) := dA
   have q10 : x4_1 < (a0.size : Int) := dA
   have hx10 := bt_at a0 x4_1
   replace p10 := eq_true p10
   replace q10 := eq_true q10
   have p12 : 0 ≤ (x4_1 : Int) := dA
   have q12 : x4_1 < (a0.size : Int) := dA
   have hx12 := bt_at a0 x4_1
   replace p12 := eq_true p12
   replace q12 := eq_true q12
   go_wp2_with (first | ((with_reducible refine gate_builtin (b := .append) (xs := #[.tmp 29, .tmp 35]) rfl ?_); (try (refine gate_guard (by rfl) ?_; dsimp only)); at_builtin; refine Kd.R_append k98 (w0 := w) w.heap.size rfl (.tmp 29) (.tmp 35) 94 98 (.agg #[(.string ⟨#[]⟩), (.bool false), (.bool false)]) 24 rfl Tryd.underlying94 info98 rfl (by decide) (by omega) (.slice (some ⟨go8, 0, none⟩) x3_1.length co14) x3_1 (⟨(⟨#[]⟩ : ByteArray), ((bt a0 x4_1) == 45), false⟩ : S98) [.string (⟨#[]⟩ : ByteArray), .bool ((bt a0 x4_1) == 45), .bool false] (fun _ => True) (fun _ => False) rfl rfl ?aP (fun _ hk => hk.elim) ?aF ?aO ?aB ?aS ?aL ?_; (case aP => exact k98_mkM _ _ _ (⟨(⟨#[]⟩ : ByteArray), ((bt a0 x4_1) == 45), false⟩ : S98)); (case aB => exact bE); (case aF => exact (fun _ _ => trivial)); (case aO => exact (kR HO_3)); (case aS => exact (below_size bE)); (case aL => have := LMc13.out; omega); intro v228 w15 ho hb hg hat; rw [← Ny227.out] at ho; replace HB := Aside0.mk (hb); have HO229 := Aside0.mk (ho); clear HO_3; clear ho hb hg hat))
   go_roundg k1
   case measure => have := HK1.out; omega
   case rel => exact ⟨(y227), (wrap64 (x4_1 + 1)), cA, H', ⟨by have := HK1.out; omega⟩, ⟨kR HO229⟩, ⟨bE⟩⟩
  rw [if_neg c11] at H
  obtain ⟨c11b0, c11b1⟩ := eqF c11
  by_cases c17 : (bt a0 x4_1) = 45
  ·rw [if_pos c17] at H
   obtain ⟨c17b0, c17b1⟩ := eqT c17
   clear c17
   by_cases c19 : x3_1.length < 5864062014805
   rotate_left
   ·rw [if_neg c19] at H
    exact absurd H (by simp)
   rw [if_pos c19] at H
   have LMc19 := Aside0.mk c19
   clear c19
   obtain ⟨y230, hy230⟩ : ∃ y_ : List (S98), y_ = (x3_1 ++ [(⟨(⟨#[]⟩ : ByteArray), true, false⟩ : S98)]) := ⟨_, rfl⟩
   replace H : (newelref05_parts.l0 k1 a0 y230 (wrap64 (x4_1 + 1))) = some r := by first | (rw [hy230]; with_reducible exact H) | (have H2_ := (Option.bind_some _ _).symm.trans H; rw [hy230]; with_reducible exact H2_) | (have H2_ := (Option.bind_some _ _).symm.trans H; with_reducible exact H2_) | with_reducible exact H | (rw [hy230]; exact H) | exact H
   have Ny230 := Aside0.mk hy230
   clear hy230
   have H' := Aside0.mk H
   clear H
   obtain ⟨Ao20, co20, eo20⟩ := Kd.R_slice HO_3.out
   subst eo20
   have p8 : 0 ≤ ((ji5) : Int) := dA
   have q8 : ((ji5) : Int) < ((x3_1.length : Int) : Int) := dA
   obtain ⟨go8, co8, eo8, gb8, gl8, cl8, HG8⟩ := Kd.R_form HO_3.out (by omega)
   (first | cases eo8 | (injection eo8 with ea_ en_ ec_; (first | subst ea_ | (injection ea_ with ea_; subst ea_)); subst ec_; clear en_))
   have GB8 := Aside0.mk gb8
   have GG8 := Aside0.mk HG8
   clear gb8 gl8 HG8
   obtain ⟨ce8, hcl8, hM8, hcc8, hfr8⟩ := Kd.R_elem HO_3.out z98 ((ji5) : Int) p8 q8
   obtain rfl := k98_openM hM8
   have hx8_0 : wr.cell? ⟨go8, ((ji5) : Int).toNat * 3, none⟩ = some (.string ((rd_T98 x3_1 (ji5)).f0)) := hcc8 0 _ rfl
   have hx8_1 : wr.cell? ⟨go8, ((ji5) : Int).toNat * 3 + 1, none⟩ = some (.bool ((rd_T98 x3_1 (ji5)).f1)) := hcc8 1 _ rfl
   have hx8_2 : wr.cell? ⟨go8, ((ji5) : Int).toNat * 3 + 2, none⟩ = some (.bool ((rd_T98 x3_1 (ji5)).f2)) := hcc8 2 _ rfl
   have hf8_0 : wr.frozen? ⟨go8, ((ji5) : Int).toNat * 3, none⟩ = false := hfr8 0
   have hf8_1 : wr.frozen? ⟨go8, ((ji5) : Int).toNat * 3 + 1, none⟩ = false := hfr8 1
   have hf8_2 : wr.frozen? ⟨go8, ((ji5) : Int).toNat * 3 + 2, none⟩ = false := hfr8 2
   clear hcl8 hcc8 hfr8 hM8
   replace p8 := eq_true p8
   replace q8 := eq_true q8
   have p10 : 0 ≤ (x4_1 : Int) := dA
   have q10 : x4_1 < (a0.size : Int) := dA
   have hx10 := bt_at a0 x4_1
   replace p10 := eq_true p10
   replace q10 := eq_true q10
   have p16 : 0 ≤ (x4_1 : Int) := dA
   have q16 : x4_1 < (a0.size : Int) := dA
   have hx16 := bt_at a0 x4_1
   replace p16 := eq_true p16
   replace q16 := eq_true q16
   have p18 : 0 ≤ (x4_1 : Int) := dA
   have q18 : x4_1 < (a0.size : Int) := dA
   have hx18 := bt_at a0 x4_1
   replace p18 := eq_true p18
   replace q18 := eq_true q18
   go_wp2_with (first | ((with_reducible refine gate_builtin (b := .append) (xs := #[.tmp 29, .tmp 35]) rfl ?_); (try (refine gate_guard (by rfl) ?_; dsimp only)); at_builtin; refine Kd.R_append k98 (w0 := w) w.heap.size rfl (.tmp 29) (.tmp 35) 94 98 (.agg #[(.string ⟨#[]⟩), (.bool false), (.bool false)]) 24 rfl Tryd.underlying94 info98 rfl (by decide) (by omega) (.slice (some ⟨go8, 0, none⟩) x3_1.length co20) x3_1 (⟨(⟨#[]⟩ : ByteArray), true, false⟩ : S98) [.string (⟨#[]⟩ : ByteArray), .bool true, .bool false] (fun _ => True) (fun _ => False) rfl rfl ?aP (fun _ hk => hk.elim) ?aF ?aO ?aB ?aS ?aL ?_; (case aP => exact k98_mkM _ _ _ (⟨(⟨#[]⟩ : ByteArray), true, false⟩ : S98)); (case aB => exact bE); (case aF => exact (fun _ _ => trivial)); (case aO => exact (kR HO_3)); (case aS => exact (below_size bE)); (case aL => have := LMc19.out; omega); intro v231 w21 ho hb hg hat; rw [← Ny230.out] at ho; replace HB := Aside0.mk (hb); have HO232 := Aside0.mk (ho); clear HO_3; clear ho hb hg hat))
   go_roundg k1
   case measure => have := HK1.out; omega
   case rel => exact ⟨(y230), (wrap64 (x4_1 + 1)), cA, H', ⟨by have := HK1.out; omega⟩, ⟨kR HO232⟩, ⟨bE⟩⟩
  rw [if_neg c17] at H
  obtain ⟨c17b0, c17b1⟩ := eqF c17
  by_cases c22 : ((rd_T98 x3_1 (ji5)).f0).toList = ([] : List UInt8)
  ·rw [if_pos c22] at H
   obtain ⟨c22b0, c22b1⟩ := eqT c22
   (try (have c22b2 : (((rd_T98 x3_1 (ji5)).f0).toList).isEmpty = true := by simpa using c22))
   clear c22
   have c24b0 := eq_true (dA : 0 ≤ x4_1)
   by_cases c25 : x4_1 ≤ (wrap64 (x4_1 + 1))
   rotate_left
   ·rw [if_neg c25] at H
    exact absurd H (by simp)
   rw [if_pos c25] at H
   have c25b0 := eq_true c25
   have c25b1 := dT c25
   by_cases c26 : (wrap64 (x4_1 + 1)) ≤ (a0.size : Int)
   rotate_left
   ·rw [if_neg c26] at H
    exact absurd H (by simp)
   rw [if_pos c26] at H
   have c26b0 := eq_true c26
   have c26b1 := dT c26
   by_cases c27 : ((rd_T98 x3_1 (ji5)).f0).size + (a0.extract (x4_1 : Int).toNat ((wrap64 (x4_1 + 1)) : Int).toNat).size ≤ 9223372036854775807
   rotate_left
   ·rw [if_neg c27] at H
    exact absurd H (by simp)
   rw [if_pos c27] at H
   have c27b0 := eq_true c27
   have c27b1 := dT c27
   try have c27b2 : (9223372036854775807 < ((rd_T98 x3_1 (ji5)).f0).size + (a0.extract (x4_1 : Int).toNat ((wrap64 (x4_1 + 1)) : Int).toNat).size) = False := eq_false (Nat.not_lt.2 c27)
   try have c27q : (9223372036854775807 < ((rd_T98 x3_1 (ji5)).f0).size + (((wrap64 (x4_1 + 1)) : Int).toNat - (x4_1 : Int).toNat)) = False := eq_false (by have z_ := c27; have y_ : ((wrap64 (x4_1 + 1)) : Int) ≤ ((a0).size : Int) := of_decide_eq_true (by assumption); simp only [ByteArray.size_extract] at z_; omega)
   obtain ⟨y235, hy235⟩ : ∃ y_ : List (S98), y_ = (x3_1.set ((ji5) : Int).toNat (⟨((rd_T98 x3_1 (ji5)).f0) ++ (a0.extract (x4_1 : Int).toNat ((wrap64 (x4_1 + 1)) : Int).toNat), (rd_T98 x3_1 (ji5)).f1, (rd_T98 x3_1 (ji5)).f2⟩ : S98)) := ⟨_, rfl⟩
   replace H : (newelref05_parts.l0 k1 a0 y235 (wrap64 (x4_1 + 1))) = some r := by first | (rw [hy235]; with_reducible exact H) | (have H2_ := (Option.bind_some _ _).symm.trans H; rw [hy235]; with_reducible exact H2_) | (have H2_ := (Option.bind_some _ _).symm.trans H; with_reducible exact H2_) | with_reducible exact H | (rw [hy235]; exact H) | exact H
   have Ny235 := Aside0.mk hy235
   clear hy235
   have H' := Aside0.mk H
   clear H
   obtain ⟨Ao29, co29, eo29⟩ := Kd.R_slice HO_3.out
   subst eo29
   have p8 : 0 ≤ ((ji5) : Int) := dA
   have q8 : ((ji5) : Int) < ((x3_1.length : Int) : Int) := dA
   obtain ⟨go8, co8, eo8, gb8, gl8, cl8, HG8⟩ := Kd.R_form HO_3.out (by omega)
   (first | cases eo8 | (injection eo8 with ea_ en_ ec_; (first | subst ea_ | (injection ea_ with ea_; subst ea_)); subst ec_; clear en_))
   have GB8 := Aside0.mk gb8
   have GG8 := Aside0.mk HG8
   clear gb8 gl8 HG8
   obtain ⟨ce8, hcl8, hM8, hcc8, hfr8⟩ := Kd.R_elem HO_3.out z98 ((ji5) : Int) p8 q8
   obtain rfl := k98_openM hM8
   have hx8_0 : wr.cell? ⟨go8, ((ji5) : Int).toNat * 3, none⟩ = some (.string ((rd_T98 x3_1 (ji5)).f0)) := hcc8 0 _ rfl
   have hx8_1 : wr.cell? ⟨go8, ((ji5) : Int).toNat * 3 + 1, none⟩ = some (.bool ((rd_T98 x3_1 (ji5)).f1)) := hcc8 1 _ rfl
   have hx8_2 : wr.cell? ⟨go8, ((ji5) : Int).toNat * 3 + 2, none⟩ = some (.bool ((rd_T98 x3_1 (ji5)).f2)) := hcc8 2 _ rfl
   have hf8_0 : wr.frozen? ⟨go8, ((ji5) : Int).toNat * 3, none⟩ = false := hfr8 0
   have hf8_1 : wr.frozen? ⟨go8, ((ji5) : Int).toNat * 3 + 1, none⟩ = false := hfr8 1
   have hf8_2 : wr.frozen? ⟨go8, ((ji5) : Int).toNat * 3 + 2, none⟩ = false := hfr8 2
   clear hcl8 hcc8 hfr8 hM8
   replace p8 := eq_true p8
   replace q8 := eq_true q8
   have p10 : 0 ≤ (x4_1 : Int) := dA
   have q10 : x4_1 < (a0.size : Int) := dA
   have hx10 := bt_at a0 x4_1
   replace p10 := eq_true p10
   replace q10 := eq_true q10
   have p16 : 0 ≤ (x4_1 : Int) := dA
   have q16 : x4_1 < (a0.size : Int) := dA
   have hx16 := bt_at a0 x4_1
   replace p16 := eq_true p16
   replace q16 := eq_true q16
   try go_wp2
   replace HO_3 := Aside0.mk (Kd.R_drew HO_3.out)
   replace HB := Aside0.mk (below_drew1 HB.out)
   have p233 : 0 ≤ ((ji5) : Int) := dA
   have q233 : (ji5) < (x3_1.length : Int) := dA
   obtain ⟨ad233, e233, hx233_0, hx233_1, hx233_2⟩ := at_T98 (Kd.R_reads' HO_3.out).2.2 (ji5) p233 q233
   obtain rfl : (⟨go8, 0, none⟩ : Addr) = ad233 := (by injection e233)
   (first | simp only [add_plain] at hx233_0 | simp only [add_at] at hx233_0 | simp only [Addr.add, Nat.zero_add] at hx233_0 | skip)
   (first | simp only [add_plain] at hx233_1 | simp only [add_at] at hx233_1 | simp only [Addr.add, Nat.zero_add] at hx233_1 | skip)
   (first | simp only [add_plain] at hx233_2 | simp only [add_at] at hx233_2 | simp only [Addr.add, Nat.zero_add] at hx233_2 | skip)
   replace p233 := eq_true p233
   replace q233 := eq_true q233
   refine start_ (n := 24) (S := fun w' => w'.cell? ⟨go8, ((ji5)).toNat * 3, none⟩ = some (.string ((rd_T98 x3_1 (ji5)).f0)) ∧ w'.cell? ⟨go8, ((ji5)).toNat * 3 + 1, none⟩ = some (.bool ((rd_T98 x3_1 (ji5)).f1)) ∧ w'.cell? ⟨go8, ((ji5)).toNat * 3 + 2, none⟩ = some (.bool ((rd_T98 x3_1 (ji5)).f2))) (ds := []) #[false, false, false, false, false, false, false, false, false, false, false, false, false, false, false, false, false, false, false, false, false, false, false, false] (by kernel_rfl) rfl rfl ⟨hx233_0, hx233_1, hx233_2⟩ (fun hHeld => ?_); refine with_tabW newelref05_parts.tab8 newelref05_parts.bits8 (fun HT_ HW_ => ?_)
   generalize wr.drew = w30 at HO_3 HB hx233_0 hx233_1 hx233_2 hHeld ⊢
   refine pz 0 (some 37) HT_ ?_
   refine pz 1 (some 38) HT_ ?_
   refine pz 2 (some 39) HT_ ?_
   refine tm 3 (some 40) HT_ HW_ hHeld ?_
   refine pz 4 (some 41) HT_ ?_
   refine pz 5 (some 42) HT_ ?_
   refine pu 6 (some 43) HT_ ?_
   refine pu 7 (some 44) HT_ ?_
   refine pu 8 (some 45) HT_ ?_
   refine pu 9 (some 46) HT_ ?_
   refine pu 10 (some 47) HT_ ?_
   refine pu 11 (some 48) HT_ ?_
   refine pu 12 (some 49) HT_ ?_
   refine pu 13 (some 50) HT_ ?_
   refine pu 14 (some 51) HT_ ?_
   refine pu 15 (some 52) HT_ ?_
   refine pu 16 (some 53) HT_ ?_
   refine pu 17 (some 54) HT_ ?_
   refine pu 18 (some 55) HT_ ?_
   refine pu 19 (some 56) HT_ ?_
   refine pu 20 (some 57) HT_ ?_
   refine pu 21 (some 58) HT_ ?_
   refine pu 22 (some 59) HT_ ?_
   refine pz 23 (some 60) HT_ ?_
   refine done_ (done_of HT_.out (by kernel_rfl)) ?_
   have p23 : 0 ≤ ((ji5) : Int) := dA
   have q23 : ((ji5) : Int) < ((x3_1.length : Int) : Int) := dA
   obtain ⟨ce23, hcl23, hM23, hcc23, hfr23⟩ := Kd.R_elem HO_3.out z98 ((ji5) : Int) p23 q23
   obtain rfl := k98_openM hM23
   have hx23_0 : w30.cell? ⟨go8, ((ji5) : Int).toNat * 3, none⟩ = some (.string ((rd_T98 x3_1 (ji5)).f0)) := hcc23 0 _ rfl
   have hx23_1 : w30.cell? ⟨go8, ((ji5) : Int).toNat * 3 + 1, none⟩ = some (.bool ((rd_T98 x3_1 (ji5)).f1)) := hcc23 1 _ rfl
   have hx23_2 : w30.cell? ⟨go8, ((ji5) : Int).toNat * 3 + 2, none⟩ = some (.bool ((rd_T98 x3_1 (ji5)).f2)) := hcc23 2 _ rfl
   have hf23_0 : w30.frozen? ⟨go8, ((ji5) : Int).toNat * 3, none⟩ = false := hfr23 0
   have hf23_1 : w30.frozen? ⟨go8, ((ji5) : Int).toNat * 3 + 1, none⟩ = false := hfr23 1
   have hf23_2 : w30.frozen? ⟨go8, ((ji5) : Int).toNat * 3 + 2, none⟩ = false := hfr23 2
   clear hcl23 hcc23 hfr23 hM23
   replace p23 := eq_true p23
   replace q23 := eq_true q23
   try go_wp2
   replace HO_3 := Aside0.mk (Kd.R_drew HO_3.out)
   replace HB := Aside0.mk (below_drew1 HB.out)
   have p234 : 0 ≤ ((ji5) : Int) := dA
   have q234 : (ji5) < (x3_1.length : Int) := dA
   obtain ⟨ad234, e234, hx234_0, hx234_1, hx234_2⟩ := at_T98 (Kd.R_reads' HO_3.out).2.2 (ji5) p234 q234
   obtain rfl : (⟨go8, 0, none⟩ : Addr) = ad234 := (by injection e234)
   (first | simp only [add_plain] at hx234_0 | simp only [add_at] at hx234_0 | simp only [Addr.add, Nat.zero_add] at hx234_0 | skip)
   (first | simp only [add_plain] at hx234_1 | simp only [add_at] at hx234_1 | simp only [Addr.add, Nat.zero_add] at hx234_1 | skip)
   (first | simp only [add_plain] at hx234_2 | simp only [add_at] at hx234_2 | simp only [Addr.add, Nat.zero_add] at hx234_2 | skip)
   replace p234 := eq_true p234
   replace q234 := eq_true q234
   have p28 : 0 ≤ ((ji5) : Int) := dA
   have q28 : ((ji5) : Int) < ((x3_1.length : Int) : Int) := dA
   obtain ⟨ce28, hcl28, hM28, hcc28, hfr28⟩ := Kd.R_elem HO_3.out z98 ((ji5) : Int) p28 q28
   obtain rfl := k98_openM hM28
   have hx28_0 : World.cell? _ ⟨go8, ((ji5) : Int).toNat * 3, none⟩ = some (.string ((rd_T98 x3_1 (ji5)).f0)) := hcc28 0 _ rfl
   have hx28_1 : World.cell? _ ⟨go8, ((ji5) : Int).toNat * 3 + 1, none⟩ = some (.bool ((rd_T98 x3_1 (ji5)).f1)) := hcc28 1 _ rfl
   have hx28_2 : World.cell? _ ⟨go8, ((ji5) : Int).toNat * 3 + 2, none⟩ = some (.bool ((rd_T98 x3_1 (ji5)).f2)) := hcc28 2 _ rfl
   have hf28_0 : World.frozen? _ ⟨go8, ((ji5) : Int).toNat * 3, none⟩ = false := hfr28 0
   have hf28_1 : World.frozen? _ ⟨go8, ((ji5) : Int).toNat * 3 + 1, none⟩ = false := hfr28 1
   have hf28_2 : World.frozen? _ ⟨go8, ((ji5) : Int).toNat * 3 + 2, none⟩ = false := hfr28 2
   clear hcl28 hcc28 hfr28 hM28
   replace p28 := eq_true p28
   replace q28 := eq_true q28
   obtain ⟨ce32, hcl32, hM32, hcc32, hfr32⟩ := Kd.R_elem HO_3.out z98 ((ji5) : Int) (dA) (by have h_ : ((ji5) : Int) < ((x3_1.length : Int) : Int) := dA; first | exact h_ | (have e_ := (Kd.R_reads' HO_3.out).1; omega) | simpa using h_)
   obtain rfl := k98_openM hM32
   have HP32 := (Kd.R_seg HO_3.out ((ji5) : Int) (dA) (by have h_ : ((ji5) : Int) < ((x3_1.length : Int) : Int) := dA; first | exact h_ | (have e_ := (Kd.R_reads' HO_3.out).1; omega) | simpa using h_) (seg := [.string (((rd_T98 x3_1 (ji5)).f0) ++ (a0.extract (x4_1 : Int).toNat ((wrap64 (x4_1 + 1)) : Int).toNat))]) (j := 0) hcl32 hcc32 (show 1 ≤ 3 from by decide) (x' := (⟨((rd_T98 x3_1 (ji5)).f0) ++ (a0.extract (x4_1 : Int).toNat ((wrap64 (x4_1 + 1)) : Int).toNat), (rd_T98 x3_1 (ji5)).f1, (rd_T98 x3_1 (ji5)).f2⟩ : S98)) (k98_mkM _ _ _ (⟨((rd_T98 x3_1 (ji5)).f0) ++ (a0.extract (x4_1 : Int).toNat ((wrap64 (x4_1 + 1)) : Int).toNat), (rd_T98 x3_1 (ji5)).f1, (rd_T98 x3_1 (ji5)).f2⟩ : S98) ) (fun _ hk => hk)).1
   rw [← Ny235.out] at HP32
   have HQ32 := Aside0.mk HP32
   clear hcl32 hcc32 hfr32 hM32 HP32
   refine start_ (n := 14) (S := fun w' => w'.cell? ⟨go8, ((ji5)).toNat * 3, none⟩ = some (.string ((rd_T98 x3_1 (ji5)).f0)) ∧ w'.cell? ⟨go8, ((ji5)).toNat * 3 + 1, none⟩ = some (.bool ((rd_T98 x3_1 (ji5)).f1)) ∧ w'.cell? ⟨go8, ((ji5)).toNat * 3 + 2, none⟩ = some (.bool ((rd_T98 x3_1 (ji5)).f2))) (ds := [13]) #[false, false, false, false, false, false, false, false, false, false, false, false, false, false] (by kernel_rfl) rfl rfl ⟨hx234_0, hx234_1, hx234_2⟩ (fun hHeld => ?_); refine with_tabW newelref05_parts.tab12 newelref05_parts.bits12 (fun HT_ HW_ => ?_)
   generalize w30.drew = w31 at HO_3 HB HQ32 hf28_0 hf28_1 hf28_2 hx234_0 hx234_1 hx234_2 hx28_0 hx28_1 hx28_2 hHeld ⊢
   refine pz 0 (some 77) HT_ ?_
   refine pz 1 (some 78) HT_ ?_
   refine pz 2 (some 79) HT_ ?_
   refine pz 3 (some 80) HT_ ?_
   refine pz 5 (some 82) HT_ ?_
   refine pz 6 (some 83) HT_ ?_
   refine pz 7 (some 84) HT_ ?_
   refine pz 8 (some 85) HT_ ?_
   refine pz 9 (some 86) HT_ ?_
   refine tm 4 (some 81) HT_ HW_ hHeld ?_
   refine pz 10 (some 87) HT_ ?_
   refine pz 11 (some 88) HT_ ?_
   refine pz 12 (some 89) HT_ ?_
   refine last_ (i := 13) (N := none) #[true, true, true, true, true, true, true, true, true, true, true, true, true, true] rfl rfl (one_of HT_.out (by kernel_rfl)) (by decide) (fun K hK => ?_)
   refine skip_ (w1 := ?_) (by rfl) rfl ?_ ?_
   rotate_left
   ·go_simp
    rfl
   refine hK.out _ _ ?_
   clear hK K
   refine done_ (done_of HT_.out (by kernel_rfl)) ?_
   try go_wp2
   go_roundg k1
   case measure => have := HK1.out; omega
   case rel => exact ⟨(y235), (wrap64 (x4_1 + 1)), cA, H', ⟨by have := HK1.out; omega⟩, ⟨by (with_reducible repeat (first | apply Kd.R_alloc | apply Kd.R_drewN | apply Kd.R_drew)); exact HQ32.out⟩, ⟨by repeat (first | (with_reducible first | exact HB.out | apply below_alloc | apply pw_below_drewN | apply below_drew1 | refine below_set ?_ GB8.out) | exact HB.out)⟩⟩
  rw [if_neg c22] at H
  obtain ⟨c22b0, c22b1⟩ := eqF c22
  (try (have c22b2 : (((rd_T98 x3_1 (ji5)).f0).toList).isEmpty = false := by simpa using c22))
  obtain ⟨ji33, hji33⟩ : ∃ j_ : Int, (wrap64 ((((rd_T98 x3_1 (ji5)).f0).size : Int) - 1)) = j_ := ⟨_, rfl⟩
  rw [hji33] at H
  have hji33w : (IntKind.i64.wrap ((((rd_T98 x3_1 (ji5)).f0).size : Int) - 1)) = ji33 := (i64_w _).trans hji33
  by_cases c34 : 0 ≤ (ji33)
  rotate_left
  ·rw [if_neg c34] at H
   exact absurd H (by simp)
  rw [if_pos c34] at H
  have c34b0 := dT c34
  clear c34
  by_cases c35 : (ji33) < (((rd_T98 x3_1 (ji5)).f0).size : Int)
  rotate_left
  ·rw [if_neg c35] at H
   exact absurd H (by simp)
  rw [if_pos c35] at H
  have c35b0 := dT c35
  clear c35
  replace H := bi H
  obtain ⟨t238, A370, H⟩ := H
  try dsimp only at H
  have A37 := Aside0.mk A370
  clear A370
  replace H := bi H
  obtain ⟨t239, A390, H⟩ := H
  try dsimp only at H
  have A39 := Aside0.mk A390
  clear A390
  by_cases c40 : (t238 != t239) = true
  rotate_left
  ·rw [if_neg c40] at H
   have c40b0 : (t238 != t239) = false := by simpa using c40
   (try (have c40b1 : decide (t238 = t239) = true := by simpa using c40))
   (try (have c40b2 : (t238 == t239) = true := by simpa using c40))
   clear c40
   have c63b0 := eq_true (dA : 0 ≤ x4_1)
   by_cases c64 : x4_1 ≤ (wrap64 (x4_1 + 1))
   rotate_left
   ·rw [if_neg c64] at H
    exact absurd H (by simp)
   rw [if_pos c64] at H
   have c64b0 := eq_true c64
   have c64b1 := dT c64
   by_cases c65 : (wrap64 (x4_1 + 1)) ≤ (a0.size : Int)
   rotate_left
   ·rw [if_neg c65] at H
    exact absurd H (by simp)
   rw [if_pos c65] at H
   have c65b0 := eq_true c65
   have c65b1 := dT c65
   by_cases c66 : ((rd_T98 x3_1 (ji5)).f0).size + (a0.extract (x4_1 : Int).toNat ((wrap64 (x4_1 + 1)) : Int).toNat).size ≤ 9223372036854775807
   rotate_left
   ·rw [if_neg c66] at H
    exact absurd H (by simp)
   rw [if_pos c66] at H
   have c66b0 := eq_true c66
   have c66b1 := dT c66
   try have c66b2 : (9223372036854775807 < ((rd_T98 x3_1 (ji5)).f0).size + (a0.extract (x4_1 : Int).toNat ((wrap64 (x4_1 + 1)) : Int).toNat).size) = False := eq_false (Nat.not_lt.2 c66)
   try have c66q : (9223372036854775807 < ((rd_T98 x3_1 (ji5)).f0).size + (((wrap64 (x4_1 + 1)) : Int).toNat - (x4_1 : Int).toNat)) = False := eq_false (by have z_ := c66; have y_ : ((wrap64 (x4_1 + 1)) : Int) ≤ ((a0).size : Int) := of_decide_eq_true (by assumption); simp only [ByteArray.size_extract] at z_; omega)
   obtain ⟨y248, hy248⟩ : ∃ y_ : List (S98), y_ = (x3_1.set ((ji5) : Int).toNat (⟨((rd_T98 x3_1 (ji5)).f0) ++ (a0.extract (x4_1 : Int).toNat ((wrap64 (x4_1 + 1)) : Int).toNat), (rd_T98 x3_1 (ji5)).f1, (rd_T98 x3_1 (ji5)).f2⟩ : S98)) := ⟨_, rfl⟩
   replace H : (newelref05_parts.l0 k1 a0 y248 (wrap64 (x4_1 + 1))) = some r := by first | (rw [hy248]; with_reducible exact H) | (have H2_ := (Option.bind_some _ _).symm.trans H; rw [hy248]; with_reducible exact H2_) | (have H2_ := (Option.bind_some _ _).symm.trans H; with_reducible exact H2_) | with_reducible exact H | (rw [hy248]; exact H) | exact H
   have Ny248 := Aside0.mk hy248
   clear hy248
   have H' := Aside0.mk H
   clear H
   obtain ⟨Ao68, co68, eo68⟩ := Kd.R_slice HO_3.out
   subst eo68
   have p8 : 0 ≤ ((ji5) : Int) := dA
   have q8 : ((ji5) : Int) < ((x3_1.length : Int) : Int) := dA
   obtain ⟨go8, co8, eo8, gb8, gl8, cl8, HG8⟩ := Kd.R_form HO_3.out (by omega)
   (first | cases eo8 | (injection eo8 with ea_ en_ ec_; (first | subst ea_ | (injection ea_ with ea_; subst ea_)); subst ec_; clear en_))
   have GB8 := Aside0.mk gb8
   have GG8 := Aside0.mk HG8
   clear gb8 gl8 HG8
   obtain ⟨ce8, hcl8, hM8, hcc8, hfr8⟩ := Kd.R_elem HO_3.out z98 ((ji5) : Int) p8 q8
   obtain rfl := k98_openM hM8
   have hx8_0 : wr.cell? ⟨go8, ((ji5) : Int).toNat * 3, none⟩ = some (.string ((rd_T98 x3_1 (ji5)).f0)) := hcc8 0 _ rfl
   have hx8_1 : wr.cell? ⟨go8, ((ji5) : Int).toNat * 3 + 1, none⟩ = some (.bool ((rd_T98 x3_1 (ji5)).f1)) := hcc8 1 _ rfl
   have hx8_2 : wr.cell? ⟨go8, ((ji5) : Int).toNat * 3 + 2, none⟩ = some (.bool ((rd_T98 x3_1 (ji5)).f2)) := hcc8 2 _ rfl
   have hf8_0 : wr.frozen? ⟨go8, ((ji5) : Int).toNat * 3, none⟩ = false := hfr8 0
   have hf8_1 : wr.frozen? ⟨go8, ((ji5) : Int).toNat * 3 + 1, none⟩ = false := hfr8 1
   have hf8_2 : wr.frozen? ⟨go8, ((ji5) : Int).toNat * 3 + 2, none⟩ = false := hfr8 2
   clear hcl8 hcc8 hfr8 hM8
   replace p8 := eq_true p8
   replace q8 := eq_true q8
   have p10 : 0 ≤ (x4_1 : Int) := dA
   have q10 : x4_1 < (a0.size : Int) := dA
   have hx10 := bt_at a0 x4_1
   replace p10 := eq_true p10
   replace q10 := eq_true q10
   have p16 : 0 ≤ (x4_1 : Int) := dA
   have q16 : x4_1 < (a0.size : Int) := dA
   have hx16 := bt_at a0 x4_1
   replace p16 := eq_true p16
   replace q16 := eq_true q16
   try go_wp2
   replace HO_3 := Aside0.mk (Kd.R_drew HO_3.out)
   replace HB := Aside0.mk (below_drew1 HB.out)
   have p233 : 0 ≤ ((ji5) : Int) := dA
   have q233 : (ji5) < (x3_1.length : Int) := dA
   obtain ⟨ad233, e233, hx233_0, hx233_1, hx233_2⟩ := at_T98 (Kd.R_reads' HO_3.out).2.2 (ji5) p233 q233
   obtain rfl : (⟨go8, 0, none⟩ : Addr) = ad233 := (by injection e233)
   (first | simp only [add_plain] at hx233_0 | simp only [add_at] at hx233_0 | simp only [Addr.add, Nat.zero_add] at hx233_0 | skip)
   (first | simp only [add_plain] at hx233_1 | simp only [add_at] at hx233_1 | simp only [Addr.add, Nat.zero_add] at hx233_1 | skip)
   (first | simp only [add_plain] at hx233_2 | simp only [add_at] at hx233_2 | simp only [Addr.add, Nat.zero_add] at hx233_2 | skip)
   replace p233 := eq_true p233
   replace q233 := eq_true q233
   have p236 : 0 ≤ ((ji5) : Int) := dA
   have q236 : (ji5) < (x3_1.length : Int) := dA
   obtain ⟨ad236, e236, hx236_0, hx236_1, hx236_2⟩ := at_T98 (Kd.R_reads' HO_3.out).2.2 (ji5) p236 q236
   obtain rfl : (⟨go8, 0, none⟩ : Addr) = ad236 := (by injection e236)
   (first | simp only [add_plain] at hx236_0 | simp only [add_at] at hx236_0 | simp only [Addr.add, Nat.zero_add] at hx236_0 | skip)
   (first | simp only [add_plain] at hx236_1 | simp only [add_at] at hx236_1 | simp only [Addr.add, Nat.zero_add] at hx236_1 | skip)
   (first | simp only [add_plain] at hx236_2 | simp only [add_at] at hx236_2 | simp only [Addr.add, Nat.zero_add] at hx236_2 | skip)
   replace p236 := eq_true p236
   replace q236 := eq_true q236
   have p237 : 0 ≤ ((ji5) : Int) := dA
   have q237 : (ji5) < (x3_1.length : Int) := dA
   obtain ⟨ad237, e237, hx237_0, hx237_1, hx237_2⟩ := at_T98 (Kd.R_reads' HO_3.out).2.2 (ji5) p237 q237
   obtain rfl : (⟨go8, 0, none⟩ : Addr) = ad237 := (by injection e237)
   (first | simp only [add_plain] at hx237_0 | simp only [add_at] at hx237_0 | simp only [Addr.add, Nat.zero_add] at hx237_0 | skip)
   (first | simp only [add_plain] at hx237_1 | simp only [add_at] at hx237_1 | simp only [Addr.add, Nat.zero_add] at hx237_1 | skip)
   (first | simp only [add_plain] at hx237_2 | simp only [add_at] at hx237_2 | simp only [Addr.add, Nat.zero_add] at hx237_2 | skip)
   replace p237 := eq_true p237
   replace q237 := eq_true q237
   have p36 : 0 ≤ ((ji33) : Int) := dA
   have q36 : (ji33) < (((rd_T98 x3_1 (ji5)).f0).size : Int) := dA
   have hx36 := bt_at ((rd_T98 x3_1 (ji5)).f0) (ji33)
   replace p36 := eq_true p36
   replace q36 := eq_true q36
   have p38 : 0 ≤ (x4_1 : Int) := dA
   have q38 : x4_1 < (a0.size : Int) := dA
   have hx38 := bt_at a0 x4_1
   replace p38 := eq_true p38
   replace q38 := eq_true q38
   refine start_ (n := 24) (S := fun w' => w'.cell? ⟨go8, ((ji5)).toNat * 3, none⟩ = some (.string ((rd_T98 x3_1 (ji5)).f0)) ∧ w'.cell? ⟨go8, ((ji5)).toNat * 3 + 1, none⟩ = some (.bool ((rd_T98 x3_1 (ji5)).f1)) ∧ w'.cell? ⟨go8, ((ji5)).toNat * 3 + 2, none⟩ = some (.bool ((rd_T98 x3_1 (ji5)).f2)) ∧ w'.cell? ⟨go8, ((ji5)).toNat * 3, none⟩ = some (.string ((rd_T98 x3_1 (ji5)).f0)) ∧ w'.cell? ⟨go8, ((ji5)).toNat * 3 + 1, none⟩ = some (.bool ((rd_T98 x3_1 (ji5)).f1)) ∧ w'.cell? ⟨go8, ((ji5)).toNat * 3 + 2, none⟩ = some (.bool ((rd_T98 x3_1 (ji5)).f2)) ∧ w'.cell? ⟨go8, ((ji5)).toNat * 3, none⟩ = some (.string ((rd_T98 x3_1 (ji5)).f0)) ∧ w'.cell? ⟨go8, ((ji5)).toNat * 3 + 1, none⟩ = some (.bool ((rd_T98 x3_1 (ji5)).f1)) ∧ w'.cell? ⟨go8, ((ji5)).toNat * 3 + 2, none⟩ = some (.bool ((rd_T98 x3_1 (ji5)).f2))) (ds := []) #[false, false, false, false, false, false, false, false, false, false, false, false, false, false, false, false, false, false, false, false, false, false, false, false] (by kernel_rfl) rfl rfl ⟨hx233_0, hx233_1, hx233_2, hx236_0, hx236_1, hx236_2, hx237_0, hx237_1, hx237_2⟩ (fun hHeld => ?_); refine with_tabW newelref05_parts.tab8 newelref05_parts.bits8 (fun HT_ HW_ => ?_)
   generalize wr.drew = w69 at HO_3 HB hx233_0 hx233_1 hx233_2 hx236_0 hx236_1 hx236_2 hx237_0 hx237_1 hx237_2 hHeld ⊢
   refine pz 0 (some 37) HT_ ?_
   refine pz 1 (some 38) HT_ ?_
   refine pz 2 (some 39) HT_ ?_
   refine tm 3 (some 40) HT_ HW_ hHeld ?_
   refine pz 4 (some 41) HT_ ?_
   refine pz 5 (some 42) HT_ ?_
   refine pz 6 (some 43) HT_ ?_
   refine pz 7 (some 44) HT_ ?_
   refine pz 8 (some 45) HT_ ?_
   refine pz 10 (some 47) HT_ ?_
   refine pz 11 (some 48) HT_ ?_
   refine pz 12 (some 49) HT_ ?_
   refine pz 18 (some 55) HT_ ?_
   refine pz 19 (some 56) HT_ ?_
   refine tm 9 (some 46) HT_ HW_ hHeld ?_
   refine tm 13 (some 50) HT_ HW_ hHeld ?_
   refine pz 14 (some 51) HT_ ?_
   refine pz 15 (some 52) HT_ ?_
   refine tm 16 (some 53) HT_ HW_ hHeld ?_
   refine tm 20 (some 57) HT_ HW_ hHeld ?_
   refine on 17 (some 54) HT_ (fun K hK => ?_)
   refine goes_ Tryd.func78 (by kernel_rfl) rfl #[.int .u8 (bt ((rd_T98 x3_1 (ji5)).f0) (ji33))] (by rfl) rfl rfl (by (try simp only [List.map_toArray, List.map_cons, List.map_nil]); first | done | (simp only [hji33, hji5]; rfl) | rfl | (simp only [List.length_drop, List.length_take]; rfl)) ?_
   with_reducible refine (newelref01_Digit.calls (bt ((rd_T98 x3_1 (ji5)).f0) (ji33)) t238 _ (gS HG) A37.out).mono ?_
   rintro e w' ⟨rfl, ⟨nd, rfl⟩⟩
   refine ⟨_, rfl, ?_⟩
   refine hK.out _ _ ⟨hHeld.1, hHeld.2.1, hHeld.2.2.1, hHeld.2.2.2.1, hHeld.2.2.2.2.1, hHeld.2.2.2.2.2.1, hHeld.2.2.2.2.2.2.1, hHeld.2.2.2.2.2.2.2.1, hHeld.2.2.2.2.2.2.2.2⟩ (fun hHeld => ?_)
   clear hK K
   refine nz (some 54) ?_
   refine on 21 (some 58) HT_ (fun K hK => ?_)
   refine goes_ Tryd.func78 (by kernel_rfl) rfl #[.int .u8 (bt a0 x4_1)] (by rfl) rfl rfl mA ?_
   with_reducible refine (newelref01_Digit.calls (bt a0 x4_1) t239 _ (gS HG) A39.out).mono ?_
   rintro e w' ⟨rfl, ⟨nd, rfl⟩⟩
   refine ⟨_, rfl, ?_⟩
   refine hK.out _ _ ⟨hHeld.1, hHeld.2.1, hHeld.2.2.1, hHeld.2.2.2.1, hHeld.2.2.2.2.1, hHeld.2.2.2.2.2.1, hHeld.2.2.2.2.2.2.1, hHeld.2.2.2.2.2.2.2.1, hHeld.2.2.2.2.2.2.2.2⟩ (fun hHeld => ?_)
   clear hK K
   refine nz (some 58) ?_
   refine pz 22 (some 59) HT_ ?_
   refine pz 23 (some 60) HT_ ?_
   refine done_ (done_of HT_.out (by kernel_rfl)) ?_
   have p62 : 0 ≤ ((ji5) : Int) := dA
   have q62 : ((ji5) : Int) < ((x3_1.length : Int) : Int) := dA
   obtain ⟨ce62, hcl62, hM62, hcc62, hfr62⟩ := Kd.R_elem HO_3.out z98 ((ji5) : Int) p62 q62
   obtain rfl := k98_openM hM62
   have hx62_0 : w69.cell? ⟨go8, ((ji5) : Int).toNat * 3, none⟩ = some (.string ((rd_T98 x3_1 (ji5)).f0)) := hcc62 0 _ rfl
   have hx62_1 : w69.cell? ⟨go8, ((ji5) : Int).toNat * 3 + 1, none⟩ = some (.bool ((rd_T98 x3_1 (ji5)).f1)) := hcc62 1 _ rfl
   have hx62_2 : w69.cell? ⟨go8, ((ji5) : Int).toNat * 3 + 2, none⟩ = some (.bool ((rd_T98 x3_1 (ji5)).f2)) := hcc62 2 _ rfl
   have hf62_0 : w69.frozen? ⟨go8, ((ji5) : Int).toNat * 3, none⟩ = false := hfr62 0
   have hf62_1 : w69.frozen? ⟨go8, ((ji5) : Int).toNat * 3 + 1, none⟩ = false := hfr62 1
   have hf62_2 : w69.frozen? ⟨go8, ((ji5) : Int).toNat * 3 + 2, none⟩ = false := hfr62 2
   clear hcl62 hcc62 hfr62 hM62
   replace p62 := eq_true p62
   replace q62 := eq_true q62
   try go_wp2
   (try ((try simp only [World.drewN_drewN]); (first | generalize hq_ : World.drewN w69 _ = w69 | (rw [drewN_self w69]; generalize hq_ : World.drewN w69 _ = w69)); have n0_ : Aside0 (Kd.R k98 98 w69 w.heap.size (fun _ => True) (.slice (some ⟨go8, 0, none⟩) x3_1.length co68) x3_1) := ⟨by rw [← hq_]; exact (kR HO_3)⟩; have n1_ : Aside0 (Below w.heap.size w w69) := ⟨by rw [← hq_]; exact bE⟩; clear HO_3 HB hq_; have HO_3 := n0_; have HB := n1_; clear n0_ n1_))
   replace HO_3 := Aside0.mk (Kd.R_drew HO_3.out)
   replace HB := Aside0.mk (below_drew1 HB.out)
   have p247 : 0 ≤ ((ji5) : Int) := dA
   have q247 : (ji5) < (x3_1.length : Int) := dA
   obtain ⟨ad247, e247, hx247_0, hx247_1, hx247_2⟩ := at_T98 (Kd.R_reads' HO_3.out).2.2 (ji5) p247 q247
   obtain rfl : (⟨go8, 0, none⟩ : Addr) = ad247 := (by injection e247)
   (first | simp only [add_plain] at hx247_0 | simp only [add_at] at hx247_0 | simp only [Addr.add, Nat.zero_add] at hx247_0 | skip)
   (first | simp only [add_plain] at hx247_1 | simp only [add_at] at hx247_1 | simp only [Addr.add, Nat.zero_add] at hx247_1 | skip)
   (first | simp only [add_plain] at hx247_2 | simp only [add_at] at hx247_2 | simp only [Addr.add, Nat.zero_add] at hx247_2 | skip)
   replace p247 := eq_true p247
   replace q247 := eq_true q247
   have p67 : 0 ≤ ((ji5) : Int) := dA
   have q67 : ((ji5) : Int) < ((x3_1.length : Int) : Int) := dA
   obtain ⟨ce67, hcl67, hM67, hcc67, hfr67⟩ := Kd.R_elem HO_3.out z98 ((ji5) : Int) p67 q67
   obtain rfl := k98_openM hM67
   have hx67_0 : World.cell? _ ⟨go8, ((ji5) : Int).toNat * 3, none⟩ = some (.string ((rd_T98 x3_1 (ji5)).f0)) := hcc67 0 _ rfl
   have hx67_1 : World.cell? _ ⟨go8, ((ji5) : Int).toNat * 3 + 1, none⟩ = some (.bool ((rd_T98 x3_1 (ji5)).f1)) := hcc67 1 _ rfl
   have hx67_2 : World.cell? _ ⟨go8, ((ji5) : Int).toNat * 3 + 2, none⟩ = some (.bool ((rd_T98 x3_1 (ji5)).f2)) := hcc67 2 _ rfl
   have hf67_0 : World.frozen? _ ⟨go8, ((ji5) : Int).toNat * 3, none⟩ = false := hfr67 0
   have hf67_1 : World.frozen? _ ⟨go8, ((ji5) : Int).toNat * 3 + 1, none⟩ = false := hfr67 1
   have hf67_2 : World.frozen? _ ⟨go8, ((ji5) : Int).toNat * 3 + 2, none⟩ = false := hfr67 2
   clear hcl67 hcc67 hfr67 hM67
   replace p67 := eq_true p67
   replace q67 := eq_true q67
   obtain ⟨ce71, hcl71, hM71, hcc71, hfr71⟩ := Kd.R_elem HO_3.out z98 ((ji5) : Int) (dA) (by have h_ : ((ji5) : Int) < ((x3_1.length : Int) : Int) := dA; first | exact h_ | (have e_ := (Kd.R_reads' HO_3.out).1; omega) | simpa using h_)
   obtain rfl := k98_openM hM71
   have HP71 := (Kd.R_seg HO_3.out ((ji5) : Int) (dA) (by have h_ : ((ji5) : Int) < ((x3_1.length : Int) : Int) := dA; first | exact h_ | (have e_ := (Kd.R_reads' HO_3.out).1; omega) | simpa using h_) (seg := [.string (((rd_T98 x3_1 (ji5)).f0) ++ (a0.extract (x4_1 : Int).toNat ((wrap64 (x4_1 + 1)) : Int).toNat))]) (j := 0) hcl71 hcc71 (show 1 ≤ 3 from by decide) (x' := (⟨((rd_T98 x3_1 (ji5)).f0) ++ (a0.extract (x4_1 : Int).toNat ((wrap64 (x4_1 + 1)) : Int).toNat), (rd_T98 x3_1 (ji5)).f1, (rd_T98 x3_1 (ji5)).f2⟩ : S98)) (k98_mkM _ _ _ (⟨((rd_T98 x3_1 (ji5)).f0) ++ (a0.extract (x4_1 : Int).toNat ((wrap64 (x4_1 + 1)) : Int).toNat), (rd_T98 x3_1 (ji5)).f1, (rd_T98 x3_1 (ji5)).f2⟩ : S98) ) (fun _ hk => hk)).1
   rw [← Ny248.out] at HP71
   have HQ71 := Aside0.mk HP71
   clear hcl71 hcc71 hfr71 hM71 HP71
   refine start_ (n := 14) (S := fun w' => w'.cell? ⟨go8, ((ji5)).toNat * 3, none⟩ = some (.string ((rd_T98 x3_1 (ji5)).f0)) ∧ w'.cell? ⟨go8, ((ji5)).toNat * 3 + 1, none⟩ = some (.bool ((rd_T98 x3_1 (ji5)).f1)) ∧ w'.cell? ⟨go8, ((ji5)).toNat * 3 + 2, none⟩ = some (.bool ((rd_T98 x3_1 (ji5)).f2))) (ds := [13]) #[false, false, false, false, false, false, false, false, false, false, false, false, false, false] (by kernel_rfl) rfl rfl ⟨hx247_0, hx247_1, hx247_2⟩ (fun hHeld => ?_); refine with_tabW newelref05_parts.tab12 newelref05_parts.bits12 (fun HT_ HW_ => ?_)
   generalize w69.drew = w70 at HO_3 HB HQ71 hf67_0 hf67_1 hf67_2 hx247_0 hx247_1 hx247_2 hx67_0 hx67_1 hx67_2 hHeld ⊢
   refine pz 0 (some 77) HT_ ?_
   refine pz 1 (some 78) HT_ ?_
   refine pz 2 (some 79) HT_ ?_
   refine pz 3 (some 80) HT_ ?_
   refine pz 5 (some 82) HT_ ?_
   refine pz 6 (some 83) HT_ ?_
   refine pz 7 (some 84) HT_ ?_
   refine pz 8 (some 85) HT_ ?_
   refine pz 9 (some 86) HT_ ?_
   refine tm 4 (some 81) HT_ HW_ hHeld ?_
   refine pz 10 (some 87) HT_ ?_
   refine pz 11 (some 88) HT_ ?_
   refine pz 12 (some 89) HT_ ?_
   refine last_ (i := 13) (N := none) #[true, true, true, true, true, true, true, true, true, true, true, true, true, true] rfl rfl (one_of HT_.out (by kernel_rfl)) (by decide) (fun K hK => ?_)
   refine skip_ (w1 := ?_) (by rfl) rfl ?_ ?_
   rotate_left
   ·go_simp
    rfl
   refine hK.out _ _ ?_
   clear hK K
   refine done_ (done_of HT_.out (by kernel_rfl)) ?_
   try go_wp2
   go_roundg k1
   case measure => have := HK1.out; omega
   case rel => exact ⟨(y248), (wrap64 (x4_1 + 1)), cA, H', ⟨by have := HK1.out; omega⟩, ⟨by (with_reducible repeat (first | apply Kd.R_alloc | apply Kd.R_drewN | apply Kd.R_drew)); exact HQ71.out⟩, ⟨by repeat (first | (with_reducible first | exact HB.out | apply below_alloc | apply pw_below_drewN | apply below_drew1 | refine below_set ?_ GB8.out) | exact HB.out)⟩⟩
  rw [if_pos c40] at H
  have c40b0 : (t238 != t239) = true := c40
  (try (have c40b1 : decide (t238 = t239) = false := by simpa using c40))
  (try (have c40b2 : (t238 == t239) = false := by simpa using c40))
  (try (have c40b3 : ¬ (t238 = t239) := by simpa using c40))
  clear c40
  replace H := bi H
  obtain ⟨t240, A420, H⟩ := H
  try dsimp only at H
  have A42 := Aside0.mk A420
  clear A420
  obtain ⟨y241, hy241⟩ : ∃ y_ : List (S98), y_ = (x3_1.set ((ji5) : Int).toNat (⟨(rd_T98 x3_1 (ji5)).f0, (rd_T98 x3_1 (ji5)).f1, t240⟩ : S98)) := ⟨_, rfl⟩
  replace H : (if y241.length < 5864062014805 then ((some (y241 ++ [(⟨(⟨#[]⟩ : ByteArray), true, false⟩ : S98)] : List (S98))).bind fun y242 => (if 0 ≤ (wrap64 ((y242.length : Int) - 1)) then (if (wrap64 ((y242.length : Int) - 1)) < (y242.length : Int) then (if x4_1 ≤ (wrap64 (x4_1 + 1)) then (if (wrap64 (x4_1 + 1)) ≤ (a0.size : Int) then (if ((rd_T98 y242 (wrap64 ((y242.length : Int) - 1))).f0).size + (a0.extract (x4_1 : Int).toNat ((wrap64 (x4_1 + 1)) : Int).toNat).size ≤ 9223372036854775807 then (newelref05_parts.l0 k1 a0 (y242.set ((wrap64 ((y242.length : Int) - 1)) : Int).toNat (⟨((rd_T98 y242 (wrap64 ((y242.length : Int) - 1))).f0) ++ (a0.extract (x4_1 : Int).toNat ((wrap64 (x4_1 + 1)) : Int).toNat), (rd_T98 y242 (wrap64 ((y242.length : Int) - 1))).f1, (rd_T98 y242 (wrap64 ((y242.length : Int) - 1))).f2⟩ : S98)) (wrap64 (x4_1 + 1))) else (none)) else (none)) else (none)) else (none)) else (none))) else (none)) = some r := by first | (rw [hy241]; with_reducible exact H) | (have H2_ := (Option.bind_some _ _).symm.trans H; rw [hy241]; with_reducible exact H2_) | (have H2_ := (Option.bind_some _ _).symm.trans H; with_reducible exact H2_) | with_reducible exact H | (rw [hy241]; exact H) | exact H
  have Ny241 := Aside0.mk hy241
  clear hy241
  by_cases c44 : y241.length < 5864062014805
  rotate_left
  ·rw [if_neg c44] at H
   exact absurd H (by simp)
  rw [if_pos c44] at H
  have LMc44 := Aside0.mk c44
  clear c44
  obtain ⟨y242, hy242⟩ : ∃ y_ : List (S98), y_ = (y241 ++ [(⟨(⟨#[]⟩ : ByteArray), true, false⟩ : S98)]) := ⟨_, rfl⟩
  replace H : (if 0 ≤ (wrap64 ((y242.length : Int) - 1)) then (if (wrap64 ((y242.length : Int) - 1)) < (y242.length : Int) then (if x4_1 ≤ (wrap64 (x4_1 + 1)) then (if (wrap64 (x4_1 + 1)) ≤ (a0.size : Int) then (if ((rd_T98 y242 (wrap64 ((y242.length : Int) - 1))).f0).size + (a0.extract (x4_1 : Int).toNat ((wrap64 (x4_1 + 1)) : Int).toNat).size ≤ 9223372036854775807 then (newelref05_parts.l0 k1 a0 (y242.set ((wrap64 ((y242.length : Int) - 1)) : Int).toNat (⟨((rd_T98 y242 (wrap64 ((y242.length : Int) - 1))).f0) ++ (a0.extract (x4_1 : Int).toNat ((wrap64 (x4_1 + 1)) : Int).toNat), (rd_T98 y242 (wrap64 ((y242.length : Int) - 1))).f1, (rd_T98 y242 (wrap64 ((y242.length : Int) - 1))).f2⟩ : S98)) (wrap64 (x4_1 + 1))) else (none)) else (none)) else (none)) else (none)) else (none)) = some r := by first | (rw [hy242]; with_reducible exact H) | (have H2_ := (Option.bind_some _ _).symm.trans H; rw [hy242]; with_reducible exact H2_) | (have H2_ := (Option.bind_some _ _).symm.trans H; with_reducible exact H2_) | with_reducible exact H | (rw [hy242]; exact H) | exact H
  have Ny242 := Aside0.mk hy242
  clear hy242
  obtain ⟨ji45, hji45⟩ : ∃ j_ : Int, (wrap64 ((y242.length : Int) - 1)) = j_ := ⟨_, rfl⟩
  rw [hji45] at H
  (try rw [hji45] at A37)
  (try rw [hji45] at A39)
  (try rw [hji45] at A42)
  have hji45w : (IntKind.i64.wrap ((y242.length : Int) - 1)) = ji45 := (i64_w _).trans hji45
  by_cases c46 : 0 ≤ (ji45)
  rotate_left
  ·rw [if_neg c46] at H
   exact absurd H (by simp)
  rw [if_pos c46] at H
  have c46b0 := dT c46
  clear c46
  by_cases c47 : (ji45) < (y242.length : Int)
  rotate_left
  ·rw [if_neg c47] at H
   exact absurd H (by simp)
  rw [if_pos c47] at H
  have c47b0 := dT c47
  clear c47
  have c49b0 := eq_true (dA : 0 ≤ x4_1)
  by_cases c50 : x4_1 ≤ (wrap64 (x4_1 + 1))
  rotate_left
  ·rw [if_neg c50] at H
   exact absurd H (by simp)
  rw [if_pos c50] at H
  have c50b0 := eq_true c50
  have c50b1 := dT c50
  by_cases c51 : (wrap64 (x4_1 + 1)) ≤ (a0.size : Int)
  rotate_left
  ·rw [if_neg c51] at H
   exact absurd H (by simp)
  rw [if_pos c51] at H
  have c51b0 := eq_true c51
  have c51b1 := dT c51
  by_cases c52 : ((rd_T98 y242 (ji45)).f0).size + (a0.extract (x4_1 : Int).toNat ((wrap64 (x4_1 + 1)) : Int).toNat).size ≤ 9223372036854775807
  rotate_left
  ·rw [if_neg c52] at H
   exact absurd H (by simp)
  rw [if_pos c52] at H
  have c52b0 := eq_true c52
  have c52b1 := dT c52
  try have c52b2 : (9223372036854775807 < ((rd_T98 y242 (ji45)).f0).size + (a0.extract (x4_1 : Int).toNat ((wrap64 (x4_1 + 1)) : Int).toNat).size) = False := eq_false (Nat.not_lt.2 c52)
  try have c52q : (9223372036854775807 < ((rd_T98 y242 (ji45)).f0).size + (((wrap64 (x4_1 + 1)) : Int).toNat - (x4_1 : Int).toNat)) = False := eq_false (by have z_ := c52; have y_ : ((wrap64 (x4_1 + 1)) : Int) ≤ ((a0).size : Int) := of_decide_eq_true (by assumption); simp only [ByteArray.size_extract] at z_; omega)
  obtain ⟨y246, hy246⟩ : ∃ y_ : List (S98), y_ = (y242.set ((ji45) : Int).toNat (⟨((rd_T98 y242 (ji45)).f0) ++ (a0.extract (x4_1 : Int).toNat ((wrap64 (x4_1 + 1)) : Int).toNat), (rd_T98 y242 (ji45)).f1, (rd_T98 y242 (ji45)).f2⟩ : S98)) := ⟨_, rfl⟩
  replace H : (newelref05_parts.l0 k1 a0 y246 (wrap64 (x4_1 + 1))) = some r := by first | (rw [hy246]; with_reducible exact H) | (have H2_ := (Option.bind_some _ _).symm.trans H; rw [hy246]; with_reducible exact H2_) | (have H2_ := (Option.bind_some _ _).symm.trans H; with_reducible exact H2_) | with_reducible exact H | (rw [hy246]; exact H) | exact H
  have Ny246 := Aside0.mk hy246
  clear hy246
  have H' := Aside0.mk H
  clear H
  obtain ⟨Ao54, co54, eo54⟩ := Kd.R_slice HO_3.out
  subst eo54
  have p8 : 0 ≤ ((ji5) : Int) := dA
  have q8 : ((ji5) : Int) < ((x3_1.length : Int) : Int) := dA
  obtain ⟨go8, co8, eo8, gb8, gl8, cl8, HG8⟩ := Kd.R_form HO_3.out (by omega)
  (first | cases eo8 | (injection eo8 with ea_ en_ ec_; (first | subst ea_ | (injection ea_ with ea_; subst ea_)); subst ec_; clear en_))
  have GB8 := Aside0.mk gb8
  have GG8 := Aside0.mk HG8
  clear gb8 gl8 HG8
  obtain ⟨ce8, hcl8, hM8, hcc8, hfr8⟩ := Kd.R_elem HO_3.out z98 ((ji5) : Int) p8 q8
  obtain rfl := k98_openM hM8
  have hx8_0 : wr.cell? ⟨go8, ((ji5) : Int).toNat * 3, none⟩ = some (.string ((rd_T98 x3_1 (ji5)).f0)) := hcc8 0 _ rfl
  have hx8_1 : wr.cell? ⟨go8, ((ji5) : Int).toNat * 3 + 1, none⟩ = some (.bool ((rd_T98 x3_1 (ji5)).f1)) := hcc8 1 _ rfl
  have hx8_2 : wr.cell? ⟨go8, ((ji5) : Int).toNat * 3 + 2, none⟩ = some (.bool ((rd_T98 x3_1 (ji5)).f2)) := hcc8 2 _ rfl
  have hf8_0 : wr.frozen? ⟨go8, ((ji5) : Int).toNat * 3, none⟩ = false := hfr8 0
  have hf8_1 : wr.frozen? ⟨go8, ((ji5) : Int).toNat * 3 + 1, none⟩ = false := hfr8 1
  have hf8_2 : wr.frozen? ⟨go8, ((ji5) : Int).toNat * 3 + 2, none⟩ = false := hfr8 2
  clear hcl8 hcc8 hfr8 hM8
  replace p8 := eq_true p8
  replace q8 := eq_true q8
  have p10 : 0 ≤ (x4_1 : Int) := dA
  have q10 : x4_1 < (a0.size : Int) := dA
  have hx10 := bt_at a0 x4_1
  replace p10 := eq_true p10
  replace q10 := eq_true q10
  have p16 : 0 ≤ (x4_1 : Int) := dA
  have q16 : x4_1 < (a0.size : Int) := dA
  have hx16 := bt_at a0 x4_1
  replace p16 := eq_true p16
  replace q16 := eq_true q16
  try go_wp2
  replace HO_3 := Aside0.mk (Kd.R_drew HO_3.out)
  replace HB := Aside0.mk (below_drew1 HB.out)
  have p233 : 0 ≤ ((ji5) : Int) := dA
  have q233 : (ji5) < (x3_1.length : Int) := dA
  obtain ⟨ad233, e233, hx233_0, hx233_1, hx233_2⟩ := at_T98 (Kd.R_reads' HO_3.out).2.2 (ji5) p233 q233
  obtain rfl : (⟨go8, 0, none⟩ : Addr) = ad233 := (by injection e233)
  (first | simp only [add_plain] at hx233_0 | simp only [add_at] at hx233_0 | simp only [Addr.add, Nat.zero_add] at hx233_0 | skip)
  (first | simp only [add_plain] at hx233_1 | simp only [add_at] at hx233_1 | simp only [Addr.add, Nat.zero_add] at hx233_1 | skip)
  (first | simp only [add_plain] at hx233_2 | simp only [add_at] at hx233_2 | simp only [Addr.add, Nat.zero_add] at hx233_2 | skip)
  replace p233 := eq_true p233
  replace q233 := eq_true q233
  have p236 : 0 ≤ ((ji5) : Int) := dA
  have q236 : (ji5) < (x3_1.length : Int) := dA
  obtain ⟨ad236, e236, hx236_0, hx236_1, hx236_2⟩ := at_T98 (Kd.R_reads' HO_3.out).2.2 (ji5) p236 q236
  obtain rfl : (⟨go8, 0, none⟩ : Addr) = ad236 := (by injection e236)
  (first | simp only [add_plain] at hx236_0 | simp only [add_at] at hx236_0 | simp only [Addr.add, Nat.zero_add] at hx236_0 | skip)
  (first | simp only [add_plain] at hx236_1 | simp only [add_at] at hx236_1 | simp only [Addr.add, Nat.zero_add] at hx236_1 | skip)
  (first | simp only [add_plain] at hx236_2 | simp only [add_at] at hx236_2 | simp only [Addr.add, Nat.zero_add] at hx236_2 | skip)
  replace p236 := eq_true p236
  replace q236 := eq_true q236
  have p237 : 0 ≤ ((ji5) : Int) := dA
  have q237 : (ji5) < (x3_1.length : Int) := dA
  obtain ⟨ad237, e237, hx237_0, hx237_1, hx237_2⟩ := at_T98 (Kd.R_reads' HO_3.out).2.2 (ji5) p237 q237
  obtain rfl : (⟨go8, 0, none⟩ : Addr) = ad237 := (by injection e237)
  (first | simp only [add_plain] at hx237_0 | simp only [add_at] at hx237_0 | simp only [Addr.add, Nat.zero_add] at hx237_0 | skip)
  (first | simp only [add_plain] at hx237_1 | simp only [add_at] at hx237_1 | simp only [Addr.add, Nat.zero_add] at hx237_1 | skip)
  (first | simp only [add_plain] at hx237_2 | simp only [add_at] at hx237_2 | simp only [Addr.add, Nat.zero_add] at hx237_2 | skip)
  replace p237 := eq_true p237
  replace q237 := eq_true q237
  have p36 : 0 ≤ ((ji33) : Int) := dA
  have q36 : (ji33) < (((rd_T98 x3_1 (ji5)).f0).size : Int) := dA
  have hx36 := bt_at ((rd_T98 x3_1 (ji5)).f0) (ji33)
  replace p36 := eq_true p36
  replace q36 := eq_true q36
  have p38 : 0 ≤ (x4_1 : Int) := dA
  have q38 : x4_1 < (a0.size : Int) := dA
  have hx38 := bt_at a0 x4_1
  replace p38 := eq_true p38
  replace q38 := eq_true q38
  refine start_ (n := 24) (S := fun w' => w'.cell? ⟨go8, ((ji5)).toNat * 3, none⟩ = some (.string ((rd_T98 x3_1 (ji5)).f0)) ∧ w'.cell? ⟨go8, ((ji5)).toNat * 3 + 1, none⟩ = some (.bool ((rd_T98 x3_1 (ji5)).f1)) ∧ w'.cell? ⟨go8, ((ji5)).toNat * 3 + 2, none⟩ = some (.bool ((rd_T98 x3_1 (ji5)).f2)) ∧ w'.cell? ⟨go8, ((ji5)).toNat * 3, none⟩ = some (.string ((rd_T98 x3_1 (ji5)).f0)) ∧ w'.cell? ⟨go8, ((ji5)).toNat * 3 + 1, none⟩ = some (.bool ((rd_T98 x3_1 (ji5)).f1)) ∧ w'.cell? ⟨go8, ((ji5)).toNat * 3 + 2, none⟩ = some (.bool ((rd_T98 x3_1 (ji5)).f2)) ∧ w'.cell? ⟨go8, ((ji5)).toNat * 3, none⟩ = some (.string ((rd_T98 x3_1 (ji5)).f0)) ∧ w'.cell? ⟨go8, ((ji5)).toNat * 3 + 1, none⟩ = some (.bool ((rd_T98 x3_1 (ji5)).f1)) ∧ w'.cell? ⟨go8, ((ji5)).toNat * 3 + 2, none⟩ = some (.bool ((rd_T98 x3_1 (ji5)).f2))) (ds := []) #[false, false, false, false, false, false, false, false, false, false, false, false, false, false, false, false, false, false, false, false, false, false, false, false] (by kernel_rfl) rfl rfl ⟨hx233_0, hx233_1, hx233_2, hx236_0, hx236_1, hx236_2, hx237_0, hx237_1, hx237_2⟩ (fun hHeld => ?_); refine with_tabW newelref05_parts.tab8 newelref05_parts.bits8 (fun HT_ HW_ => ?_)
  generalize wr.drew = w55 at HO_3 HB hx233_0 hx233_1 hx233_2 hx236_0 hx236_1 hx236_2 hx237_0 hx237_1 hx237_2 hHeld ⊢
  refine pz 0 (some 37) HT_ ?_
  refine pz 1 (some 38) HT_ ?_
  refine pz 2 (some 39) HT_ ?_
  refine tm 3 (some 40) HT_ HW_ hHeld ?_
  refine pz 4 (some 41) HT_ ?_
  refine pz 5 (some 42) HT_ ?_
  refine pz 6 (some 43) HT_ ?_
  refine pz 7 (some 44) HT_ ?_
  refine pz 8 (some 45) HT_ ?_
  refine pz 10 (some 47) HT_ ?_
  refine pz 11 (some 48) HT_ ?_
  refine pz 12 (some 49) HT_ ?_
  refine pz 18 (some 55) HT_ ?_
  refine pz 19 (some 56) HT_ ?_
  refine tm 9 (some 46) HT_ HW_ hHeld ?_
  refine tm 13 (some 50) HT_ HW_ hHeld ?_
  refine pz 14 (some 51) HT_ ?_
  refine pz 15 (some 52) HT_ ?_
  refine tm 16 (some 53) HT_ HW_ hHeld ?_
  refine tm 20 (some 57) HT_ HW_ hHeld ?_
  refine on 17 (some 54) HT_ (fun K hK => ?_)
  refine goes_ Tryd.func78 (by kernel_rfl) rfl #[.int .u8 (bt ((rd_T98 x3_1 (ji5)).f0) (ji33))] (by rfl) rfl rfl (by (try simp only [List.map_toArray, List.map_cons, List.map_nil]); first | done | (simp only [hji33, hji5]; rfl) | rfl | (simp only [List.length_drop, List.length_take]; rfl)) ?_
  with_reducible refine (newelref01_Digit.calls (bt ((rd_T98 x3_1 (ji5)).f0) (ji33)) t238 _ (gS HG) A37.out).mono ?_
  rintro e w' ⟨rfl, ⟨nd, rfl⟩⟩
  refine ⟨_, rfl, ?_⟩
  refine hK.out _ _ ⟨hHeld.1, hHeld.2.1, hHeld.2.2.1, hHeld.2.2.2.1, hHeld.2.2.2.2.1, hHeld.2.2.2.2.2.1, hHeld.2.2.2.2.2.2.1, hHeld.2.2.2.2.2.2.2.1, hHeld.2.2.2.2.2.2.2.2⟩ (fun hHeld => ?_)
  clear hK K
  refine nz (some 54) ?_
  refine on 21 (some 58) HT_ (fun K hK => ?_)
  refine goes_ Tryd.func78 (by kernel_rfl) rfl #[.int .u8 (bt a0 x4_1)] (by rfl) rfl rfl mA ?_
  with_reducible refine (newelref01_Digit.calls (bt a0 x4_1) t239 _ (gS HG) A39.out).mono ?_
  rintro e w' ⟨rfl, ⟨nd, rfl⟩⟩
  refine ⟨_, rfl, ?_⟩
  refine hK.out _ _ ⟨hHeld.1, hHeld.2.1, hHeld.2.2.1, hHeld.2.2.2.1, hHeld.2.2.2.2.1, hHeld.2.2.2.2.2.1, hHeld.2.2.2.2.2.2.1, hHeld.2.2.2.2.2.2.2.1, hHeld.2.2.2.2.2.2.2.2⟩ (fun hHeld => ?_)
  clear hK K
  refine nz (some 58) ?_
  refine pz 22 (some 59) HT_ ?_
  refine pz 23 (some 60) HT_ ?_
  refine done_ (done_of HT_.out (by kernel_rfl)) ?_
  have p41 : 0 ≤ (x4_1 : Int) := dA
  have q41 : x4_1 < (a0.size : Int) := dA
  have hx41 := bt_at a0 x4_1
  replace p41 := eq_true p41
  replace q41 := eq_true q41
  try go_wp2_with (first | (refine gl (some 65) Tryd.func78 #[.int .u8 (bt a0 x4_1)] ?_; (with_reducible refine (newelref01_Digit.calls (bt a0 x4_1) t240 _ (gS HG) A42.out).mono ?_); rintro e w' ⟨rfl, ⟨nd, rfl⟩⟩; refine ⟨_, rfl, ?_⟩; (try ((try simp only [World.drewN_drewN]); (first | generalize hq_ : World.drewN w55 _ = w55 | (rw [drewN_self w55]; generalize hq_ : World.drewN w55 _ = w55)); have n0_ : Aside0 (Kd.R k98 98 w55 w.heap.size (fun _ => True) (.slice (some ⟨go8, 0, none⟩) x3_1.length co54) x3_1) := ⟨by rw [← hq_]; exact (kR HO_3)⟩; have n1_ : Aside0 (Below w.heap.size w w55) := ⟨by rw [← hq_]; exact bE⟩; clear HO_3 HB hq_; have HO_3 := n0_; have HB := n1_; clear n0_ n1_)); have p43 : 0 ≤ ((ji5) : Int) := dA; have q43 : ((ji5) : Int) < ((x3_1.length : Int) : Int) := dA; obtain ⟨ce43, hcl43, hM43, hcc43, hfr43⟩ := Kd.R_elem HO_3.out z98 ((ji5) : Int) p43 q43; obtain rfl := k98_openM hM43; have hx43_0 : w55.cell? ⟨go8, ((ji5) : Int).toNat * 3, none⟩ = some (.string ((rd_T98 x3_1 (ji5)).f0)) := hcc43 0 _ rfl; have hx43_1 : w55.cell? ⟨go8, ((ji5) : Int).toNat * 3 + 1, none⟩ = some (.bool ((rd_T98 x3_1 (ji5)).f1)) := hcc43 1 _ rfl; have hx43_2 : w55.cell? ⟨go8, ((ji5) : Int).toNat * 3 + 2, none⟩ = some (.bool ((rd_T98 x3_1 (ji5)).f2)) := hcc43 2 _ rfl; have hf43_0 : w55.frozen? ⟨go8, ((ji5) : Int).toNat * 3, none⟩ = false := hfr43 0; have hf43_1 : w55.frozen? ⟨go8, ((ji5) : Int).toNat * 3 + 1, none⟩ = false := hfr43 1; have hf43_2 : w55.frozen? ⟨go8, ((ji5) : Int).toNat * 3 + 2, none⟩ = false := hfr43 2; clear hcl43 hcc43 hfr43 hM43; replace p43 := eq_true p43; replace q43 := eq_true q43; have HX56 := Aside0.mk (show Kd.R k98 98 w55 w.heap.size (fun _ => True) (.slice (some ⟨go8, 0, none⟩) x3_1.length co54) x3_1 from (kR HO_3)); obtain ⟨ce56, hcl56, hM56, hcc56, hfr56⟩ := Kd.R_elem HX56.out z98 ((ji5) : Int) (dA) (by have h_ : ((ji5) : Int) < ((x3_1.length : Int) : Int) := dA; first | exact h_ | (have e_ := (Kd.R_reads' HO_3.out).1; omega) | simpa using h_); obtain rfl := k98_openM hM56; have HP56 := Kd.R_seg HX56.out ((ji5) : Int) (dA) (by have h_ : ((ji5) : Int) < ((x3_1.length : Int) : Int) := dA; first | exact h_ | (have e_ := (Kd.R_reads' HO_3.out).1; omega) | simpa using h_) (seg := [.bool t240]) (j := 2) hcl56 hcc56 (show 3 ≤ 3 from by decide) (x' := (⟨(rd_T98 x3_1 (ji5)).f0, (rd_T98 x3_1 (ji5)).f1, t240⟩ : S98)) (k98_mkM _ _ _ (⟨(rd_T98 x3_1 (ji5)).f0, (rd_T98 x3_1 (ji5)).f1, t240⟩ : S98) ) (fun _ hk => hk); have hx56_2 := hcc56 2 _ rfl; (try simp only [show (k98).sz = 3 from rfl, Nat.mul_one, Nat.add_zero] at hx56_2); have hf56_2 := hfr56 2; (try simp only [show (k98).sz = 3 from rfl, Nat.mul_one, Nat.add_zero] at hf56_2); clear hcl56 hcc56 hfr56 hM56) | ((with_reducible refine gate_store (t := 4) (p := 67) rfl ?_); refine store_event (t := 4) (p := 67) (v := ?vo_w57) (w1 := (w55.setCell ⟨go8, ((ji5) : Int).toNat * 3 + 2, none⟩ (.bool t240))) ?hg ?ho ?hn ?hr ?_; (case ho => rfl); (case hg => rfl); (case hn => rfl); (case hr => first | (go_simp; done) | (go_simp; rfl)); intro w57 hw; have hg : w55.grownBy w57 (some go8) := (by rw [hw]; exact HP56.2); have hp_ : Kd.R k98 98 w57 w.heap.size (fun _ => True) (.slice (some ⟨go8, 0, none⟩) x3_1.length co54) y241 := (by rw [hw, Ny241.out]; exact HP56.1); clear HP56; replace HO_3 := Aside0.mk (hp_); replace HB := Aside0.mk ((by rw [hw]; exact below_set (HB.out) GB8.out : Below w.heap.size w w57)); clear hg hw hp_) | ((with_reducible refine gate_builtin (b := .append) (xs := #[.tmp 68, .tmp 70]) rfl ?_); (try (refine gate_guard (by rfl) ?_; dsimp only)); at_builtin; refine Kd.R_append k98 (w0 := w) w.heap.size rfl (.tmp 68) (.tmp 70) 94 98 (.agg #[(.string ⟨#[]⟩), (.bool false), (.bool false)]) 24 rfl Tryd.underlying94 info98 rfl (by decide) (by omega) (.slice (some ⟨go8, 0, none⟩) x3_1.length co54) y241 (⟨(⟨#[]⟩ : ByteArray), true, false⟩ : S98) [.string (⟨#[]⟩ : ByteArray), .bool true, .bool false] (fun _ => True) (fun _ => False) rfl rfl ?aP (fun _ hk => hk.elim) ?aF ?aO ?aB ?aS ?aL ?_; (case aP => exact k98_mkM _ _ _ (⟨(⟨#[]⟩ : ByteArray), true, false⟩ : S98)); (case aB => exact bE); (case aF => exact (fun _ _ => trivial)); (case aO => exact (kR HO_3)); (case aS => exact (below_size bE)); (case aL => have := LMc44.out; omega); intro v243 w58 ho hb hg hat; rw [← Ny242.out] at ho; replace HB := Aside0.mk (hb); have HO244 := Aside0.mk (ho); clear HO_3; clear ho hb hg hat; obtain ⟨Ao59, co59, eo59⟩ := Kd.R_slice HO244.out; subst eo59; have p48 : 0 ≤ ((ji45) : Int) := dA; have q48 : ((ji45) : Int) < ((y242.length : Int) : Int) := dA; obtain ⟨go48, co48, eo48, gb48, gl48, cl48, HG48⟩ := Kd.R_form HO244.out (by omega); (first | cases eo48 | (injection eo48 with ea_ en_ ec_; (first | subst ea_ | (injection ea_ with ea_; subst ea_)); subst ec_; clear en_)); have GB48 := Aside0.mk gb48; have GG48 := Aside0.mk HG48; clear gb48 gl48 HG48; obtain ⟨ce48, hcl48, hM48, hcc48, hfr48⟩ := Kd.R_elem HO244.out z98 ((ji45) : Int) p48 q48; obtain rfl := k98_openM hM48; have hx48_0 : w58.cell? ⟨go48, ((ji45) : Int).toNat * 3, none⟩ = some (.string ((rd_T98 y242 (ji45)).f0)) := hcc48 0 _ rfl; have hx48_1 : w58.cell? ⟨go48, ((ji45) : Int).toNat * 3 + 1, none⟩ = some (.bool ((rd_T98 y242 (ji45)).f1)) := hcc48 1 _ rfl; have hx48_2 : w58.cell? ⟨go48, ((ji45) : Int).toNat * 3 + 2, none⟩ = some (.bool ((rd_T98 y242 (ji45)).f2)) := hcc48 2 _ rfl; have hf48_0 : w58.frozen? ⟨go48, ((ji45) : Int).toNat * 3, none⟩ = false := hfr48 0; have hf48_1 : w58.frozen? ⟨go48, ((ji45) : Int).toNat * 3 + 1, none⟩ = false := hfr48 1; have hf48_2 : w58.frozen? ⟨go48, ((ji45) : Int).toNat * 3 + 2, none⟩ = false := hfr48 2; clear hcl48 hcc48 hfr48 hM48; replace p48 := eq_true p48; replace q48 := eq_true q48))
  replace HO244 := Aside0.mk (Kd.R_drew HO244.out)
  replace HB := Aside0.mk (below_drew1 HB.out)
  have p245 : 0 ≤ ((ji45) : Int) := dA
  have q245 : (ji45) < (y242.length : Int) := dA
  obtain ⟨ad245, e245, hx245_0, hx245_1, hx245_2⟩ := at_T98 (Kd.R_reads' HO244.out).2.2 (ji45) p245 q245
  obtain rfl : (⟨go48, 0, none⟩ : Addr) = ad245 := (by injection e245)
  (first | simp only [add_plain] at hx245_0 | simp only [add_at] at hx245_0 | simp only [Addr.add, Nat.zero_add] at hx245_0 | skip)
  (first | simp only [add_plain] at hx245_1 | simp only [add_at] at hx245_1 | simp only [Addr.add, Nat.zero_add] at hx245_1 | skip)
  (first | simp only [add_plain] at hx245_2 | simp only [add_at] at hx245_2 | simp only [Addr.add, Nat.zero_add] at hx245_2 | skip)
  replace p245 := eq_true p245
  replace q245 := eq_true q245
  have p53 : 0 ≤ ((ji45) : Int) := dA
  have q53 : ((ji45) : Int) < ((y242.length : Int) : Int) := dA
  obtain ⟨ce53, hcl53, hM53, hcc53, hfr53⟩ := Kd.R_elem HO244.out z98 ((ji45) : Int) p53 q53
  obtain rfl := k98_openM hM53
  have hx53_0 : World.cell? _ ⟨go48, ((ji45) : Int).toNat * 3, none⟩ = some (.string ((rd_T98 y242 (ji45)).f0)) := hcc53 0 _ rfl
  have hx53_1 : World.cell? _ ⟨go48, ((ji45) : Int).toNat * 3 + 1, none⟩ = some (.bool ((rd_T98 y242 (ji45)).f1)) := hcc53 1 _ rfl
  have hx53_2 : World.cell? _ ⟨go48, ((ji45) : Int).toNat * 3 + 2, none⟩ = some (.bool ((rd_T98 y242 (ji45)).f2)) := hcc53 2 _ rfl
  have hf53_0 : World.frozen? _ ⟨go48, ((ji45) : Int).toNat * 3, none⟩ = false := hfr53 0
  have hf53_1 : World.frozen? _ ⟨go48, ((ji45) : Int).toNat * 3 + 1, none⟩ = false := hfr53 1
  have hf53_2 : World.frozen? _ ⟨go48, ((ji45) : Int).toNat * 3 + 2, none⟩ = false := hfr53 2
  clear hcl53 hcc53 hfr53 hM53
  replace p53 := eq_true p53
  replace q53 := eq_true q53
  obtain ⟨ce61, hcl61, hM61, hcc61, hfr61⟩ := Kd.R_elem HO244.out z98 ((ji45) : Int) (dA) (by have h_ : ((ji45) : Int) < ((y242.length : Int) : Int) := dA; first | exact h_ | (have e_ := (Kd.R_reads' HO244.out).1; omega) | simpa using h_)
  obtain rfl := k98_openM hM61
  have HP61 := (Kd.R_seg HO244.out ((ji45) : Int) (dA) (by have h_ : ((ji45) : Int) < ((y242.length : Int) : Int) := dA; first | exact h_ | (have e_ := (Kd.R_reads' HO244.out).1; omega) | simpa using h_) (seg := [.string (((rd_T98 y242 (ji45)).f0) ++ (a0.extract (x4_1 : Int).toNat ((wrap64 (x4_1 + 1)) : Int).toNat))]) (j := 0) hcl61 hcc61 (show 1 ≤ 3 from by decide) (x' := (⟨((rd_T98 y242 (ji45)).f0) ++ (a0.extract (x4_1 : Int).toNat ((wrap64 (x4_1 + 1)) : Int).toNat), (rd_T98 y242 (ji45)).f1, (rd_T98 y242 (ji45)).f2⟩ : S98)) (k98_mkM _ _ _ (⟨((rd_T98 y242 (ji45)).f0) ++ (a0.extract (x4_1 : Int).toNat ((wrap64 (x4_1 + 1)) : Int).toNat), (rd_T98 y242 (ji45)).f1, (rd_T98 y242 (ji45)).f2⟩ : S98) ) (fun _ hk => hk)).1
  rw [← Ny246.out] at HP61
  have HQ61 := Aside0.mk HP61
  clear hcl61 hcc61 hfr61 hM61 HP61
  refine start_ (n := 14) (S := fun w' => w'.cell? ⟨go48, ((ji45)).toNat * 3, none⟩ = some (.string ((rd_T98 y242 (ji45)).f0)) ∧ w'.cell? ⟨go48, ((ji45)).toNat * 3 + 1, none⟩ = some (.bool ((rd_T98 y242 (ji45)).f1)) ∧ w'.cell? ⟨go48, ((ji45)).toNat * 3 + 2, none⟩ = some (.bool ((rd_T98 y242 (ji45)).f2))) (ds := [13]) #[false, false, false, false, false, false, false, false, false, false, false, false, false, false] (by kernel_rfl) rfl rfl ⟨hx245_0, hx245_1, hx245_2⟩ (fun hHeld => ?_); refine with_tabW newelref05_parts.tab12 newelref05_parts.bits12 (fun HT_ HW_ => ?_)
  generalize w58.drew = w60 at HO244 HB HQ61 hf53_0 hf53_1 hf53_2 hx245_0 hx245_1 hx245_2 hx53_0 hx53_1 hx53_2 hHeld ⊢
  refine pz 0 (some 77) HT_ ?_
  refine pz 1 (some 78) HT_ ?_
  refine pz 2 (some 79) HT_ ?_
  refine pz 3 (some 80) HT_ ?_
  refine pz 5 (some 82) HT_ ?_
  refine pz 6 (some 83) HT_ ?_
  refine pz 7 (some 84) HT_ ?_
  refine pz 8 (some 85) HT_ ?_
  refine pz 9 (some 86) HT_ ?_
  refine tm 4 (some 81) HT_ HW_ hHeld ?_
  refine pz 10 (some 87) HT_ ?_
  refine pz 11 (some 88) HT_ ?_
  refine pz 12 (some 89) HT_ ?_
  refine last_ (i := 13) (N := none) #[true, true, true, true, true, true, true, true, true, true, true, true, true, true] rfl rfl (one_of HT_.out (by kernel_rfl)) (by decide) (fun K hK => ?_)
  refine skip_ (w1 := ?_) (by rfl) rfl ?_ ?_
  rotate_left
  ·go_simp
   rfl
  refine hK.out _ _ ?_
  clear hK K
  refine done_ (done_of HT_.out (by kernel_rfl)) ?_
  try go_wp2
  go_roundg k1
  case measure => have := HK1.out; omega
  case rel => exact ⟨(y246), (wrap64 (x4_1 + 1)), cA, H', ⟨by have := HK1.out; omega⟩, ⟨by (with_reducible repeat (first | apply Kd.R_alloc | apply Kd.R_drewN | apply Kd.R_drew)); exact HQ61.out⟩, ⟨by repeat (first | (with_reducible first | exact HB.out | apply below_alloc | apply pw_below_drewN | apply below_drew1 | refine below_set ?_ GB48.out) | exact HB.out)⟩⟩
def newelref01_Lower.l0 : Nat → ByteArray → List Int → Int → Option (ByteArray)
 | 0, _, _, _ => none
 | k + 1, x0, x3, x4 => if x4 < (x0.size : Int) then (if 0 ≤ x4 then (if (bt x0 x4) ≥ 65 then (if (bt x0 x4) ≤ 90 then (if x3.length < 140737488355328 then (newelref01_Lower.l0 k x0 (x3 ++ [((bt x0 x4) + 32) % 256]) (wrap64 (x4 + 1))) else (none)) else (if x3.length < 140737488355328 then (newelref01_Lower.l0 k x0 (x3 ++ [bt x0 x4]) (wrap64 (x4 + 1))) else (none))) else (if x3.length < 140737488355328 then (newelref01_Lower.l0 k x0 (x3 ++ [bt x0 x4]) (wrap64 (x4 + 1))) else (none))) else (none)) else (some (strOfNums x3))
def newelref01_Lower.f (k : Nat) (a0 : ByteArray) : Option (ByteArray) := newelref01_Lower.l0 k a0 ([] : List Int) 0
theorem newelref01_Lower.mono_l : ∀ k, (∀ y0 y1 y2, LeO (newelref01_Lower.l0 k y0 y1 y2) (newelref01_Lower.l0 (k + 1) y0 y1 y2))
 | 0 => fun _ _ _ r h => by simp [newelref01_Lower.l0] at h
 | k + 1 => by
  have ih0 := newelref01_Lower.mono_l k
  ·intro y0 y1 y2
   unfold newelref01_Lower.l0
   exact mo
theorem newelref01_Lower.mono : ∀ a0 k, LeO (newelref01_Lower.f k a0) (newelref01_Lower.f (k + 1) a0) := by
 intro a0 k
 have ih0 := newelref01_Lower.mono_l k
 unfold newelref01_Lower.f
 exact mo
theorem newelref01_Lower.calls (k : Nat) (a0 : ByteArray) (r : ByteArray) (w : World) (hG : Glob w) (h : newelref01_Lower.f k a0 = some r) :
 Calls Tryd.prog 76 #[.string a0] w fun e w' => e = .returned (.string r) ∧ Below w.heap.size w w' := by
 have HG := Aside0.mk hG
 clear hG
 have HB := Aside0.mk (Below.refl w.heap.size w)
 have H : (newelref01_Lower.l0 k a0 ([] : List Int) 0) = some r := h
 clear h
 have H' := Aside0.mk H
 clear H
 go_enter Tryd.func76, Tryd.ntmps76
 go_wp2
 go_loopg [3, 4] k (fun kq v3 v4 w' => ∃ (x3_1 : List Int) (x4_1 : Int), v4 = .int .i64 x4_1 ∧ Aside0 (newelref01_Lower.l0 kq a0 x3_1 x4_1 = some r) ∧ Aside0 (kq ≤ k) ∧ Aside0 (Kd.R (Kd.int .u8) 5 w' w.heap.size (fun _ => True) v3 x3_1) ∧ Aside0 (Below w.heap.size w w'))
 case atStart => exact ⟨(([] : List Int)), (0), cA, H', ⟨Nat.le_refl _⟩, ⟨by first | exact Kd.R_nil _ _ _ _ _ | exact Kd.N_nil _ _ _ _ _ | exact Kd.V_nil _ _ _ _ _ | exact Kd.Q_nil _ _ _ _ _ | exact Kd.S_nil _ _ _ _ _⟩, ⟨bE⟩⟩
 clear H'
 obtain ⟨x3_1, x4_1, rfl, HA, HK1, HO_3, HB⟩ := hrel
 cases gk with
 | zero => exact absurd HA.out (by simp [newelref01_Lower.l0])
 | succ k1 =>
  have H := HA.out
  clear HA
  simp only [newelref01_Lower.l0] at H
  (try simp only [toList_lit] at H)
  by_cases c2 : x4_1 < (a0.size : Int)
  rotate_left
  ·rw [if_neg c2] at H
   have c2b0 := dF c2
   clear c2
   obtain rfl := Option.some.inj H
   have hcv13 := own_string (P := Tryd.prog) Tryd.underlying30 Tryd.underlying5 Tryd.underlying9 (Kd.own_of_R HO_3.out)
   go_wp2
   go_ret
   exact ⟨eA, bE⟩
  rw [if_pos c2] at H
  have c2b0 := dT c2
  clear c2
  by_cases c3 : 0 ≤ x4_1
  rotate_left
  ·rw [if_neg c3] at H
   exact absurd H (by simp)
  rw [if_pos c3] at H
  have c3b0 := dT c3
  clear c3
  by_cases c5 : (bt a0 x4_1) ≥ 65
  rotate_left
  ·rw [if_neg c5] at H
   have c5b0 := dF c5
   clear c5
   by_cases c11 : x3_1.length < 140737488355328
   rotate_left
   ·rw [if_neg c11] at H
    exact absurd H (by simp)
   rw [if_pos c11] at H
   have LMc11 := Aside0.mk c11
   clear c11
   obtain ⟨y221, hy221⟩ : ∃ y_ : List Int, y_ = (x3_1 ++ [bt a0 x4_1]) := ⟨_, rfl⟩
   replace H : (newelref01_Lower.l0 k1 a0 y221 (wrap64 (x4_1 + 1))) = some r := by first | (rw [hy221]; with_reducible exact H) | (have H2_ := (Option.bind_some _ _).symm.trans H; rw [hy221]; with_reducible exact H2_) | (have H2_ := (Option.bind_some _ _).symm.trans H; with_reducible exact H2_) | with_reducible exact H | (rw [hy221]; exact H) | exact H
   have Ny221 := Aside0.mk hy221
   clear hy221
   have H' := Aside0.mk H
   clear H
   have p4 : 0 ≤ (x4_1 : Int) := dA
   have q4 : x4_1 < (a0.size : Int) := dA
   have hx4 := bt_at a0 x4_1
   replace p4 := eq_true p4
   replace q4 := eq_true q4
   go_wp2_with (first | ((with_reducible refine gate_builtin (b := .append) (xs := #[.tmp 23, .tmp 25]) rfl ?_); at_builtin; refine Kd.R_append (Kd.int .u8) (w0 := w) w.heap.size rfl (.tmp 23) (.tmp 25) 30 5 (.int .u8 0) 1 rfl Tryd.underlying30 info5 rfl (by decide) (by omega) u3 x3_1 (bt a0 x4_1) [.int .u8 (bt a0 x4_1)] (fun _ => True) (fun _ => False) rfl rfl ?aP (fun _ hk => hk.elim) ?aF ?aO ?aB ?aS ?aL ?_; (case aP => exact rfl); (case aB => exact bE); (case aF => exact (fun _ _ => trivial)); (case aO => exact (kR HO_3)); (case aS => exact (below_size bE)); (case aL => have := LMc11.out; omega); intro v222 w12 ho hb hg hat; rw [← Ny221.out] at ho; replace HB := Aside0.mk (hb); have HO223 := Aside0.mk (ho); clear HO_3; clear ho hb hg hat))
   go_roundg k1
   case measure => have := HK1.out; omega
   case rel => exact ⟨(y221), (wrap64 (x4_1 + 1)), cA, H', ⟨by have := HK1.out; omega⟩, ⟨kR HO223⟩, ⟨bE⟩⟩
  rw [if_pos c5] at H
  have c5b0 := dT c5
  clear c5
  by_cases c6 : (bt a0 x4_1) ≤ 90
  rotate_left
  ·rw [if_neg c6] at H
   have c6b0 := dF c6
   clear c6
   by_cases c9 : x3_1.length < 140737488355328
   rotate_left
   ·rw [if_neg c9] at H
    exact absurd H (by simp)
   rw [if_pos c9] at H
   have LMc9 := Aside0.mk c9
   clear c9
   obtain ⟨y218, hy218⟩ : ∃ y_ : List Int, y_ = (x3_1 ++ [bt a0 x4_1]) := ⟨_, rfl⟩
   replace H : (newelref01_Lower.l0 k1 a0 y218 (wrap64 (x4_1 + 1))) = some r := by first | (rw [hy218]; with_reducible exact H) | (have H2_ := (Option.bind_some _ _).symm.trans H; rw [hy218]; with_reducible exact H2_) | (have H2_ := (Option.bind_some _ _).symm.trans H; with_reducible exact H2_) | with_reducible exact H | (rw [hy218]; exact H) | exact H
   have Ny218 := Aside0.mk hy218
   clear hy218
   have H' := Aside0.mk H
   clear H
   have p4 : 0 ≤ (x4_1 : Int) := dA
   have q4 : x4_1 < (a0.size : Int) := dA
   have hx4 := bt_at a0 x4_1
   replace p4 := eq_true p4
   replace q4 := eq_true q4
   go_wp2_with (first | ((with_reducible refine gate_builtin (b := .append) (xs := #[.tmp 23, .tmp 25]) rfl ?_); at_builtin; refine Kd.R_append (Kd.int .u8) (w0 := w) w.heap.size rfl (.tmp 23) (.tmp 25) 30 5 (.int .u8 0) 1 rfl Tryd.underlying30 info5 rfl (by decide) (by omega) u3 x3_1 (bt a0 x4_1) [.int .u8 (bt a0 x4_1)] (fun _ => True) (fun _ => False) rfl rfl ?aP (fun _ hk => hk.elim) ?aF ?aO ?aB ?aS ?aL ?_; (case aP => exact rfl); (case aB => exact bE); (case aF => exact (fun _ _ => trivial)); (case aO => exact (kR HO_3)); (case aS => exact (below_size bE)); (case aL => have := LMc9.out; omega); intro v219 w10 ho hb hg hat; rw [← Ny218.out] at ho; replace HB := Aside0.mk (hb); have HO220 := Aside0.mk (ho); clear HO_3; clear ho hb hg hat))
   go_roundg k1
   case measure => have := HK1.out; omega
   case rel => exact ⟨(y218), (wrap64 (x4_1 + 1)), cA, H', ⟨by have := HK1.out; omega⟩, ⟨kR HO220⟩, ⟨bE⟩⟩
  rw [if_pos c6] at H
  have c6b0 := dT c6
  clear c6
  by_cases c7 : x3_1.length < 140737488355328
  rotate_left
  ·rw [if_neg c7] at H
   exact absurd H (by simp)
  rw [if_pos c7] at H
  have LMc7 := Aside0.mk c7
  clear c7
  obtain ⟨y215, hy215⟩ : ∃ y_ : List Int, y_ = (x3_1 ++ [((bt a0 x4_1) + 32) % 256]) := ⟨_, rfl⟩
  replace H : (newelref01_Lower.l0 k1 a0 y215 (wrap64 (x4_1 + 1))) = some r := by first | (rw [hy215]; with_reducible exact H) | (have H2_ := (Option.bind_some _ _).symm.trans H; rw [hy215]; with_reducible exact H2_) | (have H2_ := (Option.bind_some _ _).symm.trans H; with_reducible exact H2_) | with_reducible exact H | (rw [hy215]; exact H) | exact H
  have Ny215 := Aside0.mk hy215
  clear hy215
  have H' := Aside0.mk H
  clear H
  have p4 : 0 ≤ (x4_1 : Int) := dA
  have q4 : x4_1 < (a0.size : Int) := dA
  have hx4 := bt_at a0 x4_1
  replace p4 := eq_true p4
  replace q4 := eq_true q4
  go_wp2_with (first | ((with_reducible refine gate_builtin (b := .append) (xs := #[.tmp 23, .tmp 25]) rfl ?_); at_builtin; refine Kd.R_append (Kd.int .u8) (w0 := w) w.heap.size rfl (.tmp 23) (.tmp 25) 30 5 (.int .u8 0) 1 rfl Tryd.underlying30 info5 rfl (by decide) (by omega) u3 x3_1 (((bt a0 x4_1) + 32) % 256) [.int .u8 (((bt a0 x4_1) + 32) % 256)] (fun _ => True) (fun _ => False) rfl rfl ?aP (fun _ hk => hk.elim) ?aF ?aO ?aB ?aS ?aL ?_; (case aP => exact rfl); (case aB => exact bE); (case aF => exact (fun _ _ => trivial)); (case aO => exact (kR HO_3)); (case aS => exact (below_size bE)); (case aL => have := LMc7.out; omega); intro v216 w8 ho hb hg hat; rw [← Ny215.out] at ho; replace HB := Aside0.mk (hb); have HO217 := Aside0.mk (ho); clear HO_3; clear ho hb hg hat))
  go_roundg k1
  case measure => have := HK1.out; omega
  case rel => exact ⟨(y215), (wrap64 (x4_1 + 1)), cA, H', ⟨by have := HK1.out; omega⟩, ⟨kR HO217⟩, ⟨bE⟩⟩
mutual
def newelref05_number.j1 : Nat → ByteArray → ByteArray → Bool → Bool → Option (Int × ByteArray)
 | 0, _, _, _, _ => none
 | k + 1, x3, x250000, x250001, x250002 => if x3.toList = ([] : List UInt8) then (some (6, (⟨#[]⟩ : ByteArray))) else (if x250001 = true then (some (9, x3)) else (some (10, x3)))
def newelref05_number.l0 : Nat → ByteArray → ByteArray → Bool → Bool → Option (Int × ByteArray)
 | 0, _, _, _, _ => none
 | k + 1, x3, x250000, x250001, x250002 => if (x3.size : Int) > 0 then (if 0 < (x3.size : Int) then (if (bt x3 0) = 48 then (if 1 ≤ (x3.size : Int) then (newelref05_number.l0 k (x3.extract 1 x3.size) x250000 x250001 x250002) else (none)) else (newelref05_number.j1 k x3 x250000 x250001 x250002)) else (none)) else (newelref05_number.j1 k x3 x250000 x250001 x250002)
end
def newelref05_number.f (k : Nat) (a0_0 : ByteArray) (a0_1 : Bool) (a0_2 : Bool) : Option (Int × ByteArray) := newelref05_number.l0 k a0_0 a0_0 a0_1 a0_2
theorem newelref05_number.mono_l : ∀ k, (∀ y0 y1 y2 y3, LeO (newelref05_number.j1 k y0 y1 y2 y3) (newelref05_number.j1 (k + 1) y0 y1 y2 y3)) ∧ (∀ y0 y1 y2 y3, LeO (newelref05_number.l0 k y0 y1 y2 y3) (newelref05_number.l0 (k + 1) y0 y1 y2 y3))
 | 0 => ⟨fun _ _ _ _ r h => by simp [newelref05_number.j1] at h, fun _ _ _ _ r h => by simp [newelref05_number.l0] at h⟩
 | k + 1 => by
  obtain ⟨ih0, ih1⟩ := newelref05_number.mono_l k
  refine ⟨?_, ?_⟩
  ·intro y0 y1 y2 y3
   unfold newelref05_number.j1
   exact mo
  ·intro y0 y1 y2 y3
   unfold newelref05_number.l0
   exact mo
theorem newelref05_number.mono : ∀ a0 a1 a2 k, LeO (newelref05_number.f k a0 a1 a2) (newelref05_number.f (k + 1) a0 a1 a2) := by
 intro a0 a1 a2 k
 obtain ⟨ih0, ih1⟩ := newelref05_number.mono_l k
 unfold newelref05_number.f
 exact mo
theorem newelref05_number.calls (k : Nat) (a0_0 : ByteArray) (a0_1 : Bool) (a0_2 : Bool) (r1 : Int) (r2 : ByteArray) (w : World) (hG : Glob w) (h : newelref05_number.f k a0_0 a0_1 a0_2 = some (r1, r2)) :
 Calls Tryd.prog 109 #[.agg #[.string a0_0, .bool a0_1, .bool a0_2]] w fun e w' => e = .returned (.agg #[.int .i64 r1, .string r2]) ∧ Below w.heap.size w w' := by
 have hu98 := Tryd.underlying98
 have hu38 := Tryd.underlying38
 have HG := Aside0.mk hG
 clear hG
 have HB := Aside0.mk (Below.refl w.heap.size w)
 have H : (newelref05_number.l0 k a0_0 a0_0 a0_1 a0_2) = some (r1, r2) := h
 clear h
 have HC2 := Aside0.mk H
 clear H
 go_enter Tryd.func109, Tryd.ntmps109
 go_upto_block 0 with (first | (refine be 1 #[.string a0_0, .bool a0_1, .bool a0_2] 98 ?_; intro gb249 hg w3 hbox hb; have BK249 := Aside0.mk (hbox); have GW249 := gW hg; have GE249 := gW hg; replace HB := sB hb; clear hb hbox hg) | (refine be 2 #[.int .i64 0, .string (⟨#[]⟩ : ByteArray)] 38 ?_; intro gb250 hg w4 hbox hb; have BK250 := Aside0.mk (hbox); have GW250 := gW hg; have GE250 := gW hg; replace HB := sB hb; have NB249_250 := nL BK249 hg; have NB250_249 := nG BK249 hg; replace BK249 := kB BK249 hb; clear hb hbox hg; have hnb5 := NB249_250.out; have hnc5 := NB250_249.out; have hcz6_0 : w4.cell? ⟨gb249, 0, none⟩ = some (.string a0_0) := (blk_cell BK249.out 0).trans rfl; have hcz6_1 : w4.cell? ⟨gb249, 1, none⟩ = some (.bool a0_1) := (blk_cell BK249.out 1).trans rfl; have hcz6_2 : w4.cell? ⟨gb249, 2, none⟩ = some (.bool a0_2) := (blk_cell BK249.out 2).trans rfl; have hfz6_0 := blk_frozen BK249.out 0; have hfz6_1 := blk_frozen BK249.out 1; have hfz6_2 := blk_frozen BK249.out 2))
 (try simp only [Act.put, List.setIfInBounds_toArray, List.set_cons_zero, List.set_cons_succ])
 go_cut [3] (fun v3 wc => ∃ (kq : Nat) (x3_1 : ByteArray), v3 = .string x3_1 ∧ Aside0 (newelref05_number.j1 kq x3_1 a0_0 a0_1 a0_2 = some (r1, r2)) ∧ Aside0 (kq ≤ k) ∧ Aside0 (wc.heap[gb249]? = some (.cells #[.string a0_0, .bool a0_1, .bool a0_2] 98 (0, 0))) ∧ Aside0 (wc.heap[gb250]? = some (.cells #[.int .i64 0, .string (⟨#[]⟩ : ByteArray)] 38 (0, 0))) ∧ Aside0 (Below w.heap.size w wc))
 case first =>
  have H := HC2.out
  clear HC2
  have H' := Aside0.mk H
  clear H
  go_wp2
  go_loopg [3] k (fun kq v3 w' => ∃ (x3_1 : ByteArray), v3 = .string x3_1 ∧ Aside0 (newelref05_number.l0 kq x3_1 a0_0 a0_1 a0_2 = some (r1, r2)) ∧ Aside0 (kq ≤ k) ∧ Aside0 (w'.heap[gb249]? = some (.cells #[.string a0_0, .bool a0_1, .bool a0_2] 98 (0, 0))) ∧ Aside0 (w'.heap[gb250]? = some (.cells #[.int .i64 0, .string (⟨#[]⟩ : ByteArray)] 38 (0, 0))) ∧ Aside0 (Below w.heap.size w w'))
  case atStart => exact ⟨(a0_0), cA, H', ⟨Nat.le_refl _⟩, ⟨bK BK249⟩, ⟨bK BK250⟩, ⟨bG⟩⟩
  clear H'
  try clear c1
  try clear p2
  try clear c5
  try clear hcz6_0
  try clear hcz6_1
  try clear hcz6_2
  try clear hfz6_0
  try clear hfz6_1
  try clear hfz6_2
  obtain ⟨x3_1, rfl, HA, HK1, BK249, BK250, HB⟩ := hrel
  cases gk with
  | zero => exact absurd HA.out (by simp [newelref05_number.l0])
  | succ k1 =>
   have H := HA.out
   clear HA
   simp only [newelref05_number.l0] at H
   (try simp only [toList_lit] at H)
   by_cases c7 : (x3_1.size : Int) > 0
   rotate_left
   ·rw [if_neg c7] at H
    have c7b0 := dF c7
    have c7b1 : decide (0 < x3_1.size) = false := decide_eq_false (by omega)
    clear c7
    (first | rw [c7b0] | (simp only [i64_w, i32_w]; rw [c7b0]) | skip)
    have H' := Aside0.mk H
    clear H
    go_wp2
    go_meet
    case rel => exact ⟨_, (x3_1), cA, H', ⟨by have := HK1.out; first | omega | exact Nat.le_refl _⟩, ⟨bK BK249⟩, ⟨bK BK250⟩, ⟨bG⟩⟩
   rw [if_pos c7] at H
   have c7b0 := dT c7
   have c7b1 : decide (0 < x3_1.size) = true := decide_eq_true (by omega)
   clear c7
   (first | rw [c7b0] | (simp only [i64_w, i32_w]; rw [c7b0]) | skip)
   by_cases c8 : 0 < (x3_1.size : Int)
   rotate_left
   ·rw [if_neg c8] at H
    exact absurd H (by simp)
   rw [if_pos c8] at H
   have c8b0 := dT c8
   have c8b1 : decide (0 < x3_1.size) = true := decide_eq_true (by omega)
   clear c8
   by_cases c10 : (bt x3_1 0) = 48
   rotate_left
   ·rw [if_neg c10] at H
    obtain ⟨c10b0, c10b1⟩ := eqF c10
    have H' := Aside0.mk H
    clear H
    have p9 : 0 ≤ (0 : Int) := (by omega)
    have q9 : 0 < x3_1.size := (by have : (0 : Int) < (x3_1.size : Int) := dA; omega)
    have hx9 : ∀ h : 0 < x3_1.size, ((x3_1[0]'h).toNat : Int) = bt x3_1 0 := bt_at x3_1 0
    clear p9
    have qi9 : (0 < (x3_1.size : Int)) = True := eq_true (dA)
    replace q9 := eq_true q9
    go_wp2
    go_meet
    case rel => exact ⟨_, (x3_1), cA, H', ⟨by have := HK1.out; first | omega | exact Nat.le_refl _⟩, ⟨bK BK249⟩, ⟨bK BK250⟩, ⟨bG⟩⟩
   rw [if_pos c10] at H
   obtain ⟨c10b0, c10b1⟩ := eqT c10
   clear c10
   by_cases c11 : 1 ≤ (x3_1.size : Int)
   rotate_left
   ·rw [if_neg c11] at H
    exact absurd H (by simp)
   rw [if_pos c11] at H
   have c11b0 := eq_true c11
   have c11b1 := dT c11
   clear c11
   have H' := Aside0.mk H
   clear H
   have p9 : 0 ≤ (0 : Int) := (by omega)
   have q9 : 0 < x3_1.size := (by have : (0 : Int) < (x3_1.size : Int) := dA; omega)
   have hx9 : ∀ h : 0 < x3_1.size, ((x3_1[0]'h).toNat : Int) = bt x3_1 0 := bt_at x3_1 0
   clear p9
   have qi9 : (0 < (x3_1.size : Int)) = True := eq_true (dA)
   replace q9 := eq_true q9
   go_wp2
   go_roundg k1
   case measure => have := HK1.out; omega
   case rel => exact ⟨(x3_1.extract 1 x3_1.size), cA, H', ⟨by have := HK1.out; omega⟩, ⟨bK BK249⟩, ⟨bK BK250⟩, ⟨bG⟩⟩
 clear HC2
 try clear c1
 try clear p2
 try clear c5
 try clear c7
 try clear c7b0
 try clear c7b1
 try clear c8
 try clear c8b0
 try clear c8b1
 try clear p9
 try clear q9
 try clear hx9
 try clear qi9
 try clear c10
 try clear c10b0
 try clear c10b1
 try clear c11
 try clear c11b0
 try clear c11b1
 try clear hcz6_0
 try clear hcz6_1
 try clear hcz6_2
 try clear hfz6_0
 try clear hfz6_1
 try clear hfz6_2
 try clear p2
 try clear p9
 try clear q9
 obtain ⟨kq, x3_1, rfl, HA, HJ1, BK249, BK250, HB⟩ := hcut
 cases kq with
 | zero => exact absurd HA.out (by simp [newelref05_number.j1])
 | succ kj1 =>
  have H := HA.out
  clear HA
  simp only [newelref05_number.j1] at H
  (try simp only [toList_lit] at H)
  by_cases c12 : x3_1.toList = ([] : List UInt8)
  ·rw [if_pos c12] at H
   obtain ⟨c12b0, c12b1⟩ := eqT c12
   (try (have c12b2 : x3_1.toList.isEmpty = true := by simpa using c12))
   clear c12
   simp only [Option.some.injEq, Prod.mk.injEq] at H
   obtain ⟨rfl, rfl⟩ := H
   have hnb13 := NB250_249.out
   have hnc13 := NB249_250.out
   obtain ⟨hcz14_0, hcz14_1, hfz14_0, hfz14_1⟩ := cells2 BK250
   go_wp2
   refine bodyPost_ret (results_cell_row rfl _ _ gb250 38 #[.int .i64 6, .string (⟨#[]⟩ : ByteArray)] (0, 0) _ rfl (bP BK250) Tryd.underlying38 rfl (by kernel_rfl)) rfl ?_
   exact ⟨eA, bG⟩
  rw [if_neg c12] at H
  obtain ⟨c12b0, c12b1⟩ := eqF c12
  (try (have c12b2 : x3_1.toList.isEmpty = false := by simpa using c12))
  by_cases c15 : a0_1 = true
  ·subst c15
   have H1 : (some (9, x3_1)) = some (r1, r2) := by rw [if_pos rfl] at H; exact H
   clear H
   have H := H1
   clear H1
   simp only [Option.some.injEq, Prod.mk.injEq] at H
   obtain ⟨rfl, rfl⟩ := H
   have hnb16 := NB249_250.out
   have hnc16 := NB250_249.out
   obtain ⟨hcz17_0, hcz17_1, hcz17_2, hfz17_0, hfz17_1, hfz17_2⟩ := cells3 BK249
   obtain ⟨hcz18_0, hcz18_1, hfz18_0, hfz18_1⟩ := cells2 BK250
   go_wp2
   refine bodyPost_ret (results_cell_row rfl _ _ gb250 38 #[.int .i64 9, .string x3_1] (0, 0) _ rfl (bP BK250) Tryd.underlying38 rfl (by kernel_rfl)) rfl ?_
   exact ⟨eA, bG⟩
  replace c15 := Bool.eq_false_iff.mpr c15
  subst c15
  have H1 : (some (10, x3_1)) = some (r1, r2) := by rw [if_neg (show ¬ (false = true) by decide)] at H; exact H
  clear H
  have H := H1
  clear H1
  simp only [Option.some.injEq, Prod.mk.injEq] at H
  obtain ⟨rfl, rfl⟩ := H
  have hnb19 := NB249_250.out
  have hnc19 := NB250_249.out
  obtain ⟨hcz20_0, hcz20_1, hcz20_2, hfz20_0, hfz20_1, hfz20_2⟩ := cells3 BK249
  obtain ⟨hcz21_0, hcz21_1, hfz21_0, hfz21_1⟩ := cells2 BK250
  go_wp2
  refine bodyPost_ret (results_cell_row rfl _ _ gb250 38 #[.int .i64 10, .string x3_1] (0, 0) _ rfl (bP BK250) Tryd.underlying38 rfl (by kernel_rfl)) rfl ?_
  exact ⟨eA, bG⟩
end Go.Proofs.YtgdjfcmmpjcaaaaDoor.Q
