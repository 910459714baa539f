/- Texts put together: what functions of the program compute, and plain words about them. -/
import Derived.Test.YtomikblbfappnaaLawTokenPartsM1
import Derived.Test.YtomikblbfappnaaLawTokenPartsM3
import Derived.Test.YtomikblbfappnaaLawTokenPartsM6
import Derived.Test.YtomikblbfappnaaProg
import Derived.Test.YtomikblbfappnaaRows
import Derived.ChangeArms
import Derived.Deep.DeepHandedRow
import Derived.Shelf.Vars
import Derived.Below
import Derived.Deep.Draws
import Derived.Deep.AppendLies
import Derived.Maps.AppendAt
import Derived.OwnWalk
import Derived.Laws.BytesArg
import Derived.Laws.MakeOwn
import Derived.Laws.OwnMore
import Derived.Deep.OwnRows
import Derived.Tactics
import Derived.Lib.ConvBytes
import Derived.Laws.Slices
import Derived.WalkKit
import Derived.KernelRfl
import Derived.RowKit3
import Derived.Deep.LoopGhost
import Derived.Deep.QuietTactic
import Derived.BigQuiet
import Derived.WideLaws
import Derived.Deep.DeepCutAuto
import Derived.Deep.CutBlock
import Derived.Deep.RegionHeld3
import Derived.Laws.Rows
import Derived.Lib.AppendStr
import Derived.ArgAppend
import Derived.Laws.IdiomCopy
import Derived.OrdersHeld
import Derived.Laws.BitsLemmas
import Derived.RowKit
namespace Go.Proofs.Ytomikblbfappnaa.Q
open Go.RowKit Go.Proofs.YtomikblbfappnaaW.PrintWords Go.Proofs.YtomikblbfappnaaW.PrintLast Go.Proofs.YtomikblbfappnaaW.Own Go.Proofs.YtomikblbfappnaaW.PrintMore
attribute [local go_sem] max2_int min2_int max_two min_two max_three min_three max_four min_four   -- for this text's walks alone
set_option linter.unusedVariables false
set_option linter.unusedSimpArgs false
set_option maxHeartbeats 20000000
set_option maxRecDepth 100000
mutual
def newellaw02_TokenParts.j0 : Nat → ByteArray → ByteArray → Bool → Option (Bool)
 | 0, _, _, _ => none
 | k + 1, x0, x1, x20 => if x20 = true then ((newellaw02_awake.f).bind fun t434 => (some t434)) else ((newelref01_Split.f k x0).bind fun bt435 => ((newelref01_Split.f k x1).bind fun bt439 => (if x0.size + 4 ≤ 9223372036854775807 then (if (x0 ++ (⟨#[60, 99, 47, 62]⟩ : ByteArray)).size + x1.size ≤ 9223372036854775807 then ((token_Split.f ((x0 ++ (⟨#[60, 99, 47, 62]⟩ : ByteArray)) ++ x1)).bind fun bt443 => (if bt435.2 = 0 then (newellaw02_TokenParts.j1 k bt435.1 bt439.1 bt443.1 bt443.2 (bt439.2 != 0)) else (newellaw02_TokenParts.j1 k bt435.1 bt439.1 bt443.1 bt443.2 true))) else (none)) else (none))))
def newellaw02_TokenParts.j1 : Nat → List (S32) → List (S32) → List (S32) → Int → Bool → Option (Bool)
 | 0, _, _, _, _, _ => none
 | k + 1, x5, x7, x9, x10, x45 => if x45 = true then ((newellaw02_awake.f).bind fun t447 => (some t447)) else (if (x7.length : Int) > 0 then (if 0 < (x7.length : Int) then (newellaw02_TokenParts.j2 k x5 x7 x9 x10 (((rd_T32 x7 0).f0) == 5)) else (none)) else (newellaw02_TokenParts.j2 k x5 x7 x9 x10 false))
def newellaw02_TokenParts.j2 : Nat → List (S32) → List (S32) → List (S32) → Int → Bool → Option (Bool)
 | 0, _, _, _, _, _ => none
 | k + 1, x5, x7, x9, x10, x11 => if x11 = true then ((newellaw02_awake.f).bind fun t449 => (if t449 = true then (some (x10 == 5)) else (some false))) else (if ([] : List (S32)).length + x5.length < 1954687338268 then ((some (([] : List (S32)) ++ x5 : List (S32))).bind fun y450 => (if y450.length < 1954687338268 then ((some (y450 ++ [(⟨1, (⟨#[99]⟩ : ByteArray), (⟨#[]⟩ : ByteArray), ([] : List (S39)), true⟩ : S32)] : List (S32))).bind fun y453 => (if y453.length + x7.length < 1954687338268 then ((newellaw02_awake.f).bind fun t459 => (if t459 = true then (if x10 = 0 then ((api_Token.f k x9 (y453 ++ x7)).bind fun t460 => (some t460)) else (some false)) else (some false))) else (none))) else (none))) else (none))
end
def newellaw02_TokenParts.f (k : Nat) (a0 : ByteArray) (a1 : ByteArray) : Option (Bool) := if (a0.size : Int) > 800 then (newellaw02_TokenParts.j0 k a0 a1 true) else (newellaw02_TokenParts.j0 k a0 a1 (decide ((a1.size : Int) > 800)))
theorem newellaw02_TokenParts.mono_l : ∀ k, (∀ y0 y1 y2, LeO (newellaw02_TokenParts.j0 k y0 y1 y2) (newellaw02_TokenParts.j0 (k + 1) y0 y1 y2)) ∧ (∀ y0 y1 y2 y3 y4, LeO (newellaw02_TokenParts.j1 k y0 y1 y2 y3 y4) (newellaw02_TokenParts.j1 (k + 1) y0 y1 y2 y3 y4)) ∧ (∀ y0 y1 y2 y3 y4, LeO (newellaw02_TokenParts.j2 k y0 y1 y2 y3 y4) (newellaw02_TokenParts.j2 (k + 1) y0 y1 y2 y3 y4))
 | 0 => ⟨fun _ _ _ r h => by simp [newellaw02_TokenParts.j0] at h, fun _ _ _ _ _ r h => by simp [newellaw02_TokenParts.j1] at h, fun _ _ _ _ _ r h => by simp [newellaw02_TokenParts.j2] at h⟩
 | k + 1 => by
  obtain ⟨ih0, ih1, ih2⟩ := newellaw02_TokenParts.mono_l k
  refine ⟨?_, ?_, ?_⟩
  ·intro y0 y1 y2
   unfold newellaw02_TokenParts.j0
   have m0 := @api_Token.mono
   have m1 := @newelref01_Split.mono
   exact mo
  ·intro y0 y1 y2 y3 y4
   unfold newellaw02_TokenParts.j1
   have m0 := @api_Token.mono
   have m1 := @newelref01_Split.mono
   exact mo
  ·intro y0 y1 y2 y3 y4
   unfold newellaw02_TokenParts.j2
   have m0 := @api_Token.mono
   have m1 := @newelref01_Split.mono
   exact mo
theorem newellaw02_TokenParts.calls (k : Nat) (a0 : ByteArray) (a1 : ByteArray) (r : Bool) (w : World) (hG : Glob w) (h : newellaw02_TokenParts.f k a0 a1 = some r) (hr_ : r = true) :
 Calls Try.prog 6 #[.string a0, .string a1] w fun e w' => e = .returned (.bool r) ∧ Below w.heap.size w w' := by
 have hu32 := Try.underlying32
 have HG := Aside0.mk hG
 clear hG
 have HB := Aside0.mk (Below.refl w.heap.size w)
 have H : (if (a0.size : Int) > 800 then (newellaw02_TokenParts.j0 k a0 a1 true) else (newellaw02_TokenParts.j0 k a0 a1 (decide ((a1.size : Int) > 800)))) = some r := h
 clear h
 have HC3 := Aside0.mk H
 clear H
 go_enter Try.func6, Try.ntmps6
 go_upto_region 1 with (fail)
 go_cut [20] (fun v20 wc => ∃ (kq : Nat) (x20_2 : Bool), v20 = .bool x20_2 ∧ Aside0 (newellaw02_TokenParts.j0 kq a0 a1 x20_2 = some r) ∧ Aside0 (kq ≤ k) ∧ Aside0 (Below w.heap.size w wc))
 case first =>
  have H := HC3.out
  clear HC3
  by_cases c4 : (a0.size : Int) > 800
  rotate_left
  ·rw [if_neg c4] at H
   have c4b0 := dF c4
   have c4b1 : decide (800 < a0.size) = false := decide_eq_false (by omega)
   clear c4
   (first | rw [c4b0] | (simp only [i64_w, i32_w]; rw [c4b0]) | skip)
   have H' := Aside0.mk H
   clear H
   go_wp2
   go_meet
   case rel => exact ⟨_, (decide ((a1.size : Int) > 800)), cA, H', ⟨by first | omega | exact Nat.le_refl _⟩, ⟨bE⟩⟩
  rw [if_pos c4] at H
  have c4b0 := dT c4
  have c4b1 : decide (800 < a0.size) = true := decide_eq_true (by omega)
  clear c4
  (first | rw [c4b0] | (simp only [i64_w, i32_w]; rw [c4b0]) | skip)
  have H' := Aside0.mk H
  clear H
  go_wp2
  go_meet
  case rel => exact ⟨_, (true), cA, H', ⟨by first | omega | exact Nat.le_refl _⟩, ⟨bE⟩⟩
 clear HC3
 try clear p2
 try clear c4
 try clear c4b0
 try clear c4b1
 obtain ⟨kq, x20_2, rfl, HA, HJ2, HB⟩ := hcut
 cases kq with
 | zero => exact absurd HA.out (by simp [newellaw02_TokenParts.j0])
 | succ kj2 =>
  have H := HA.out
  clear HA
  simp only [newellaw02_TokenParts.j0] at H
  by_cases c5 : x20_2 = true
  ·subst c5
   replace H : ((newellaw02_awake.f).bind fun t434 => (some t434)) = some r := by rw [if_pos rfl] at H; exact H
   replace H := bi H
   obtain ⟨t434, A60, H⟩ := H
   try dsimp only at H
   have A6 := Aside0.mk A60
   clear A60
   obtain rfl := Option.some.inj H
   go_wp2_with (first | (refine gl (some 21) Try.func11 #[] ?_; (with_reducible refine (newellaw02_awake.calls  t434 _ (gS HG) A6.out).mono ?_); rintro e w7 ⟨rfl, hb⟩; refine ⟨_, rfl, ?_⟩; replace HB := sB hb; (try clear hb)))
   go_ret
   exact ⟨eA, bE⟩
  replace c5 := Bool.eq_false_iff.mpr c5
  subst c5
  replace H : ((newelref01_Split.f kj2 a0).bind fun bt435 => ((newelref01_Split.f kj2 a1).bind fun bt439 => (if a0.size + 4 ≤ 9223372036854775807 then (if (a0 ++ (⟨#[60, 99, 47, 62]⟩ : ByteArray)).size + a1.size ≤ 9223372036854775807 then ((token_Split.f ((a0 ++ (⟨#[60, 99, 47, 62]⟩ : ByteArray)) ++ a1)).bind fun bt443 => (if bt435.2 = 0 then (newellaw02_TokenParts.j1 kj2 bt435.1 bt439.1 bt443.1 bt443.2 (bt439.2 != 0)) else (newellaw02_TokenParts.j1 kj2 bt435.1 bt439.1 bt443.1 bt443.2 true))) else (none)) else (none)))) = some r := by rw [if_neg nF] at H; exact H
  replace H := bi H
  obtain ⟨⟨t435, t436⟩, A80, H⟩ := H
  try dsimp only at H
  have A8 := Aside0.mk A80
  clear A80
  replace H := bi H
  obtain ⟨⟨t439, t440⟩, A90, H⟩ := H
  try dsimp only at H
  have A9 := Aside0.mk A90
  clear A90
  obtain ⟨c10, H⟩ := gp H
  have c10b0 := eq_true c10
  have c10b1 := dT c10
  try have c10b2 : (9223372036854775807 < a0.size + 4) = False := eq_false (Nat.not_lt.2 c10)
  obtain ⟨c11, H⟩ := gp H
  have c11b0 := eq_true c11
  have c11b1 := dT c11
  try have c11b2 : (9223372036854775807 < (a0 ++ (⟨#[60, 99, 47, 62]⟩ : ByteArray)).size + a1.size) = False := eq_false (Nat.not_lt.2 c11)
  have c11n : (a0.size + 4) + a1.size ≤ 9223372036854775807 := by have z_ := c11; simp only [ByteArray.size_append] at z_; exact z_
  have c11m : (9223372036854775807 < (a0.size + 4) + a1.size) = False := eq_false (Nat.not_lt.2 c11n)
  clear c11 c11b0 c11b1
  try clear c11b2
  replace H := bi H
  obtain ⟨⟨t443, t444⟩, A120, H⟩ := H
  try dsimp only at H
  have A12 := Aside0.mk A120
  clear A120
  have HC13 := Aside0.mk H
  clear H
  go_upto_region 6 with (first | (refine gl (some 24) Try.func13 #[.string a0] ?_; (with_reducible refine (newelref01_Split.calls kj2 a0 t435 t436 _ (gS HG) A8.out).mono ?_); rintro e w14 ⟨v437, rfl, ho0, hb⟩; refine ⟨_, rfl, ?_⟩; have HO438 := Aside0.mk (Kd.N_lower (Kd.N_mono (ok' := fun k_ => True) (Kd.S_N (Kd.S_bound ho0)) (fun k_ hk_ => trivial)) (below_size bE)); replace HB := sB hb; (try clear hb); (try clear ho0)) | (refine gl (some 29) Try.func13 #[.string a1] ?_; (with_reducible refine (newelref01_Split.calls kj2 a1 t439 t440 _ (gS HG) A9.out).mono ?_); rintro e w15 ⟨v441, rfl, ho0, hb⟩; refine ⟨_, rfl, ?_⟩; have HO442 := Aside0.mk (Kd.N_lower (Kd.N_mono (ok' := fun k_ => some k_ ≠ (v437 : Value).ownBlock) (Kd.S_N (Kd.S_bound ho0)) (fun k_ hk_ => (Kd.fresh' (Kd.N_lt (by (with_reducible repeat (first | apply Kd.N_alloc | apply Kd.N_drewN | apply Kd.N_drew)); exact HO438.out)) k_ hk_.2.1))) (below_size bE)); replace HO438 := Aside0.mk (Kd.N_elder' (by (with_reducible repeat (first | apply Kd.N_alloc | apply Kd.N_drewN | apply Kd.N_drew)); exact HO438.out) (Kd.N_base (Kd.S_N ho0)) hb); replace HB := sB hb; (try clear hb); (try clear ho0)) | (refine gl (some 37) Try.func12 #[.string ((a0 ++ (⟨#[60, 99, 47, 62]⟩ : ByteArray)) ++ a1)] ?_; (with_reducible refine (token_Split.calls ((a0 ++ (⟨#[60, 99, 47, 62]⟩ : ByteArray)) ++ a1) t443 t444 _ (gS HG) A12.out).mono ?_); rintro e w16 ⟨v445, rfl, ho0, hb⟩; refine ⟨_, rfl, ?_⟩; have HO446 := Aside0.mk (Kd.N_lower (Kd.N_mono (ok' := fun k_ => some k_ ≠ (v437 : Value).ownBlock ∧ some k_ ≠ (v441 : Value).ownBlock) (Kd.S_N (Kd.S_bound ho0)) (fun k_ hk_ => ⟨(Kd.fresh' (Kd.N_lt (by (with_reducible repeat (first | apply Kd.N_alloc | apply Kd.N_drewN | apply Kd.N_drew)); exact HO438.out)) k_ hk_.2.1), (Kd.fresh' (Kd.N_lt (by (with_reducible repeat (first | apply Kd.N_alloc | apply Kd.N_drewN | apply Kd.N_drew)); exact HO442.out)) k_ hk_.2.1)⟩)) (below_size bE)); replace HO438 := Aside0.mk (Kd.N_elder' (by (with_reducible repeat (first | apply Kd.N_alloc | apply Kd.N_drewN | apply Kd.N_drew)); exact HO438.out) (Kd.N_base (Kd.S_N ho0)) hb); replace HO442 := Aside0.mk (Kd.N_elder' (by (with_reducible repeat (first | apply Kd.N_alloc | apply Kd.N_drewN | apply Kd.N_drew)); exact HO442.out) (Kd.N_base (Kd.S_N ho0)) hb); replace HB := sB hb; (try clear hb); (try clear ho0)))
  (try simp only [Act.put, List.setIfInBounds_toArray, List.set_cons_zero, List.set_cons_succ])
  go_cut [45] (fun v45 wc => ∃ (kq : Nat) (x45_12 : Bool), v45 = .bool x45_12 ∧ Aside0 (newellaw02_TokenParts.j1 kq t435 t439 t443 t444 x45_12 = some r) ∧ Aside0 (kq ≤ kj2) ∧ Aside0 (Kd.N k32 32 wc w.heap.size (fun k_ => some k_ ≠ (v441 : Value).ownBlock ∧ some k_ ≠ (v445 : Value).ownBlock) v437 t435) ∧ Aside0 (Kd.N k32 32 wc w.heap.size (fun k_ => some k_ ≠ (v437 : Value).ownBlock ∧ some k_ ≠ (v445 : Value).ownBlock) v441 t439) ∧ Aside0 (Kd.N k32 32 wc w.heap.size (fun k_ => some k_ ≠ (v437 : Value).ownBlock ∧ some k_ ≠ (v441 : Value).ownBlock) v445 t443) ∧ Aside0 (Below w.heap.size w wc))
  case first =>
   have H := HC13.out
   clear HC13
   by_cases c17 : t436 = 0
   rotate_left
   ·rw [if_neg c17] at H
    obtain ⟨c17b0, c17b1⟩ := eqF c17
    (first | rw [c17b0] | (simp only [i64_w, i32_w]; rw [c17b0]) | skip)
    have H' := Aside0.mk H
    clear H
    go_wp2
    go_meet
    case rel => exact ⟨_, (true), cA, H', ⟨by have := HJ2.out; first | omega | exact Nat.le_refl _⟩, ⟨by (with_reducible repeat (first | apply Kd.N_alloc | apply Kd.N_drewN | apply Kd.N_drew)); exact Kd.N_mono HO438.out (fun _ hk => ⟨hk.1.2, hk.2⟩)⟩, ⟨by (with_reducible repeat (first | apply Kd.N_alloc | apply Kd.N_drewN | apply Kd.N_drew)); exact HO442.out⟩, ⟨by (with_reducible repeat (first | apply Kd.N_alloc | apply Kd.N_drewN | apply Kd.N_drew)); exact HO446.out⟩, ⟨bE⟩⟩
   rw [if_pos c17] at H
   obtain ⟨c17b0, c17b1⟩ := eqT c17
   clear c17
   (first | rw [c17b0] | (simp only [i64_w, i32_w]; rw [c17b0]) | skip)
   have H' := Aside0.mk H
   clear H
   go_wp2
   go_meet
   case rel => exact ⟨_, ((t440 != 0)), cA, H', ⟨by have := HJ2.out; first | omega | exact Nat.le_refl _⟩, ⟨by (with_reducible repeat (first | apply Kd.N_alloc | apply Kd.N_drewN | apply Kd.N_drew)); exact Kd.N_mono HO438.out (fun _ hk => ⟨hk.1.2, hk.2⟩)⟩, ⟨by (with_reducible repeat (first | apply Kd.N_alloc | apply Kd.N_drewN | apply Kd.N_drew)); exact HO442.out⟩, ⟨by (with_reducible repeat (first | apply Kd.N_alloc | apply Kd.N_drewN | apply Kd.N_drew)); exact HO446.out⟩, ⟨bE⟩⟩
  clear HC13
  try clear c1
  try clear p2
  try clear c4
  try clear c4b0
  try clear c4b1
  try clear c5
  try clear c6
  try clear c10
  try clear c10b0
  try clear c10b1
  try clear c10b2
  try clear c11
  try clear c11b0
  try clear c11b1
  try clear c11b2
  try clear c12
  try clear c13
  try clear c17
  try clear c17b0
  try clear c17b1
  try clear p2
  obtain ⟨kq, x45_12, rfl, HA, HJ12, HO_5, HO_7, HO_9, HB⟩ := hcut
  cases kq with
  | zero => exact absurd HA.out (by simp [newellaw02_TokenParts.j1])
  | succ kj12 =>
   have H := HA.out
   clear HA
   simp only [newellaw02_TokenParts.j1] at H
   (try simp only [toList_lit] at H)
   by_cases c18 : x45_12 = true
   ·subst c18
    replace H : ((newellaw02_awake.f).bind fun t447 => (some t447)) = some r := by rw [if_pos rfl] at H; exact H
    replace H := bi H
    obtain ⟨t447, A190, H⟩ := H
    try dsimp only at H
    have A19 := Aside0.mk A190
    clear A190
    obtain rfl := Option.some.inj H
    go_wp2_with (first | (refine gl (some 46) Try.func11 #[] ?_; (with_reducible refine (newellaw02_awake.calls  t447 _ (gS HG) A19.out).mono ?_); rintro e w20 ⟨rfl, hb⟩; refine ⟨_, rfl, ?_⟩; replace HO_5 := Aside0.mk (Kd.N_below (by (with_reducible repeat (first | apply Kd.N_alloc | apply Kd.N_drewN | apply Kd.N_drew)); exact HO_5.out) hb); replace HO_7 := Aside0.mk (Kd.N_below (by (with_reducible repeat (first | apply Kd.N_alloc | apply Kd.N_drewN | apply Kd.N_drew)); exact HO_7.out) hb); replace HO_9 := Aside0.mk (Kd.N_below (by (with_reducible repeat (first | apply Kd.N_alloc | apply Kd.N_drewN | apply Kd.N_drew)); exact HO_9.out) hb); replace HB := sB hb; (try clear hb)))
    go_ret
    exact ⟨eA, bE⟩
   replace c18 := Bool.eq_false_iff.mpr c18
   subst c18
   replace H : (if (t439.length : Int) > 0 then (if 0 < (t439.length : Int) then (newellaw02_TokenParts.j2 kj12 t435 t439 t443 t444 (((rd_T32 t439 0).f0) == 5)) else (none)) else (newellaw02_TokenParts.j2 kj12 t435 t439 t443 t444 false)) = some r := by rw [if_neg nF] at H; exact H
   have HC21 := Aside0.mk H
   clear H
   go_upto_region 8 with (fail)
   go_cut [11] (fun v11 wc => ∃ (kq : Nat) (x11_20 : Bool), v11 = .bool x11_20 ∧ Aside0 (newellaw02_TokenParts.j2 kq t435 t439 t443 t444 x11_20 = some r) ∧ Aside0 (kq ≤ kj12) ∧ Aside0 (Kd.N k32 32 wc w.heap.size (fun k_ => some k_ ≠ (v441 : Value).ownBlock ∧ some k_ ≠ (v445 : Value).ownBlock) v437 t435) ∧ Aside0 (Kd.N k32 32 wc w.heap.size (fun k_ => some k_ ≠ (v437 : Value).ownBlock ∧ some k_ ≠ (v445 : Value).ownBlock) v441 t439) ∧ Aside0 (Kd.N k32 32 wc w.heap.size (fun k_ => some k_ ≠ (v437 : Value).ownBlock ∧ some k_ ≠ (v441 : Value).ownBlock) v445 t443) ∧ Aside0 (Below w.heap.size w wc))
   case first =>
    have H := HC21.out
    clear HC21
    by_cases c22 : (t439.length : Int) > 0
    rotate_left
    ·rw [if_neg c22] at H
     have c22b0 := dF c22
     have c22b1 : decide (0 < t439.length) = false := decide_eq_false (by omega)
     clear c22
     (first | rw [c22b0] | (simp only [i64_w, i32_w]; rw [c22b0]) | skip)
     have H' := Aside0.mk H
     clear H
     obtain ⟨Ao25, co25, eo25⟩ := Kd.N_slice HO_7.out
     subst eo25
     go_wp2
     go_meet
     case rel => exact ⟨_, (false), cA, H', ⟨by have := HJ2.out; have := HJ12.out; first | omega | exact Nat.le_refl _⟩, ⟨by (with_reducible repeat (first | apply Kd.N_alloc | apply Kd.N_drewN | apply Kd.N_drew)); exact HO_5.out⟩, ⟨by (with_reducible repeat (first | apply Kd.N_alloc | apply Kd.N_drewN | apply Kd.N_drew)); exact HO_7.out⟩, ⟨by (with_reducible repeat (first | apply Kd.N_alloc | apply Kd.N_drewN | apply Kd.N_drew)); exact HO_9.out⟩, ⟨bE⟩⟩
    rw [if_pos c22] at H
    have c22b0 := dT c22
    have c22b1 : decide (0 < t439.length) = true := decide_eq_true (by omega)
    clear c22
    (first | rw [c22b0] | (simp only [i64_w, i32_w]; rw [c22b0]) | skip)
    obtain ⟨c23, H⟩ := gp H
    have c23b0 := dT c23
    have c23b1 : decide (0 < t439.length) = true := decide_eq_true (by omega)
    clear c23
    have H' := Aside0.mk H
    clear H
    obtain ⟨Ao24, co24, eo24⟩ := Kd.N_slice HO_7.out
    subst eo24
    have p448 : 0 ≤ (0 : Int) := (by omega)
    have q448 : 0 < (t439.length : Int) := dA
    obtain ⟨ad448, A448_3, c448_3, e448, hx448_0, hx448_1, hx448_2, hx448_3, hx448_4, hl448_3, hi448_3⟩ := at_T32 (Kd.N_reads' HO_7.out).2.2 0 p448 q448
    cases e448
    obtain ⟨ce448, hce448, hMe448, hcc448⟩ := Kd.N_get HO_7.out z32 0 p448 (by first | exact q448 | exact dA | (have e_ := (Kd.N_reads' HO_7.out).1; omega))
    obtain ⟨ua448_3, uc448_3, rfl, ul448_3, ge448_3⟩ := k32_openF hMe448
    have hv448_3 := hcc448 3 _ rfl
    rw [add_field _ _ 3 (by omega)] at hv448_3
    replace hv448_3 := Option.some.inj (hv448_3.symm.trans hx448_3)
    injection hv448_3 with hva_ hvn_ hvc_
    rw [hva_] at ge448_3
    rw [hvc_] at ul448_3
    have HL448_3 := Aside0.mk (show Kd.V k39 39 _ w.heap.size _ _ ((rd_T32 t439 0).f3) from Kd.V_mk ul448_3 ge448_3)
    clear hva_ hvn_ hvc_ ge448_3 ul448_3
    clear hcc448 hce448
    have qi448 : (0 < t439.length) = True := eq_true (by omega)
    (try rw [show ((0 : Int)).toNat = 0 from rfl] at hx448_0)
    (try rw [show 0 * 5 = 0 from rfl] at hx448_0)
    (try rw [Addr.add_zero'] at hx448_0)
    (try rw [show ((0 : Int)).toNat = 0 from rfl] at hx448_1)
    (try rw [show 0 * 5 = 0 from rfl] at hx448_1)
    (try rw [Addr.add_zero'] at hx448_1)
    (try rw [show ((0 : Int)).toNat = 0 from rfl] at hx448_2)
    (try rw [show 0 * 5 = 0 from rfl] at hx448_2)
    (try rw [Addr.add_zero'] at hx448_2)
    (try rw [show ((0 : Int)).toNat = 0 from rfl] at hx448_3)
    (try rw [show 0 * 5 = 0 from rfl] at hx448_3)
    (try rw [Addr.add_zero'] at hx448_3)
    (try rw [show ((0 : Int)).toNat = 0 from rfl] at hx448_4)
    (try rw [show 0 * 5 = 0 from rfl] at hx448_4)
    (try rw [Addr.add_zero'] at hx448_4)
    have HR448_3 := Aside0.mk hi448_3
    have HC448_3 := Aside0.mk hl448_3
    clear hi448_3 hl448_3
    replace p448 := eq_true p448
    replace q448 := eq_true q448
    go_wp2
    go_meet
    case rel => exact ⟨_, ((((rd_T32 t439 0).f0) == 5)), cA, H', ⟨by have := HJ2.out; have := HJ12.out; first | omega | exact Nat.le_refl _⟩, ⟨by (with_reducible repeat (first | apply Kd.N_alloc | apply Kd.N_drewN | apply Kd.N_drew)); exact HO_5.out⟩, ⟨by (with_reducible repeat (first | apply Kd.N_alloc | apply Kd.N_drewN | apply Kd.N_drew)); exact HO_7.out⟩, ⟨by (with_reducible repeat (first | apply Kd.N_alloc | apply Kd.N_drewN | apply Kd.N_drew)); exact HO_9.out⟩, ⟨bE⟩⟩
   clear HC21
   try clear c1
   try clear c2
   try clear p2
   try clear c4
   try clear c4b0
   try clear c4b1
   try clear p4
   try clear q4
   try clear hx4
   try clear qi4
   try clear c5
   try clear c6
   try clear c10
   try clear c10b0
   try clear c10b1
   try clear c10b2
   try clear c11
   try clear c11b0
   try clear c11b1
   try clear c11b2
   try clear c12
   try clear c13
   try clear c17
   try clear c17b0
   try clear c17b1
   try clear c18
   try clear c22
   try clear c22b0
   try clear c22b1
   try clear c23
   try clear c23b0
   try clear c23b1
   try clear hx448_0
   try clear hx448_1
   try clear hx448_2
   try clear hx448_3
   try clear hx448_4
   try clear p2
   try clear p448
   try clear q448
   obtain ⟨kq, x11_20, rfl, HA, HJ20, HO_5, HO_7, HO_9, HB⟩ := hcut
   cases kq with
   | zero => exact absurd HA.out (by simp [newellaw02_TokenParts.j2])
   | succ kj20 =>
    have H := HA.out
    clear HA
    simp only [newellaw02_TokenParts.j2] at H
    (try simp only [toList_lit] at H)
    by_cases c26 : x11_20 = true
    ·subst c26
     replace H : ((newellaw02_awake.f).bind fun t449 => (if t449 = true then (some (t444 == 5)) else (some false))) = some r := by rw [if_pos rfl] at H; exact H
     replace H := bi H
     obtain ⟨t449, A270, H⟩ := H
     try dsimp only at H
     have A27 := Aside0.mk A270
     clear A270
     by_cases c28 : t449 = true
     rotate_left
     ·replace c28 := Bool.eq_false_iff.mpr c28
      subst c28
      replace H : (some false) = some r := by rw [if_neg nF] at H; exact H
      exfalso
      obtain rfl := Option.some.inj H
      exact absurd hr_ (by decide)
     subst c28
     replace H : (some (t444 == 5)) = some r := by rw [if_pos rfl] at H; exact H
     obtain rfl := Option.some.inj H
     go_wp2_with (first | (refine gl (some 58) Try.func11 #[] ?_; (with_reducible refine (newellaw02_awake.calls  true _ (gS HG) A27.out).mono ?_); rintro e w29 ⟨rfl, hb⟩; refine ⟨_, rfl, ?_⟩; replace HO_5 := Aside0.mk (Kd.N_below (by (with_reducible repeat (first | apply Kd.N_alloc | apply Kd.N_drewN | apply Kd.N_drew)); exact HO_5.out) hb); replace HO_7 := Aside0.mk (Kd.N_below (by (with_reducible repeat (first | apply Kd.N_alloc | apply Kd.N_drewN | apply Kd.N_drew)); exact HO_7.out) hb); replace HO_9 := Aside0.mk (Kd.N_below (by (with_reducible repeat (first | apply Kd.N_alloc | apply Kd.N_drewN | apply Kd.N_drew)); exact HO_9.out) hb); replace HB := sB hb; (try clear hb)))
     go_ret
     exact ⟨eA, bE⟩
    replace c26 := Bool.eq_false_iff.mpr c26
    subst c26
    replace H : (if ([] : List (S32)).length + t435.length < 1954687338268 then ((some (([] : List (S32)) ++ t435 : List (S32))).bind fun y450 => (if y450.length < 1954687338268 then ((some (y450 ++ [(⟨1, (⟨#[99]⟩ : ByteArray), (⟨#[]⟩ : ByteArray), ([] : List (S39)), true⟩ : S32)] : List (S32))).bind fun y453 => (if y453.length + t439.length < 1954687338268 then ((newellaw02_awake.f).bind fun t459 => (if t459 = true then (if t444 = 0 then ((api_Token.f kj20 t443 (y453 ++ t439)).bind fun t460 => (some t460)) else (some false)) else (some false))) else (none))) else (none))) else (none)) = some r := by rw [if_neg nF] at H; exact H
    obtain ⟨c30, H⟩ := gp H
    have LMc30 := Aside0.mk c30
    clear c30
    obtain ⟨y450, hy450⟩ : ∃ y_ : List (S32), y_ = (([] : List (S32)) ++ t435) := ⟨_, rfl⟩
    replace H : (if y450.length < 1954687338268 then ((some (y450 ++ [(⟨1, (⟨#[99]⟩ : ByteArray), (⟨#[]⟩ : ByteArray), ([] : List (S39)), true⟩ : S32)] : List (S32))).bind fun y453 => (if y453.length + t439.length < 1954687338268 then ((newellaw02_awake.f).bind fun t459 => (if t459 = true then (if t444 = 0 then ((api_Token.f kj20 t443 (y453 ++ t439)).bind fun t460 => (some t460)) else (some false)) else (some false))) else (none))) else (none)) = some r := by first | (rw [hy450]; with_reducible exact H) | (have H2_ := (Option.bind_some _ _).symm.trans H; rw [hy450]; with_reducible exact H2_) | (have H2_ := (Option.bind_some _ _).symm.trans H; with_reducible exact H2_) | with_reducible exact H | (rw [hy450]; exact H) | exact H
    have Ny450 := Aside0.mk hy450
    clear hy450
    obtain ⟨c31, H⟩ := gp H
    have LMc31 := Aside0.mk c31
    clear c31
    obtain ⟨y453, hy453⟩ : ∃ y_ : List (S32), y_ = (y450 ++ [(⟨1, (⟨#[99]⟩ : ByteArray), (⟨#[]⟩ : ByteArray), ([] : List (S39)), true⟩ : S32)]) := ⟨_, rfl⟩
    replace H : (if y453.length + t439.length < 1954687338268 then ((newellaw02_awake.f).bind fun t459 => (if t459 = true then (if t444 = 0 then ((api_Token.f kj20 t443 (y453 ++ t439)).bind fun t460 => (some t460)) else (some false)) else (some false))) else (none)) = some r := by first | (rw [hy453]; with_reducible exact H) | (have H2_ := (Option.bind_some _ _).symm.trans H; rw [hy453]; with_reducible exact H2_) | (have H2_ := (Option.bind_some _ _).symm.trans H; with_reducible exact H2_) | with_reducible exact H | (rw [hy453]; exact H) | exact H
    have Ny453 := Aside0.mk hy453
    clear hy453
    obtain ⟨c32, H⟩ := gp H
    have LMc32 := Aside0.mk c32
    clear c32
    obtain ⟨y456, hy456⟩ : ∃ y_ : List (S32), y_ = (y453 ++ t439) := ⟨_, rfl⟩
    replace H : ((newellaw02_awake.f).bind fun t459 => (if t459 = true then (if t444 = 0 then ((api_Token.f kj20 t443 y456).bind fun t460 => (some t460)) else (some false)) else (some false))) = some r := by first | (rw [hy456]; with_reducible exact H) | (have H2_ := (Option.bind_some _ _).symm.trans H; rw [hy456]; with_reducible exact H2_) | (have H2_ := (Option.bind_some _ _).symm.trans H; with_reducible exact H2_) | with_reducible exact H | (rw [hy456]; exact H) | exact H
    have Ny456 := Aside0.mk hy456
    clear hy456
    replace H := bi H
    obtain ⟨t459, A330, H⟩ := H
    try dsimp only at H
    have A33 := Aside0.mk A330
    clear A330
    by_cases c34 : t459 = true
    rotate_left
    ·replace c34 := Bool.eq_false_iff.mpr c34
     subst c34
     replace H : (some false) = some r := by rw [if_neg nF] at H; exact H
     exfalso
     obtain rfl := Option.some.inj H
     exact absurd hr_ (by decide)
    subst c34
    replace H : (if t444 = 0 then ((api_Token.f kj20 t443 y456).bind fun t460 => (some t460)) else (some false)) = some r := by rw [if_pos rfl] at H; exact H
    by_cases c35 : t444 = 0
    rotate_left
    ·rw [if_neg c35] at H
     obtain ⟨c35b0, c35b1⟩ := eqF c35
     exfalso
     obtain rfl := Option.some.inj H
     exact absurd hr_ (by decide)
    rw [if_pos c35] at H
    obtain ⟨c35b0, c35b1⟩ := eqT c35
    clear c35
    replace H := bi H
    obtain ⟨t460, A360, H⟩ := H
    try dsimp only at H
    have A36 := Aside0.mk A360
    clear A360
    obtain rfl := Option.some.inj H
    obtain ⟨Ao38, co38, eo38⟩ := Kd.N_slice HO_5.out
    subst eo38
    go_wp2_with (first | ((with_reducible refine gate_builtin (b := .append) (xs := #[.const (.slice none 0 0), .tmp 63]) rfl ?_); (try (refine gate_guard (by rfl) ?_; dsimp only)); at_builtin; refine Kd.N_append_rows k32 (w0 := w) w.heap.size rfl (.const (.slice none 0 0)) (.tmp 63) 23 32 (.agg #[(.int .i64 0), (.string ⟨#[]⟩), (.string ⟨#[]⟩), (.slice none 0 0), (.bool false)]) 72 rfl Try.underlying23 info32 rfl (by decide) (by omega) (.slice none 0 0) ([] : List (S32)) t435 _ _ _ (fun k_ => some k_ ≠ (v441 : Value).ownBlock ∧ some k_ ≠ (v445 : Value).ownBlock) (fun k_ => ((fun k_ => some k_ ≠ (v441 : Value).ownBlock ∧ some k_ ≠ (v445 : Value).ownBlock)) k_ ∧ some k_ ≠ (.slice none 0 0 : Value).ownBlock) rfl rfl ?aO ?aR (fun _ hk => hk) ?aF ?aB ?aS ?aL ?_; (case aR => exact (by skip; exact Kd.N_F (Kd.N_mono (ok' := (fun k_ => ((fun k_ => some k_ ≠ (v441 : Value).ownBlock ∧ some k_ ≠ (v445 : Value).ownBlock)) k_ ∧ some k_ ≠ (.slice none 0 0 : Value).ownBlock)) (HO_5.out) (fun k_ hk => ⟨⟨hk.1, hk.2⟩, (by simp [Value.ownBlock])⟩)))); (case aB => exact bE); (case aF => exact (fun k_ hk => ⟨Kd.fresh' (Kd.N_lt (by (with_reducible repeat (first | apply Kd.N_alloc | apply Kd.N_drewN | apply Kd.N_drew)); exact HO_7.out)) k_ hk, Kd.fresh' (Kd.N_lt (by (with_reducible repeat (first | apply Kd.N_alloc | apply Kd.N_drewN | apply Kd.N_drew)); exact HO_9.out)) k_ hk⟩)); (case aO => exact ((Kd.N_nil _ _ _ _ (fun k_ => some k_ ≠ (v441 : Value).ownBlock ∧ some k_ ≠ (v445 : Value).ownBlock)))); (case aS => exact (below_size bE)); (case aL => have := LMc30.out; omega); intro v451 w37 ho hb hg hat; rw [← Ny450.out] at ho; replace HO_5 := Aside0.mk (Kd.N_afterv (Kd.N_apart_nil (by (with_reducible repeat (first | apply Kd.N_alloc | apply Kd.N_drewN | apply Kd.N_drew)); exact HO_5.out)) hg hat); replace HO_7 := Aside0.mk (Kd.N_afterv (Kd.N_apart_nil (by (with_reducible repeat (first | apply Kd.N_alloc | apply Kd.N_drewN | apply Kd.N_drew)); exact HO_7.out)) hg hat); replace HO_9 := Aside0.mk (Kd.N_afterv (Kd.N_apart_nil (by (with_reducible repeat (first | apply Kd.N_alloc | apply Kd.N_drewN | apply Kd.N_drew)); exact HO_9.out)) hg hat); replace HB := Aside0.mk (hb); have HO452 := Aside0.mk (ho); clear ho hb hg hat) | ((with_reducible refine gate_builtin (b := .append) (xs := #[.tmp 64, .tmp 66]) rfl ?_); (try (refine gate_guard (by rfl) ?_; dsimp only)); at_builtin; refine Kd.N_append k32 (w0 := w) w.heap.size rfl (.tmp 64) (.tmp 66) 23 32 (.agg #[(.int .i64 0), (.string ⟨#[]⟩), (.string ⟨#[]⟩), (.slice none 0 0), (.bool false)]) 72 rfl Try.underlying23 info32 rfl (by decide) (by omega) v451 y450 (⟨1, (⟨#[99]⟩ : ByteArray), (⟨#[]⟩ : ByteArray), ([] : List (S39)), true⟩ : S32) [.int .i64 1, .string (⟨#[99]⟩ : ByteArray), .string (⟨#[]⟩ : ByteArray), .slice none 0 0, .bool true] (fun k_ => some k_ ≠ (v441 : Value).ownBlock ∧ some k_ ≠ (v445 : Value).ownBlock) (fun k_ => ((fun k_ => some k_ ≠ (v441 : Value).ownBlock ∧ some k_ ≠ (v445 : Value).ownBlock)) k_ ∧ some k_ ≠ (v451 : Value).ownBlock) rfl rfl ?aP (fun _ hk => hk) ?aF ?aO ?aB ?aS ?aL ?_; (case aP => exact (k32_mkF _ _ (⟨1, (⟨#[99]⟩ : ByteArray), (⟨#[]⟩ : ByteArray), ([] : List (S39)), true⟩ : S32) (Nat.le_refl _) (Kd.F_nil _ _ _))); (case aB => exact bE); (case aF => exact (fun k_ hk => ⟨Kd.fresh' (Kd.N_lt (by (with_reducible repeat (first | apply Kd.N_alloc | apply Kd.N_drewN | apply Kd.N_drew)); exact HO_7.out)) k_ hk, Kd.fresh' (Kd.N_lt (by (with_reducible repeat (first | apply Kd.N_alloc | apply Kd.N_drewN | apply Kd.N_drew)); exact HO_9.out)) k_ hk⟩)); (case aO => exact (by (with_reducible repeat (first | apply Kd.N_alloc | apply Kd.N_drewN | apply Kd.N_drew)); exact HO452.out)); (case aS => exact (below_size bE)); (case aL => have := LMc31.out; omega); intro v454 w39 ho hb hg hat; rw [← Ny453.out] at ho; replace HO_5 := Aside0.mk (Kd.N_afterv (ok := (fun k_ => some k_ ≠ (v441 : Value).ownBlock ∧ some k_ ≠ (v445 : Value).ownBlock)) (by (with_reducible repeat (first | apply Kd.N_alloc | apply Kd.N_drewN | apply Kd.N_drew)); exact HO_5.out) hg hat); replace HO_7 := Aside0.mk (Kd.N_afterv (ok := (fun k_ => some k_ ≠ (.slice Ao38 t435.length co38 : Value).ownBlock ∧ some k_ ≠ (v445 : Value).ownBlock)) (by (with_reducible repeat (first | apply Kd.N_alloc | apply Kd.N_drewN | apply Kd.N_drew)); exact HO_7.out) hg hat); replace HO_9 := Aside0.mk (Kd.N_afterv (ok := (fun k_ => some k_ ≠ (.slice Ao38 t435.length co38 : Value).ownBlock ∧ some k_ ≠ (v441 : Value).ownBlock)) (by (with_reducible repeat (first | apply Kd.N_alloc | apply Kd.N_drewN | apply Kd.N_drew)); exact HO_9.out) hg hat); replace HB := Aside0.mk (hb); have HO455 := Aside0.mk (ho); clear HO452; clear ho hb hg hat; obtain ⟨Ao41, co41, eo41⟩ := Kd.N_slice HO_7.out; subst eo41) | ((with_reducible refine gate_builtin (b := .append) (xs := #[.tmp 67, .tmp 68]) rfl ?_); (try (refine gate_guard (by rfl) ?_; dsimp only)); at_builtin; refine Kd.N_append_rows k32 (w0 := w) w.heap.size rfl (.tmp 67) (.tmp 68) 23 32 (.agg #[(.int .i64 0), (.string ⟨#[]⟩), (.string ⟨#[]⟩), (.slice none 0 0), (.bool false)]) 72 rfl Try.underlying23 info32 rfl (by decide) (by omega) v454 y453 t439 _ _ _ (fun k_ => some k_ ≠ (v445 : Value).ownBlock) (fun k_ => ((fun k_ => some k_ ≠ (v445 : Value).ownBlock)) k_ ∧ some k_ ≠ (v454 : Value).ownBlock) rfl rfl ?aO ?aR (fun _ hk => hk) ?aF ?aB ?aS ?aL ?_; (case aR => exact (by skip; exact Kd.N_F (Kd.N_mono (ok' := (fun k_ => ((fun k_ => some k_ ≠ (v445 : Value).ownBlock)) k_ ∧ some k_ ≠ (v454 : Value).ownBlock)) (HO_7.out) (fun k_ hk => ⟨hk.1.2, hk.2⟩)))); (case aB => exact bE); (case aF => exact (fun k_ hk => Kd.fresh' (Kd.N_lt (by (with_reducible repeat (first | apply Kd.N_alloc | apply Kd.N_drewN | apply Kd.N_drew)); exact HO_9.out)) k_ hk)); (case aO => exact (by (with_reducible repeat (first | apply Kd.N_alloc | apply Kd.N_drewN | apply Kd.N_drew)); exact Kd.N_mono HO455.out (fun _ hk => hk.2))); (case aS => exact (below_size bE)); (case aL => have := LMc32.out; omega); intro v457 w40 ho hb hg hat; rw [← Ny456.out] at ho; replace HO_5 := Aside0.mk (Kd.N_afterv (ok := (fun k_ => some k_ ≠ (.slice Ao41 t439.length co41 : Value).ownBlock ∧ some k_ ≠ (v445 : Value).ownBlock)) (by (with_reducible repeat (first | apply Kd.N_alloc | apply Kd.N_drewN | apply Kd.N_drew)); exact HO_5.out) hg hat); replace HO_7 := Aside0.mk (Kd.N_afterv (ok := (fun k_ => some k_ ≠ (.slice Ao38 t435.length co38 : Value).ownBlock ∧ some k_ ≠ (v445 : Value).ownBlock)) (by (with_reducible repeat (first | apply Kd.N_alloc | apply Kd.N_drewN | apply Kd.N_drew)); exact HO_7.out) hg hat); replace HO_9 := Aside0.mk (Kd.N_afterv (ok := (fun k_ => some k_ ≠ (.slice Ao38 t435.length co38 : Value).ownBlock ∧ some k_ ≠ (.slice Ao41 t439.length co41 : Value).ownBlock)) (by (with_reducible repeat (first | apply Kd.N_alloc | apply Kd.N_drewN | apply Kd.N_drew)); exact HO_9.out) hg hat); replace HB := Aside0.mk (hb); have HO458 := Aside0.mk (ho); clear HO455; clear ho hb hg hat) | (refine gl (some 70) Try.func11 #[] ?_; (with_reducible refine (newellaw02_awake.calls  true _ (gS HG) A33.out).mono ?_); rintro e w42 ⟨rfl, hb⟩; refine ⟨_, rfl, ?_⟩; replace HO_5 := Aside0.mk (Kd.N_below (by (with_reducible repeat (first | apply Kd.N_alloc | apply Kd.N_drewN | apply Kd.N_drew)); exact HO_5.out) hb); replace HO_7 := Aside0.mk (Kd.N_below (by (with_reducible repeat (first | apply Kd.N_alloc | apply Kd.N_drewN | apply Kd.N_drew)); exact HO_7.out) hb); replace HO_9 := Aside0.mk (Kd.N_below (by (with_reducible repeat (first | apply Kd.N_alloc | apply Kd.N_drewN | apply Kd.N_drew)); exact HO_9.out) hb); replace HO458 := Aside0.mk (Kd.N_below (by (with_reducible repeat (first | apply Kd.N_alloc | apply Kd.N_drewN | apply Kd.N_drew)); exact HO458.out) hb); replace HB := sB hb; (try clear hb); obtain ⟨Ao43, co43, eo43⟩ := Kd.N_slice HO_9.out; subst eo43; obtain ⟨Ao44, co44, eo44⟩ := Kd.N_slice HO458.out; subst eo44) | (go_at_call 16; (with_reducible refine (api_Token.calls kj20 _ _ t443 _ _ y456  t460 _ ?side1 ?side2 ?side3 ?side4 (gS HG) A36.out).mono ?_); (case side1 => repeat (first | exact (Kd.N_reads' HO_9.out).2.2 | (with_reducible refine Kd.C_alloc ?_ _) | (with_reducible refine Kd.C_drewN ?_ _) | (with_reducible refine Kd.C_drew ?_))); (case side2 => exact (Kd.N_reads' HO_9.out).2.1); (case side3 => repeat (first | exact (Kd.N_reads' HO458.out).2.2 | (with_reducible refine Kd.C_alloc ?_ _) | (with_reducible refine Kd.C_drewN ?_ _) | (with_reducible refine Kd.C_drew ?_))); (case side4 => exact (Kd.N_reads' HO458.out).2.1); rintro e w45 ⟨rfl, hb⟩; replace HO_5 := Aside0.mk (Kd.N_below (by (with_reducible repeat (first | apply Kd.N_alloc | apply Kd.N_drewN | apply Kd.N_drew)); exact HO_5.out) hb); replace HO_7 := Aside0.mk (Kd.N_below (by (with_reducible repeat (first | apply Kd.N_alloc | apply Kd.N_drewN | apply Kd.N_drew)); exact HO_7.out) hb); replace HO_9 := Aside0.mk (Kd.N_below (by (with_reducible repeat (first | apply Kd.N_alloc | apply Kd.N_drewN | apply Kd.N_drew)); exact HO_9.out) hb); replace HO458 := Aside0.mk (Kd.N_below (by (with_reducible repeat (first | apply Kd.N_alloc | apply Kd.N_drewN | apply Kd.N_drew)); exact HO458.out) hb); replace HB := sB hb; (try clear hb)))
    go_ret
    exact ⟨eA, bE⟩
end Go.Proofs.Ytomikblbfappnaa.Q
namespace Go.Proofs.Ytomikblbfappnaa.Q
open Go.RowKit Go.Proofs.YtomikblbfappnaaW.PrintWords Go.Proofs.YtomikblbfappnaaW.PrintLast Go.Proofs.YtomikblbfappnaaW.Own Go.Proofs.YtomikblbfappnaaW.PrintMore
set_option linter.unusedVariables false
set_option linter.unusedSimpArgs false
namespace Rd
open Go Go.RowKit
theorem glob {W : World} (h : W.ShapedOpen Try.prog) : Glob W :=
  cell_of_shapedOpen_int (g := 0) (t := 3) (zero := #[.int .i64 0]) (k := .i64) h (of_decide_eq_true (by kernel_rfl)) (by kernel_rfl) rfl (by kernel_rfl) (by kernel_rfl) Try.underlying3
end Rd
end Go.Proofs.Ytomikblbfappnaa.Q
namespace Go.Proofs.Ytomikblbfappnaa.Q
open Go.RowKit Go.Proofs.YtomikblbfappnaaW.PrintWords Go.Proofs.YtomikblbfappnaaW.PrintLast Go.Proofs.YtomikblbfappnaaW.Own Go.Proofs.YtomikblbfappnaaW.PrintMore
set_option linter.unusedVariables false
set_option linter.unusedSimpArgs false
def newellaw02_TokenParts.Pure : Prop := ∀ (a0 : ByteArray) (a1 : ByteArray), (a0.size ≤ 140737488351232) → (a1.size ≤ 140737488351232) → ∃ k, newellaw02_TokenParts.f k a0 a1 = some true
end Go.Proofs.Ytomikblbfappnaa.Q
namespace Go.Proofs.Ytomikblbfappnaa.Pure
open Go Go.RowKit Go.Proofs.Ytomikblbfappnaa.Q Go.Proofs.YtomikblbfappnaaW.PrintWords
theorem upto_at {x l a r : List UInt8} {p : Nat} (h : Tk.upto x (l.drop p) = some (a, r)) : r = l.drop (p + a.length + x.length) ∧ p + a.length + x.length ≤ l.length ∨ l.length < p := by
  by_cases hp : l.length < p
  · exact .inr hp
  left
  have hs := upto_sum h
  rw [List.length_drop] at hs
  unfold Tk.upto at h
  split at h
  · injection h with h
    injection h with h1 h2
    have hl : a.length = (Lib.index (l.drop p) x).toNat := by
      have := Lib.index_le (l.drop p) x
      rw [← h1, List.length_take, List.length_drop]
      rw [List.length_drop] at this
      omega
    refine ⟨?_, by omega⟩
    rw [← h2, List.drop_drop, ← hl, Nat.add_assoc]
  · cases h
theorem pre_take (x l : List UInt8) (p : Nat) (h : p + x.length ≤ l.length) : ((Tk.bs l).extract p (p + x.length)).toList = (l.drop p).take x.length := by
  rw [Lib.toList_data, Lib.extract_data, show p + x.length - p = x.length by omega]; rfl
theorem pre_iff (x l : List UInt8) : x.isPrefixOf l = true ↔ l.take x.length = x := by
  rw [List.isPrefixOf_iff_prefix]
  constructor
  · rintro ⟨t, rfl⟩
    exact List.take_left
  · intro h
    exact ⟨l.drop x.length, by conv => lhs; arg 1; rw [← h]
                               exact List.take_append_drop _ _⟩
theorem find_loop (l x : List UInt8) (hl : l.length ≤ 1000000) (hx0 : x ≠ []) (hx : x.length ≤ 100) : ∀ (d p : Nat), p + d = l.length → ∃ k, newelref01_find.l0 k (Tk.bs l) (Tk.bs x) (p : Int) = some (match Tk.upto x (l.drop p) with | some (a, _) => ((p + a.length : Nat) : Int) | none => -1) := by
  have hsz := bs_size l
  have hxz := bs_size x
  have hxl : 0 < x.length := by cases x with | nil => exact absurd rfl hx0 | cons _ _ => simp
  intro d
  induction d with
  | zero =>
    intro p hp
    refine ⟨1, ?_⟩
    have hw : wrap64 ((p : Int) + (x.length : Int)) = ((p + x.length : Nat) : Int) := by unfold wrap64; omega
    rw [newelref01_find.l0, hsz, hxz, hw, if_neg (by omega)]
    have hn : Tk.upto x (l.drop p) = none := by
      rw [List.drop_eq_nil_of_le (by omega)]
      unfold Tk.upto
      rw [if_neg]
      intro h0
      have := Lib.index_room [] x h0
      simp only [List.length_nil] at this
      omega
    rw [hn]
  | succ d ih =>
    intro p hp
    obtain ⟨k, hk⟩ := ih (p + 1) (by omega)
    refine ⟨k + 1, ?_⟩
    have hw : wrap64 ((p : Int) + (x.length : Int)) = ((p + x.length : Nat) : Int) := by unfold wrap64; omega
    have hw1 : wrap64 ((p : Int) + 1) = ((p + 1 : Nat) : Int) := by unfold wrap64; omega
    rw [newelref01_find.l0, hsz, hxz, hw, hw1]
    have hc : l.drop p = l[p] :: l.drop (p + 1) := List.drop_eq_getElem_cons (by omega)
    have hgi := Lib.index_ge (l.drop (p + 1)) x
    by_cases h1 : p + x.length ≤ l.length
    · rw [if_pos (by omega), if_pos (by omega), if_pos (by omega), Int.toNat_natCast, Int.toNat_natCast, pre_take x l p h1, bs_toList]
      by_cases h2 : (l.drop p).take x.length = x
      · rw [if_pos h2]
        have hpre := (pre_iff x (l.drop p)).2 h2
        have hi : Lib.index (l.drop p) x = 0 := by rw [hc] at hpre ⊢; rw [Lib.index, if_pos hpre]
        unfold Tk.upto
        rw [hi]
        simp
      · rw [if_neg h2, hk]
        have hpre : ¬ x.isPrefixOf (l.drop p) = true := fun h => h2 ((pre_iff x (l.drop p)).1 h)
        have hi : Lib.index (l.drop p) x = if Lib.index (l.drop (p + 1)) x == -1 then -1 else Lib.index (l.drop (p + 1)) x + 1 := by
          rw [hc] at hpre ⊢; rw [Lib.index, if_neg hpre]
        have hle := Lib.index_le (l.drop (p + 1)) x
        rw [List.length_drop] at hle
        unfold Tk.upto
        rw [hi]
        by_cases h3 : Lib.index (l.drop (p + 1)) x = -1
        · rw [h3]; rfl
        · have h4 : (Lib.index (l.drop (p + 1)) x == -1) = false := by simpa using h3
          rw [h4]
          generalize Lib.index (l.drop (p + 1)) x = m at *
          simp only [Bool.false_eq_true, if_false]
          rw [if_pos (show 0 ≤ m by omega), if_pos (show 0 ≤ m + 1 by omega)]
          simp only [List.length_take, List.length_drop]
          congr 1
          omega
    · rw [if_neg (by omega)]
      have hn : Tk.upto x (l.drop p) = none := by
        unfold Tk.upto
        rw [if_neg]
        intro h0
        have := Lib.index_room (l.drop p) x h0
        rw [List.length_drop] at this
        omega
      rw [hn]
theorem bs_cut (l : List UInt8) (i j : Nat) : (Tk.bs l).extract i j = Tk.bs ((l.drop i).take (j - i)) := by
  have h : ((Tk.bs l).extract i j).data.toList = (l.drop i).take (j - i) := by rw [Lib.extract_data]; rfl
  rw [← bs_data ((Tk.bs l).extract i j), h]
theorem ref_space (c : UInt8) : newelref01_Space.f (c.toNat : Int) = some (Tk.space c) := Tk.bytes_all (by kernel_rfl) c
theorem ref_within (c : UInt8) : newelref01_within.f (c.toNat : Int) = some (Tk.within c) := Tk.bytes_all (by kernel_rfl) c
theorem ref_letter (c : UInt8) : newelref01_letter.f (c.toNat : Int) = some (Tk.letter c) := Tk.bytes_all (by kernel_rfl) c
theorem letter_within (c : UInt8) (h : Tk.letter c = true) : Tk.within c = true := by unfold Tk.within; rw [h]; rfl
theorem tw_all {p : UInt8 → Bool} (l : List UInt8) : ∀ c ∈ l.takeWhile p, p c = true := by
  induction l with
  | nil => intro c h; simp at h
  | cons d r ih =>
    intro c h
    rw [List.takeWhile_cons] at h
    split at h
    · rename_i hd
      rcases List.mem_cons.1 h with rfl | h
      · exact hd
      · exact ih c h
    · simp at h
def nameB : List UInt8 → Bool | [] => false | c :: _ => Tk.letter c
theorem name_told (x : List UInt8) (hl : x.length ≤ 1000000) (ha : ∀ c ∈ x, Tk.within c = true) : ∃ k, newelref01_Name.f k (Tk.bs x) = some (nameB x) := by
  have hsz := bs_size x
  cases x with
  | nil => exact ⟨1, by kernel_rfl⟩
  | cons c r =>
    have loop : ∀ (d i : Nat), i + d = (c :: r).length → newelref01_Name.l0 (d + 1) (Tk.bs (c :: r)) (i : Int) = some true := by
      intro d
      induction d with
      | zero =>
        intro i hi
        rw [newelref01_Name.l0, hsz, if_neg (by omega)]
      | succ d ih =>
        intro i hi
        have hlt : i < (c :: r).length := by omega
        have hw : wrap64 ((i : Int) + 1) = ((i + 1 : Nat) : Int) := by unfold wrap64; omega
        rw [newelref01_Name.l0, hsz, if_pos (by omega), if_pos (by omega), bs_bt _ i hlt, ref_within, ha _ (List.getElem_mem hlt), Option.bind_some, if_pos rfl, hw]
        exact ih (i + 1) (by omega)
    refine ⟨(c :: r).length + 2, ?_⟩
    unfold newelref01_Name.f
    rw [hsz, if_neg (by simp only [List.length_cons]; omega), if_pos (by simp only [List.length_cons]; omega), show (0 : Int) = ((0 : Nat) : Int) from rfl, bs_bt _ 0 (by simp), ref_letter, Option.bind_some]
    show newelref01_Name.j0 _ _ (!Tk.letter c) = some (Tk.letter c)
    rw [newelref01_Name.j0]
    cases Tk.letter c with
    | true =>
      rw [if_neg (by decide)]
      exact loop (c :: r).length 0 (by omega)
    | false => rw [if_pos (by decide)]
theorem head_tw (r : List UInt8) : Tk.head r = match r.takeWhile Tk.within with | [] => [] | c :: q => if Tk.letter c = true then c :: q else [] := by
  cases r with
  | nil => rfl
  | cons c q =>
    show (if Tk.letter c = true then c :: q.takeWhile Tk.within else []) = _
    by_cases hc : Tk.letter c = true
    · rw [if_pos hc, List.takeWhile_cons, if_pos (letter_within c hc)]
      show _ = if Tk.letter c = true then _ else _
      rw [if_pos hc]
    · rw [if_neg hc, List.takeWhile_cons]
      by_cases hw : Tk.within c = true
      · rw [if_pos hw]
        show _ = if Tk.letter c = true then _ else _
        rw [if_neg hc]
      · rw [if_neg hw]
theorem head_len_tw {r : List UInt8} (h : Tk.head r ≠ []) : Tk.head r = r.takeWhile Tk.within := by
  rw [head_tw] at h ⊢
  cases ht : r.takeWhile Tk.within with
  | nil => rfl
  | cons c q =>
    rw [ht] at h
    show (if Tk.letter c = true then c :: q else []) = c :: q
    by_cases hc : Tk.letter c = true
    · rw [if_pos hc]
    · exact absurd (if_neg hc) h
theorem ref_digit (c : UInt8) : newelref01_Digit.f (c.toNat : Int) = some (Tk.digit c) := Tk.bytes_all (by kernel_rfl) c
theorem may_iff (v : Nat) : Tk.may v = true ↔ (v = 9 ∨ v = 10 ∨ v = 13 ∨ (32 ≤ v ∧ v ≤ 1114111 ∧ (v < 55296 ∨ 57343 < v))) := by
  unfold Tk.may
  simp only [Bool.or_eq_true, Bool.and_eq_true, beq_iff_eq, decide_eq_true_eq]
  omega
theorem strN (x : List Int) (y : List UInt8) (h : x.map (fun n => UInt8.ofNat n.toNat) = y) : strOfNums x = ⟨y.toArray⟩ := by
  unfold strOfNums; rw [h]
theorem utf_told (v : Nat) (h : Tk.may v = true) : newelref01_utf.f (v : Int) = some (Utf8.encode (v : Int)) := by
  rw [may_iff] at h
  have hv : Utf8.valid (v : Int) = true := by
    unfold Utf8.valid
    simp only [Bool.or_eq_true, Bool.and_eq_true, decide_eq_true_eq]
    omega
  have ht : ∀ (a m : Int), 0 < m → 0 ≤ a → Int.tdiv a m = a / m ∧ Int.tmod a m = a % m := fun a m _ h0 => ⟨Int.tdiv_eq_ediv_of_nonneg h0, Int.tmod_eq_emod_of_nonneg h0⟩
  have w64 : ∀ a : Int, 0 ≤ a → a < 9223372036854775808 → wrap64 a = a := by intro a h0 h1; unfold wrap64; omega
  have ofn : ∀ (a : Int) (n : Nat), a = (n : Int) → UInt8.ofNat a.toNat = UInt8.ofNat n := by rintro _ n rfl; rw [Int.toNat_natCast]
  unfold newelref01_utf.f Utf8.encode
  rw [if_pos hv, Int.toNat_natCast]
  have d64 := ht v 64 (by omega) (by omega)
  have d4096 := ht v 4096 (by omega) (by omega)
  have d262 := ht v 262144 (by omega) (by omega)
  have e64 := ht ((v : Int) / 64) 64 (by omega) (by omega)
  have e4096 := ht ((v : Int) / 4096) 64 (by omega) (by omega)
  rw [d64.1, d64.2, d4096.1, d262.1, w64 ((v : Int) / 64) (by omega) (by omega), w64 ((v : Int) / 4096) (by omega) (by omega), w64 ((v : Int) / 262144) (by omega) (by omega), e64.2, e4096.2]
  clear d64 d4096 d262 e64 e4096 ht hv
  by_cases h1 : v < 128
  · rw [if_pos (by omega), if_pos h1]
    refine congrArg some (strN _ [_] ?_)
    simp only [List.map_cons, List.map_nil]
    rw [ofn _ v (by omega)]
  rw [if_neg (by omega), if_neg h1]
  by_cases h2 : v < 2048
  · rw [if_pos (by omega), if_pos (show v < 0x800 from h2)]
    refine congrArg some (strN _ [_, _] ?_)
    simp only [List.map_cons, List.map_nil]
    rw [w64 _ (by omega) (by omega), w64 _ (by omega) (by omega), ofn _ (192 + v / 64) (by omega), ofn _ (128 + v % 64) (by omega)]
  rw [if_neg (by omega), if_neg (show ¬ v < 0x800 from h2)]
  by_cases h3 : v < 65536
  · rw [if_pos (by omega), if_pos (show v < 0x10000 from h3)]
    refine congrArg some (strN _ [_, _, _] ?_)
    simp only [List.map_cons, List.map_nil]
    rw [w64 _ (by omega) (by omega), w64 _ (by omega) (by omega), w64 _ (by omega) (by omega), ofn _ (224 + v / 4096) (by omega), ofn _ (128 + v / 64 % 64) (by omega), ofn _ (128 + v % 64) (by omega)]
  rw [if_neg (by omega), if_neg (show ¬ v < 0x10000 from h3)]
  refine congrArg some (strN _ [_, _, _, _] ?_)
  simp only [List.map_cons, List.map_nil]
  rw [w64 _ (by omega) (by omega), w64 _ (by omega) (by omega), w64 _ (by omega) (by omega), w64 _ (by omega) (by omega), ofn _ (240 + v / 262144) (by omega), ofn _ (128 + v / 4096 % 64) (by omega), ofn _ (128 + v / 64 % 64) (by omega), ofn _ (128 + v % 64) (by omega)]
theorem num_step (l : List UInt8) (hl : l.length ≤ 1000000) (base : Nat) (hb : base = 16 ∨ base = 10) (i : Nat) (hi : i < l.length) (v : Int) (k : Nat) :
    (∀ n, Tk.digitOf base l[i] = some n → ∃ j, j ≤ 2 ∧ newelref01_number.l0 (k + 3) (Tk.bs l) (base : Int) v (i : Int) = newelref01_number.l0 (k + j) (Tk.bs l) (base : Int) (wrap64 (wrap64 (v * (base : Int)) + (n : Int))) ((i + 1 : Nat) : Int)) ∧
    (Tk.digitOf base l[i] = none → newelref01_number.l0 (k + 3) (Tk.bs l) (base : Int) v (i : Int) = some (Tk.bs [], false)) := by
  have hsz := bs_size l
  have hbt := bs_bt l i hi
  have hw : wrap64 ((i : Int) + 1) = ((i + 1 : Nat) : Int) := by unfold wrap64; omega
  have hd0 := ref_digit l[i]
  rw [newelref01_number.l0, hsz, if_pos (by omega), if_pos (by omega), hbt, hd0, Option.bind_some, hw]
  have hc := l[i].toNat_lt
  generalize l[i] = c at *
  cases hd : Tk.digit c with
  | true =>
    have hd1 : 48 ≤ c.toNat ∧ c.toNat ≤ 57 := by unfold Tk.digit at hd; simpa using hd
    have e : ((c.toNat : Int) - 48) % 256 = ((c.toNat - 48 : Nat) : Int) := by omega
    have ho : Tk.digitOf base c = some (c.toNat - 48) := by
      unfold Tk.digitOf
      rw [hd]
      show (if c.toNat - 48 < base then some (c.toNat - 48) else none) = _
      rw [if_pos (by rcases hb with rfl | rfl <;> omega)]
    rw [if_pos rfl, e, if_neg (by omega), ho]
    refine ⟨fun n hn => ?_, fun hn => by cases hn⟩
    cases hn
    exact ⟨2, Nat.le_refl _, rfl⟩
  | false =>
    have hd1 : ¬ (48 ≤ c.toNat ∧ c.toNat ≤ 57) := by intro h; unfold Tk.digit at hd; simp [h.1, h.2] at hd
    rw [if_neg (by decide)]
    rcases hb with rfl | rfl
    · rw [if_pos (show ((16 : Nat) : Int) = 16 from rfl)]
      by_cases h1 : 97 ≤ c.toNat ∧ c.toNat ≤ 102
      · have e : ((c.toNat : Int) - 97) % 256 + 10 = ((c.toNat - 87 : Nat) : Int) := by omega
        have ho : Tk.digitOf 16 c = some (c.toNat - 87) := by
          unfold Tk.digitOf
          rw [hd, if_neg (by decide), if_pos h1]
          show (if c.toNat - 87 < 16 then some (c.toNat - 87) else none) = _
          rw [if_pos (by omega)]
        rw [if_pos (by omega), decide_eq_true (by omega), newelref01_number.j1, if_pos rfl, e, if_neg (by omega), ho, hw]
        refine ⟨fun n hn => ?_, fun hn => by cases hn⟩
        cases hn
        exact ⟨1, by omega, rfl⟩
      · have hj : ∀ x, (if (c.toNat : Int) ≥ 97 then newelref01_number.j1 (k + 2) (Tk.bs l) ((16 : Nat) : Int) v (i : Int) (c.toNat : Int) (-1) (decide ((c.toNat : Int) ≤ 102)) else newelref01_number.j1 (k + 2) (Tk.bs l) ((16 : Nat) : Int) v (i : Int) (c.toNat : Int) (-1) false) = x ↔ newelref01_number.j1 (k + 2) (Tk.bs l) ((16 : Nat) : Int) v (i : Int) (c.toNat : Int) (-1) false = x := by
          intro x
          by_cases h2 : 97 ≤ c.toNat
          · rw [if_pos (by omega), decide_eq_false (by omega)]
          · rw [if_neg (by omega)]
        have hj2 := (hj _).2 rfl
        rw [hj2, newelref01_number.j1, if_neg (by decide), if_pos (show ((16 : Nat) : Int) = 16 from rfl)]
        by_cases h3 : 65 ≤ c.toNat ∧ c.toNat ≤ 70
        · have e : ((c.toNat : Int) - 65) % 256 + 10 = ((c.toNat - 55 : Nat) : Int) := by omega
          have ho : Tk.digitOf 16 c = some (c.toNat - 55) := by
            unfold Tk.digitOf
            rw [hd, if_neg (by decide), if_neg h1, if_pos h3]
            show (if c.toNat - 55 < 16 then some (c.toNat - 55) else none) = _
            rw [if_pos (by omega)]
          rw [if_pos (by omega), decide_eq_true (by omega), newelref01_number.j2, if_pos rfl, e, if_neg (by omega), ho, hw]
          refine ⟨fun n hn => ?_, fun hn => by cases hn⟩
          cases hn
          exact ⟨0, by omega, rfl⟩
        · have ho : Tk.digitOf 16 c = none := by
            unfold Tk.digitOf
            rw [hd, if_neg (by decide), if_neg h1, if_neg h3]; rfl
          rw [ho]
          refine ⟨fun n hn => (by cases hn), fun _ => ?_⟩
          by_cases h2 : 65 ≤ c.toNat
          · rw [if_pos (by omega), decide_eq_false (by omega), newelref01_number.j2, if_neg (by decide), if_pos (by decide)]; rfl
          · rw [if_neg (by omega), newelref01_number.j2, if_neg (by decide), if_pos (by decide)]; rfl
    · have ho : Tk.digitOf 10 c = none := by
        unfold Tk.digitOf
        rw [hd, if_neg (by decide)]
        split
        · show (if c.toNat - 87 < 10 then some (c.toNat - 87) else none) = none
          rw [if_neg (by omega)]
        · split
          · show (if c.toNat - 55 < 10 then some (c.toNat - 55) else none) = none
            rw [if_neg (by omega)]
          · rfl
      rw [ho]
      refine ⟨fun n hn => (by cases hn), fun _ => ?_⟩
      rw [if_neg (show ¬ ((10 : Nat) : Int) = 16 by decide), newelref01_number.j1, if_neg (by decide), if_neg (show ¬ ((10 : Nat) : Int) = 16 by decide), newelref01_number.j2, if_neg (by decide), if_pos (by decide)]; rfl
theorem num_end (l : List UInt8) (hl : l.length ≤ 1000000) (base : Int) (v : Nat) (k : Nat) :
    newelref01_number.l0 (k + 1) (Tk.bs l) base (v : Int) (l.length : Int) = some (if 1 ≤ l.length ∧ l.length ≤ 6 ∧ Tk.may v = true then (Utf8.encode (v : Int), true) else (Tk.bs [], false)) := by
  have hsz := bs_size l
  rw [newelref01_number.l0, hsz, if_neg (by omega)]
  by_cases h : 1 ≤ l.length ∧ l.length ≤ 6 ∧ Tk.may v = true
  · rw [if_pos h]
    obtain ⟨h1, h2, hm⟩ := h
    rw [if_pos (by omega), if_pos (by omega), utf_told v hm]
    rw [may_iff] at hm
    repeat' split
    all_goals first | (exfalso; omega) | rfl
  · rw [if_neg h]
    have h' : 1 ≤ l.length → l.length ≤ 6 → ¬ (v = 9 ∨ v = 10 ∨ v = 13 ∨ (32 ≤ v ∧ v ≤ 1114111 ∧ (v < 55296 ∨ 57343 < v))) := fun a b c => h ⟨a, b, (may_iff v).2 c⟩
    repeat' split
    all_goals first | (exfalso; exact h' (by omega) (by omega) (by omega)) | rfl
theorem num_any (l : List UInt8) (hl : l.length ≤ 1000000) (h6 : 6 < l.length) (base : Nat) (hb : base = 16 ∨ base = 10) : ∀ (d i : Nat) (v : Int), i + d = l.length → ∃ k, newelref01_number.l0 k (Tk.bs l) (base : Int) v (i : Int) = some (Tk.bs [], false) := by
  intro d
  induction d with
  | zero =>
    intro i v hi
    refine ⟨1, ?_⟩
    have hsz := bs_size l
    rw [newelref01_number.l0, hsz, if_neg (by omega), if_pos (by omega), if_neg (by omega)]; rfl
  | succ d ih =>
    intro i v hi
    have hlt : i < l.length := by omega
    have hs := num_step l hl base hb i hlt v
    cases hd : Tk.digitOf base l[i] with
    | none => exact ⟨0 + 3, (hs 0).2 hd⟩
    | some n =>
      obtain ⟨k, hk⟩ := ih (i + 1) (wrap64 (wrap64 (v * (base : Int)) + (n : Int))) (by omega)
      obtain ⟨j, hj, he⟩ := (hs k).1 n hd
      refine ⟨k + 3, ?_⟩
      rw [he]
      have m := newelref01_number.mono_l
      rcases (show j = 0 ∨ j = 1 ∨ j = 2 by omega) with rfl | rfl | rfl
      · exact hk
      · exact (m k).1 _ _ _ _ _ hk
      · exact (m (k + 1)).1 _ _ _ _ _ ((m k).1 _ _ _ _ _ hk)
theorem digitOf_lt' {base : Nat} {c : UInt8} {n : Nat} (h : Tk.digitOf base c = some n) : n < base := by
  unfold Tk.digitOf at h
  obtain ⟨m, _, h⟩ := Option.bind_eq_some_iff.1 h
  split at h
  · rename_i hm
    injection h with h
    omega
  · cases h
theorem wr2 (q n : Nat) (hq : q < 16777216) (hn : n < 16) : wrap64 (wrap64 (q : Int) + (n : Int)) = ((q + n : Nat) : Int) := by unfold wrap64; omega
theorem num_few (l : List UInt8) (h1 : 1 ≤ l.length) (h6 : l.length ≤ 6) (base : Nat) (hb : base = 16 ∨ base = 10) : ∀ (d i v : Nat), i + d = l.length → v < 16 ^ i → ∃ k, newelref01_number.l0 k (Tk.bs l) (base : Int) (v : Int) (i : Int) = some (match (Tk.number base v (l.drop i)).bind fun v => if Tk.may v then some (Utf8.encode (v : Int)).data.toList else none with | some c => (Tk.bs c, true) | none => (Tk.bs [], false)) := by
  intro d
  induction d with
  | zero =>
    intro i v hi hv
    refine ⟨0 + 1, ?_⟩
    obtain rfl : i = l.length := by omega
    rw [num_end l (by omega) base v 0, List.drop_length]
    show _ = some (match (if Tk.may v then some (Utf8.encode (v : Int)).data.toList else none) with | some c => (Tk.bs c, true) | none => (Tk.bs [], false))
    by_cases hm : Tk.may v = true
    · rw [if_pos ⟨h1, h6, hm⟩, if_pos hm]
      show some (_, true) = some (Tk.bs _, true)
      rw [bs_data]
    · rw [if_neg (fun h => hm h.2.2), if_neg hm]
  | succ d ih =>
    intro i v hi hv
    have hlt : i < l.length := by omega
    have hs := num_step l (by omega) base hb i hlt (v : Int)
    have hc : l.drop i = l[i] :: l.drop (i + 1) := List.drop_eq_getElem_cons hlt
    rw [hc, Tk.number]
    cases hd : Tk.digitOf base l[i] with
    | none =>
      exact ⟨0 + 3, (hs 0).2 hd⟩
    | some n =>
      have hn := digitOf_lt' hd
      have hb16 : base ≤ 16 := by rcases hb with rfl | rfl <;> omega
      have hp : 16 ^ i ≤ 1048576 := Nat.le_trans (Nat.pow_le_pow_right (by decide) (show i ≤ 5 by omega)) (Nat.le_of_eq rfl)
      have hm1 : v * base ≤ v * 16 := Nat.mul_le_mul_left _ hb16
      have hq : v * base < 16777216 := by generalize 16 ^ i = q at *; omega
      have hv2 : v * base + n < 16 ^ (i + 1) := by rw [Nat.pow_succ]; generalize 16 ^ i = q at *; omega
      have hw : wrap64 (wrap64 ((v : Int) * (base : Int)) + (n : Int)) = ((v * base + n : Nat) : Int) := by
        have e : (v : Int) * (base : Int) = ((v * base : Nat) : Int) := (Int.natCast_mul v base).symm
        rw [e]
        exact wr2 _ _ hq (by omega)
      obtain ⟨k, hk⟩ := ih (i + 1) (v * base + n) (by clear hp hv2 hv hq; omega) hv2
      obtain ⟨j, hj, he⟩ := (hs k).1 n hd
      refine ⟨k + 3, ?_⟩
      rw [he, hw, Option.bind_some]
      have m := newelref01_number.mono_l
      rcases (show j = 0 ∨ j = 1 ∨ j = 2 by omega) with rfl | rfl | rfl
      · exact hk
      · exact (m k).1 _ _ _ _ _ hk
      · exact (m (k + 1)).1 _ _ _ _ _ ((m k).1 _ _ _ _ _ hk)
theorem number_told (l : List UInt8) (hl : l.length ≤ 1000000) (base : Nat) (hb : base = 16 ∨ base = 10) : ∃ k, newelref01_number.f k (Tk.bs l) (base : Int) = some (Tk.bs (numB base l).1, (numB base l).2) := by
  unfold newelref01_number.f numB Tk.numbered
  by_cases h0 : l = []
  · subst h0
    refine ⟨0 + 1, ?_⟩
    have := num_end [] (by simp) (base : Int) 0 0
    simp only [List.length_nil] at this
    rw [if_pos (.inl rfl)]
    exact this.trans (by rw [if_neg (by omega)])
  by_cases h6 : 6 < l.length
  · obtain ⟨k, hk⟩ := num_any l hl h6 base hb l.length 0 0 (by omega)
    rw [if_pos (.inr h6)]
    exact ⟨k, hk⟩
  have h1 : 1 ≤ l.length := by cases l with | nil => exact absurd rfl h0 | cons _ _ => simp
  obtain ⟨k, hk⟩ := num_few l h1 (by omega) base hb l.length 0 0 (by omega) (by decide)
  rw [if_neg (by rintro (h | h); exact h0 h; exact h6 h)]
  rw [List.drop_zero] at hk
  refine ⟨k, hk.trans ?_⟩
  split <;> rename_i e <;> rw [e]
theorem begins_f (l x : List UInt8) (hl : l.length ≤ 1000000) (hx : x.length ≤ 100) (p : Nat) (hp : p ≤ l.length) : newelref01_begins.f (Tk.bs l) (Tk.bs x) (p : Int) = some (x.isPrefixOf (l.drop p)) := by
  unfold newelref01_begins.f
  have hsz := bs_size l
  have hxz := bs_size x
  have hw : wrap64 ((p : Int) + (x.length : Int)) = ((p + x.length : Nat) : Int) := by unfold wrap64; omega
  rw [hsz, hxz, hw]
  by_cases h1 : p + x.length ≤ l.length
  · rw [if_pos (by omega), if_pos (by omega), if_pos (by omega), Int.toNat_natCast, Int.toNat_natCast, pre_take x l p h1, bs_toList]
    congr 1
    rw [Bool.eq_iff_iff, beq_iff_eq]
    exact (pre_iff x (l.drop p)).symm
  · rw [if_neg (by omega)]
    congr 1
    rw [eq_comm, Bool.eq_false_iff]
    intro h
    have := (List.isPrefixOf_iff_prefix.1 h).length_le
    rw [List.length_drop] at this
    omega
theorem entity_told (l : List UInt8) (hl : l.length ≤ 1000000) : ∃ k, newelref01_entity.f k (Tk.bs l) = some (Tk.bs (entV l).1, (entV l).2) := by
  have b2 := begins_f l [35, 120] hl (by decide) 0 (by omega)
  have b1 := begins_f l [35] hl (by decide) 0 (by omega)
  rw [List.drop_zero] at b1 b2
  change newelref01_begins.f (Tk.bs l) (⟨#[35, 120]⟩ : ByteArray) 0 = _ at b2
  change newelref01_begins.f (Tk.bs l) (⟨#[35]⟩ : ByteArray) 0 = _ at b1
  have hsz := bs_size l
  have nm : ∀ (c : List UInt8), Tk.named l = some c → Lib.hasPrefix l [35] = false → entV l = (c, true) := fun c h h2 => by unfold entV; rw [entV_named l h2, h]
  unfold newelref01_entity.f
  rw [bs_toList, b2, b1]
  by_cases h1 : l = [108, 116]
  · subst h1; exact ⟨0, rfl⟩
  simp only [if_neg h1]
  by_cases h2 : l = [103, 116]
  · subst h2; exact ⟨0, rfl⟩
  simp only [if_neg h2]
  by_cases h3 : l = [97, 109, 112]
  · subst h3; exact ⟨0, rfl⟩
  simp only [if_neg h3]
  by_cases h4 : l = [113, 117, 111, 116]
  · subst h4; exact ⟨0, rfl⟩
  simp only [if_neg h4]
  by_cases h5 : l = [97, 112, 111, 115]
  · subst h5; exact ⟨0, rfl⟩
  simp only [if_neg h5, Option.bind_some]
  have named0 : Tk.named l = none := by unfold Tk.named; rw [if_neg h1, if_neg h2, if_neg h3, if_neg h4, if_neg h5]
  cases hp2 : List.isPrefixOf [35, 120] l with
  | true =>
    obtain ⟨r, rfl⟩ := List.isPrefixOf_iff_prefix.1 hp2
    obtain ⟨k, hk⟩ := number_told r (by simp at hl; omega) 16 (.inl rfl)
    refine ⟨k, ?_⟩
    have e := bs_drop ([35, 120] ++ r) 2
    rw [if_pos rfl, if_pos (by rw [hsz]; simp; omega), e]
    show (newelref01_number.f k (Tk.bs r) ((16 : Nat) : Int)).bind _ = _
    rw [hk]; rfl
  | false =>
    simp only [Bool.false_eq_true, if_false, Option.bind_some]
    cases hp1 : List.isPrefixOf [35] l with
    | true =>
      obtain ⟨r, rfl⟩ := List.isPrefixOf_iff_prefix.1 hp1
      obtain ⟨k, hk⟩ := number_told r (by simp at hl; omega) 10 (.inr rfl)
      refine ⟨k, ?_⟩
      have e := bs_drop ([35] ++ r) 1
      have h120 : Lib.hasPrefix r [120] = false := by
        rw [← hp2]
        show List.isPrefixOf [120] r = List.isPrefixOf [35, 120] (35 :: r)
        simp [List.isPrefixOf]
      rw [if_pos rfl, if_pos (by rw [hsz]; simp; omega), e]
      show (newelref01_number.f k (Tk.bs r) ((10 : Nat) : Int)).bind _ = _
      rw [hk, show entV ([35] ++ r) = numB 10 r from entV_hash10 r h120]; rfl
    | false =>
      refine ⟨0, ?_⟩
      have : entV l = ([], false) := by unfold entV; rw [entV_named l hp1, named0]
      rw [if_neg (by decide), this]; rfl
theorem upto_cons_ne (y c : UInt8) (m : List UInt8) (h : c ≠ y) : Tk.upto [y] (c :: m) = (Tk.upto [y] m).map fun p => (c :: p.1, p.2) := by
  have hp : ¬ List.isPrefixOf [y] (c :: m) = true := by simp [List.isPrefixOf]; exact fun e => h e.symm
  have hi : Lib.index (c :: m) [y] = if Lib.index m [y] == -1 then -1 else Lib.index m [y] + 1 := by rw [Lib.index, if_neg hp]
  have hg := Lib.index_ge m [y]
  unfold Tk.upto
  rw [hi]
  by_cases h3 : Lib.index m [y] = -1
  · rw [h3]; rfl
  · have h4 : (Lib.index m [y] == -1) = false := by simpa using h3
    rw [h4]
    generalize Lib.index m [y] = j at *
    obtain ⟨n, rfl⟩ : ∃ n : Nat, j = (n : Int) := ⟨j.toNat, by omega⟩
    simp only [Bool.false_eq_true, if_false]
    rw [if_pos (by omega), if_pos (by omega), show ((n : Int) + 1).toNat = n + 1 by omega, Int.toNat_natCast]
    rw [Option.map_some, List.take_succ_cons]
    congr 2
theorem upto_cons_eq (y : UInt8) (m : List UInt8) : Tk.upto [y] (y :: m) = some ([], m) := by
  have hp : List.isPrefixOf [y] (y :: m) = true := by simp [List.isPrefixOf]
  have hi : Lib.index (y :: m) [y] = 0 := by rw [Lib.index, if_pos hp]
  unfold Tk.upto
  rw [hi]; rfl
theorem upto_nil (y : UInt8) : Tk.upto [y] [] = none := rfl
theorem ents_cons (n : Nat) (c : UInt8) (m : List UInt8) (h : c ≠ 38) : Tk.ents n (c :: m) = (Tk.ents n m).map (c :: ·) := by
  cases n with
  | zero => rfl
  | succ n =>
    cases hu : Tk.upto [38] m with
    | none =>
      rw [ents_none hu, ents_none (by rw [upto_cons_ne 38 c m h, hu]; rfl)]; rfl
    | some p =>
      obtain ⟨a, b⟩ := p
      have hu2 : Tk.upto [38] (c :: m) = some (c :: a, b) := by rw [upto_cons_ne 38 c m h, hu]; rfl
      cases hv : Tk.upto [59] b with
      | none => rw [ents_open hu hv, ents_open hu2 hv]; rfl
      | some q =>
        obtain ⟨nm, r⟩ := q
        rw [ents_step hu hv, ents_step hu2 hv]
        cases Tk.entity nm with
        | none => rfl
        | some t => cases Tk.ents n r <;> rfl
def nums1 (d : List UInt8) : List Int := d.map fun b => (b.toNat : Int)
theorem strOf_nums1 (d : List UInt8) : strOfNums (nums1 d) = Tk.bs d := by
  refine (strN _ d ?_).trans rfl
  unfold nums1
  rw [List.map_map]
  conv => rhs; rw [← List.map_id d]
  refine List.map_congr_left fun b _ => ?_
  show UInt8.ofNat ((b.toNat : Int)).toNat = b
  rw [Int.toNat_natCast, UInt8.ofNat_toNat]
theorem leo_ge {α : Type} {f : Nat → Option α} (h : ∀ k, LeO (f k) (f (k + 1))) {k : Nat} {r : α} (e : f k = some r) : ∀ j, f (k + j) = some r := by
  intro j
  induction j with
  | zero => exact e
  | succ j ih => exact h (k + j) r ih
theorem nums1_append (a b : List UInt8) : nums1 (a ++ b) = nums1 a ++ nums1 b := List.map_append
theorem nums1_length (a : List UInt8) : (nums1 a).length = a.length := List.length_map _
theorem bnds (i n L : Nat) (h : i + (n + 1) ≤ L) : ¬ ((i + (n + 1) : Nat) : Int) < 0 ∧ 0 ≤ ((i + 1 : Nat) : Int) ∧ ((i + 1 : Nat) : Int) ≤ ((i + (n + 1) : Nat) : Int) ∧ ((i + (n + 1) : Nat) : Int) ≤ (L : Int) := by omega
set_option maxHeartbeats 800000 in
theorem entities_loop (l : List UInt8) (hl : l.length ≤ 1000000) : ∀ (D d i : Nat) (acc : List UInt8) (n : Nat), d ≤ D → i + d = l.length → d < n → acc.length ≤ 4 * i →
    ∃ k, newelref01_Entities.l0 k (Tk.bs l) (nums1 acc) (i : Int) = some (match Tk.ents n (l.drop i) with | some t => (Tk.bs (acc ++ t), 0) | none => (Tk.bs [], 5)) := by
  have hsz := bs_size l
  intro D
  induction D with
  | zero =>
    intro d i acc n hD hi hn ha
    obtain ⟨n, rfl⟩ : ∃ m, n = m + 1 := ⟨n - 1, by omega⟩
    refine ⟨1, ?_⟩
    rw [newelref01_Entities.l0, hsz, if_neg (by omega), List.drop_eq_nil_of_le (by omega), ents_none (upto_nil 38), strOf_nums1]
    show _ = some (Tk.bs (acc ++ []), (0 : Int))
    rw [List.append_nil]
  | succ D ih =>
    intro d i acc n hD hi hn ha
    by_cases hd : d ≤ D
    · exact ih d i acc n hd hi hn ha
    obtain ⟨n, rfl⟩ : ∃ m, n = m + 1 := ⟨n - 1, by omega⟩
    have hlt : i < l.length := by omega
    have hc : l.drop i = l[i] :: l.drop (i + 1) := List.drop_eq_getElem_cons hlt
    have hA0 : acc.length + 4 < 140737488355328 := by omega
    have hw : wrap64 ((i : Int) + 1) = ((i + 1 : Nat) : Int) := by unfold wrap64; omega
    have z1 : (i : Int) < (l.length : Int) := by omega
    have z2 : 0 ≤ (i : Int) := by omega
    have hbt := bs_bt l i hlt
    have HW := Lib.hid hw
    have HA := Lib.hid hA0
    have HBT := Lib.hid hbt
    have HAL := Lib.hid (nums1_length acc)
    clear hw hA0 hbt
    by_cases h38 : l[i] = 38
    · have hu : Tk.upto [38] (l.drop i) = some ([], l.drop (i + 1)) := by rw [hc, h38]; exact upto_cons_eq 38 _
      have hu9 : Tk.upto [59] (l.drop i) = (Tk.upto [59] (l.drop (i + 1))).map fun p => (38 :: p.1, p.2) := by rw [hc, h38]; exact upto_cons_ne 59 38 _ (by decide)
      obtain ⟨kf, hkf⟩ := find_loop l [59] hl (by decide) (by decide) (l.length - i) i (by omega)
      have hf0 : newelref01_find.f kf (Tk.bs l) (⟨#[59]⟩ : ByteArray) (i : Int) = _ := hkf
      rw [hu9] at hf0
      have h38n : ((l[i].toNat : Nat) : Int) = 38 := by rw [h38]; rfl
      have HN := Lib.hid h38n
      clear h38n
      cases hv : Tk.upto [59] (l.drop (i + 1)) with
      | none =>
        rw [hv] at hf0
        have hf1 : newelref01_find.f kf (Tk.bs l) (⟨#[59]⟩ : ByteArray) (i : Int) = some (-1) := hf0
        refine ⟨kf + 1, ?_⟩
        rw [newelref01_Entities.l0, hsz, if_pos z1, if_pos z2, HBT.out, if_pos HN.out, hf1, ents_open hu hv, Option.bind_some, if_pos (by decide)]
        rfl
      | some q =>
        obtain ⟨nm, r⟩ := q
        rw [hv] at hf0
        have hf1 : newelref01_find.f kf (Tk.bs l) (⟨#[59]⟩ : ByteArray) (i : Int) = some ((i + (nm.length + 1) : Nat) : Int) := hf0
        clear hf0 hkf
        have hsum := upto_sum hv
        rw [List.length_drop] at hsum
        simp only [List.length_cons, List.length_nil] at hsum
        have hB := bnds i nm.length l.length (by omega)
        have hr : r = l.drop (i + 1 + nm.length + 1) := by
          rcases upto_at hv with h | h
          · exact h.1
          · omega
        have hnm : (l.drop (i + 1)).take nm.length = nm := by
          have hx := hv
          unfold Tk.upto at hx
          split at hx
          · injection hx with hx
            injection hx with h1 h2
            have := Lib.index_le (l.drop (i + 1)) [59]
            rw [← h1, List.length_take]
            rw [show min (Lib.index (l.drop (i + 1)) [59]).toNat (l.drop (i + 1)).length = (Lib.index (l.drop (i + 1)) [59]).toNat by omega]
          · cases hx
        have hcut : (Tk.bs l).extract (i + 1) (i + (nm.length + 1)) = Tk.bs nm := by
          rw [bs_cut, show i + (nm.length + 1) - (i + 1) = nm.length by omega, hnm]
        obtain ⟨ke, hke⟩ := entity_told nm (by omega)
        rw [ents_step hu hv]
        cases hen : Tk.entity nm with
        | none =>
          have hv2 : entV nm = ([], false) := by unfold entV; rw [hen]
          rw [hv2] at hke
          refine ⟨kf + ke + 1, ?_⟩
          have f1 := leo_ge (f := fun k => newelref01_find.f k (Tk.bs l) (⟨#[59]⟩ : ByteArray) (i : Int)) (fun k => newelref01_find.mono _ _ _ k) hf1 ke
          have f2 := leo_ge (f := fun k => newelref01_entity.f k (Tk.bs nm)) (fun k => newelref01_entity.mono _ k) hke kf
          rw [Nat.add_comm ke kf] at f2
          dsimp only at f1 f2
          rw [newelref01_Entities.l0, hsz, if_pos z1, if_pos z2, HBT.out, if_pos HN.out, f1, Option.bind_some, if_neg hB.1, HW.out, if_pos hB.2.1, if_pos hB.2.2.1, if_pos hB.2.2.2, Int.toNat_natCast, Int.toNat_natCast, hcut, f2]
          rfl
        | some c =>
          have hv2 : entV nm = (c, true) := by unfold entV; rw [hen]
          rw [hv2] at hke
          have hcl := entity_len hen
          obtain ⟨ki, hki⟩ := ih (l.length - (i + 1 + nm.length + 1)) (i + 1 + nm.length + 1) (acc ++ c) n (by omega) (by omega) (by omega) (by rw [List.length_append]; omega)
          refine ⟨kf + ke + ki + 1, ?_⟩
          have f1 := leo_ge (f := fun k => newelref01_find.f k (Tk.bs l) (⟨#[59]⟩ : ByteArray) (i : Int)) (fun k => newelref01_find.mono _ _ _ k) hf1 (ke + ki)
          have f2 := leo_ge (f := fun k => newelref01_entity.f k (Tk.bs nm)) (fun k => newelref01_entity.mono _ k) hke (kf + ki)
          have f3 := leo_ge (f := fun k => newelref01_Entities.l0 k (Tk.bs l) (nums1 (acc ++ c)) ((i + 1 + nm.length + 1 : Nat) : Int)) (fun k => newelref01_Entities.mono_l k _ _ _) hki (kf + ke)
          dsimp only at f1 f2 f3
          rw [show kf + (ke + ki) = kf + ke + ki by omega] at f1
          rw [show ke + (kf + ki) = kf + ke + ki by omega] at f2
          rw [show ki + (kf + ke) = kf + ke + ki by omega] at f3
          have hw2 : wrap64 (((i + (nm.length + 1) : Nat) : Int) + 1) = ((i + 1 + nm.length + 1 : Nat) : Int) := by unfold wrap64; omega
          have hbz := bs_size c
          have hby : bytesOf (Tk.bs c) = nums1 c := rfl
          rw [newelref01_Entities.l0, hsz, if_pos z1, if_pos z2, HBT.out, if_pos HN.out, f1, Option.bind_some, if_neg hB.1, HW.out, if_pos hB.2.1, if_pos hB.2.2.1, if_pos hB.2.2.2, Int.toNat_natCast, Int.toNat_natCast, hcut, f2, Option.bind_some]
          dsimp only
          rw [if_pos rfl, if_pos (by rw [HAL.out, hbz]; exact Nat.lt_of_le_of_lt (Nat.add_le_add_left hcl _) HA.out), hby, ← nums1_append, hw2, f3, hr]
          rw [Option.bind_some]
          cases Tk.ents n (l.drop (i + 1 + nm.length + 1)) with
          | none => rfl
          | some t => simp
    · have hn38 : ¬ ((l[i].toNat : Nat) : Int) = 38 := by
        intro h
        refine h38 ?_
        have : l[i].toNat = (38 : UInt8).toNat := by show _ = 38; omega
        exact UInt8.toNat_inj.1 this
      obtain ⟨k, hk⟩ := ih (d - 1) (i + 1) (acc ++ [l[i]]) (n + 1) (by omega) (by omega) (by omega) (by rw [List.length_append]; simp; omega)
      refine ⟨k + 1, ?_⟩
      have e1 : nums1 acc ++ [((l[i].toNat : Nat) : Int)] = nums1 (acc ++ [l[i]]) := (nums1_append acc [l[i]]).symm
      rw [newelref01_Entities.l0, hsz, if_pos z1, if_pos z2, HBT.out, if_neg hn38, if_pos (by rw [HAL.out]; exact Nat.lt_of_le_of_lt (Nat.le_add_right _ 4) HA.out), e1, HW.out, hk, hc, ents_cons _ _ _ h38]
      cases Tk.ents (n + 1) (l.drop (i + 1)) with
      | none => rfl
      | some t => simp
theorem entities_told (l : List UInt8) (hl : l.length ≤ 1000000) : ∃ k, newelref01_Entities.f k (Tk.bs l) = some (Tk.bs (entsV l).1, (entsV l).2) := by
  obtain ⟨k, hk⟩ := entities_loop l hl l.length l.length 0 [] (l.length + 1) (Nat.le_refl _) (by omega) (by omega) (by simp)
  refine ⟨k, hk.trans ?_⟩
  rw [List.drop_zero]
  unfold entsV Tk.entities
  cases Tk.ents (l.length + 1) l with
  | none => rfl
  | some t => rfl
theorem ev_eq {α : Type} {g : Nat → Option α} {r s : α} (h : Ev g r) (e : r = s) : Ev g s := e ▸ h
theorem ev_some {α : Type} {g : Nat → Option α} {r : α} (h : ∀ k, g k = some r) : Ev g r := ⟨0, fun k _ => h k⟩
def place (x l : List UInt8) (p : Nat) : Int := match Tk.upto x (l.drop p) with | some (a, _) => ((p + a.length : Nat) : Int) | none => -1
theorem find_ev (l x : List UInt8) (hl : l.length ≤ 1000000) (hx0 : x ≠ []) (hx : x.length ≤ 100) (p : Nat) (hp : p ≤ l.length) : Ev (fun k => newelref01_find.f k (Tk.bs l) (Tk.bs x) (p : Int)) (place x l p) := by
  obtain ⟨k, hk⟩ := find_loop l x hl hx0 hx (l.length - p) p (by omega)
  exact Ev.of (fun k => newelref01_find.mono _ _ _ k) hk
theorem upto_take {x l a r : List UInt8} (h : Tk.upto x l = some (a, r)) : l.take a.length = a := by
  unfold Tk.upto at h
  split at h
  · injection h with h
    injection h with h1 h2
    have := Lib.index_le l x
    rw [← h1, List.length_take]
    rw [show min (Lib.index l x).toNat l.length = (Lib.index l x).toNat by omega]
  · cases h
theorem upto_rest {x l a r : List UInt8} (h : Tk.upto x l = some (a, r)) : r = l.drop (a.length + x.length) := by
  unfold Tk.upto at h
  split at h
  · injection h with h
    injection h with h1 h2
    have := Lib.index_le l x
    rw [← h2, ← h1, List.length_take]
    rw [show min (Lib.index l x).toNat l.length = (Lib.index l x).toNat by omega]
  · cases h
def uptoR (l x : List UInt8) (p q : Nat) : ByteArray × Bool × ByteArray × Int := match Tk.upto x (l.drop q) with
  | some (a, _) => (Tk.bs a, true, Tk.bs l, ((q + a.length + x.length : Nat) : Int))
  | none => (Tk.bs [], false, Tk.bs l, (p : Int))
theorem upto_ev (l x : List UInt8) (hl : l.length ≤ 1000000) (hx0 : x ≠ []) (hx : x.length ≤ 100) (p q : Nat) (hq : q ≤ l.length) : Ev (fun k => newelref01_walk_upto.f k (Tk.bs l) (p : Int) (q : Int) (Tk.bs x)) (uptoR l x p q) := by
  unfold newelref01_walk_upto.f uptoR
  refine Ev.bind (find_ev l x hl hx0 hx q hq) ?_
  unfold place
  have hsz := bs_size l
  have hxz := bs_size x
  cases hu : Tk.upto x (l.drop q) with
  | none => exact ev_some fun k => rfl
  | some z =>
    obtain ⟨a, r⟩ := z
    have hs := upto_sum hu
    rw [List.length_drop] at hs
    have ht := upto_take hu
    dsimp only
    have hw : wrap64 (((q + a.length : Nat) : Int) + (x.length : Int)) = ((q + a.length + x.length : Nat) : Int) := by unfold wrap64; omega
    refine ev_some fun k => ?_
    rw [hsz, hxz, hw, if_neg (by omega), if_pos (by omega), if_pos (by omega), if_pos (by omega), Int.toNat_natCast, Int.toNat_natCast, bs_cut, show q + a.length - q = a.length by omega, ht]
theorem skip_drop (l : List UInt8) : Tk.skip l = l.drop (l.takeWhile Tk.space).length := by
  unfold Tk.skip
  conv => rhs; arg 2; rw [← List.takeWhile_append_dropWhile (p := Tk.space) (l := l)]
  rw [List.drop_left]
theorem spaces_loop (l : List UInt8) (hl : l.length ≤ 1000000) (p : Nat) : ∀ (d i : Nat), i + d = l.length → p ≤ i → Ev (fun k => newelref01_walk_spaces.l0 k (p : Int) (Tk.bs l) (i : Int)) ((((i - p + ((l.drop i).takeWhile Tk.space).length : Nat) : Int)), Tk.bs l, ((i + ((l.drop i).takeWhile Tk.space).length : Nat) : Int)) := by
  have hsz := bs_size l
  intro d
  induction d with
  | zero =>
    intro i hi hp
    have hw : wrap64 ((i : Int) - (p : Int)) = ((i - p : Nat) : Int) := by unfold wrap64; omega
    refine Ev.step (f := fun _ => some _) (fun k => ?_) (Ev.now _)
    rw [newelref01_walk_spaces.l0, hsz, if_neg (by omega), hw, List.drop_eq_nil_of_le (by omega)]
    rfl
  | succ d ih =>
    intro i hi hp
    have hlt : i < l.length := by omega
    have hw : wrap64 ((i : Int) - (p : Int)) = ((i - p : Nat) : Int) := by unfold wrap64; omega
    have hw1 : wrap64 ((i : Int) + 1) = ((i + 1 : Nat) : Int) := by unfold wrap64; omega
    have hc : l.drop i = l[i] :: l.drop (i + 1) := List.drop_eq_getElem_cons hlt
    have hb := bs_bt l i hlt
    cases hsp : Tk.space l[i] with
    | true =>
      refine ev_eq (Ev.step (fun k => ?_) (ih (i + 1) (by omega) (by omega))) ?_
      · rw [newelref01_walk_spaces.l0, hsz, if_pos (by omega), if_pos (by omega), hb, ref_space, hsp, Option.bind_some, if_pos rfl, hw1]
      · rw [hc, List.takeWhile_cons, if_pos hsp, List.length_cons]
        congr 1
        · congr 1; omega
        · congr 2; omega
    | false =>
      refine Ev.step (f := fun _ => some _) (fun k => ?_) (Ev.now _)
      rw [newelref01_walk_spaces.l0, hsz, if_pos (by omega), if_pos (by omega), hb, ref_space, hsp, Option.bind_some, if_neg (by decide), hw, hc, List.takeWhile_cons, if_neg (by rw [hsp]; decide)]
      rfl
theorem spaces_ev (l : List UInt8) (hl : l.length ≤ 1000000) (p : Nat) (hp : p ≤ l.length) : Ev (fun k => newelref01_walk_spaces.f k (Tk.bs l) (p : Int)) (((((l.drop p).takeWhile Tk.space).length : Nat) : Int), Tk.bs l, ((p + ((l.drop p).takeWhile Tk.space).length : Nat) : Int)) := by
  unfold newelref01_walk_spaces.f
  refine ev_eq (spaces_loop l hl p (l.length - p) p (by omega) (Nat.le_refl _)) ?_
  rw [Nat.sub_self, Nat.zero_add]
theorem head_name (x r : List UInt8) (h : r.takeWhile Tk.within = x) : (if nameB x = true then Tk.bs x else Tk.bs []) = Tk.bs (Tk.head r) := by
  rw [head_tw, h]
  cases x with
  | nil => rfl
  | cons c q =>
    show (if Tk.letter c = true then _ else _) = Tk.bs (if Tk.letter c = true then c :: q else [])
    split <;> rfl
theorem name_loop (l : List UInt8) (hl : l.length ≤ 1000000) (p : Nat) : ∀ (d i : Nat), i + d = l.length → p ≤ i → ((l.drop p).take (i - p)).all Tk.within = true → Ev (fun k => newelref01_walk_name.l0 k (p : Int) (Tk.bs l) (i : Int)) (Tk.bs (Tk.head (l.drop p)), Tk.bs l, ((p + ((l.drop p).takeWhile Tk.within).length : Nat) : Int)) := by
  have hsz := bs_size l
  have last : ∀ i, i ≤ l.length → p ≤ i → (l.drop p).takeWhile Tk.within = (l.drop p).take (i - p) → Ev (fun k => if 0 ≤ (p : Int) then (if (p : Int) ≤ (i : Int) then (if (i : Int) ≤ ((Tk.bs l).size : Int) then ((newelref01_Name.f k ((Tk.bs l).extract ((p : Int)).toNat ((i : Int)).toNat)).bind fun t273 => (if t273 = true then (some ((Tk.bs l).extract ((p : Int)).toNat ((i : Int)).toNat, Tk.bs l, (i : Int))) else (some ((⟨#[]⟩ : ByteArray), Tk.bs l, (i : Int))))) else (none)) else (none)) else (none)) (Tk.bs (Tk.head (l.drop p)), Tk.bs l, ((p + ((l.drop p).takeWhile Tk.within).length : Nat) : Int)) := by
    intro i hi hp ht
    have hlen : (l.drop p).length = l.length - p := List.length_drop
    obtain ⟨kn, hkn⟩ := name_told ((l.drop p).take (i - p)) (by rw [List.length_take]; omega) (by rw [← ht]; exact tw_all _)
    have hev := Ev.of (fun k => newelref01_Name.mono _ k) hkn
    refine ev_eq (Ev.congr (fun k => ?_) (Ev.bind hev (f := fun _ b => some (if b = true then Tk.bs ((l.drop p).take (i - p)) else Tk.bs [], Tk.bs l, (i : Int))) (Ev.now _))) ?_
    · rw [if_pos (by omega), if_pos (by omega), if_pos (by rw [hsz]; omega), Int.toNat_natCast, Int.toNat_natCast, bs_cut]
      congr 1
      funext b
      cases b <;> rfl
    · rw [head_name _ _ ht, ht, List.length_take, hlen, show p + min (i - p) (l.length - p) = i by omega]
  intro d
  induction d with
  | zero =>
    intro i hi hp ha
    refine Ev.step (fun k => ?_) (last i (by omega) hp ?_)
    · rw [newelref01_walk_name.l0, hsz, if_neg (by omega)]
    · have : (l.drop p).take (i - p) = l.drop p := List.take_of_length_le (by rw [List.length_drop]; omega)
      rw [this] at ha ⊢
      have h2 := List.takeWhile_append_of_pos (p := Tk.within) (l₂ := []) (fun x hx => List.all_eq_true.1 ha x hx)
      simpa using h2
  | succ d ih =>
    intro i hi hp ha
    have hlt : i < l.length := by omega
    have hw1 : wrap64 ((i : Int) + 1) = ((i + 1 : Nat) : Int) := by unfold wrap64; omega
    have hb := bs_bt l i hlt
    have hgi : (l.drop p)[i - p]? = some l[i] := by rw [List.getElem?_drop, show p + (i - p) = i by omega, List.getElem?_eq_getElem hlt]
    cases hsp : Tk.within l[i] with
    | true =>
      refine Ev.step (fun k => ?_) (ih (i + 1) (by omega) (by omega) ?_)
      · rw [newelref01_walk_name.l0, hsz, if_pos (by omega), if_pos (by omega), hb, ref_within, hsp, Option.bind_some, if_pos rfl, hw1]
      · rw [show i + 1 - p = i - p + 1 by omega, List.take_add_one, hgi, List.all_append, ha]
        simp [hsp]
    | false =>
      refine Ev.step (fun k => ?_) (last i (by omega) hp ?_)
      · rw [newelref01_walk_name.l0, hsz, if_pos (by omega), if_pos (by omega), hb, ref_within, hsp, Option.bind_some, if_neg (by decide)]
      · have hd : l.drop p = (l.drop p).take (i - p) ++ l[i] :: l.drop (i + 1) := by
          conv => lhs; rw [← List.take_append_drop (i - p) (l.drop p), List.drop_drop, show p + (i - p) = i by omega, List.drop_eq_getElem_cons hlt]
        conv => lhs; rw [hd]
        rw [List.takeWhile_append_of_pos (fun x hx => List.all_eq_true.1 ha x hx), List.takeWhile_cons, if_neg (by rw [hsp]; decide), List.append_nil]
theorem name_ev (l : List UInt8) (hl : l.length ≤ 1000000) (p : Nat) (hp : p ≤ l.length) : Ev (fun k => newelref01_walk_name.f k (Tk.bs l) (p : Int)) (Tk.bs (Tk.head (l.drop p)), Tk.bs l, ((p + ((l.drop p).takeWhile Tk.within).length : Nat) : Int)) := by
  unfold newelref01_walk_name.f
  exact name_loop l hl p (l.length - p) p (by omega) (Nat.le_refl _) (by rw [Nat.sub_self]; rfl)
theorem behind_at {x m r : List UInt8} (h : Tk.behind x m = some r) : x.isPrefixOf m = true ∧ r = m.drop x.length := by
  unfold Tk.behind at h
  split at h
  · rename_i hp
    injection h with h
    exact ⟨hp, h.symm⟩
  · cases h
theorem behind_no {x m : List UInt8} (h : Tk.behind x m = none) : x.isPrefixOf m = false := by
  unfold Tk.behind at h
  split at h
  · cases h
  · rename_i hp
    exact Bool.eq_false_iff.2 hp
theorem place0 (x a : List UInt8) : (0 ≤ place x a 0) ↔ 0 ≤ Lib.index a x := by
  unfold place
  rw [List.drop_zero]
  unfold Tk.upto
  by_cases h : 0 ≤ Lib.index a x
  · rw [if_pos h]; exact ⟨fun _ => h, fun _ => by dsimp only; omega⟩
  · rw [if_neg h]; exact ⟨fun h2 => absurd h2 (by decide), fun h2 => absurd h2 h⟩
theorem find0_ev (a x : List UInt8) (ha : a.length ≤ 1000000) (hx0 : x ≠ []) (hx : x.length ≤ 100) : Ev (fun k => newelref01_find.f k (Tk.bs a) (Tk.bs x) 0) (place x a 0) := find_ev a x ha hx0 hx 0 (Nat.zero_le _)
theorem ents_ev (a : List UInt8) (ha : a.length ≤ 1000000) : Ev (fun k => newelref01_Entities.f k (Tk.bs a)) (Tk.bs (entsV a).1, (entsV a).2) := by
  obtain ⟨k, hk⟩ := entities_told a ha
  exact Ev.of (fun k => newelref01_Entities.mono _ k) hk
theorem ents_some {a v : List UInt8} (h : Tk.entities a = some v) : entsV a = (v, 0) := by unfold entsV; rw [h]
theorem ents_no {a : List UInt8} (h : Tk.entities a = none) : (entsV a).2 = 5 := by unfold entsV; rw [h]
def valueM (q : UInt8) (r : List UInt8) : Option (List UInt8 × List UInt8) := (Tk.upto [q] r).bind fun p => if 0 ≤ Lib.index p.1 [60] then none else (Tk.entities p.1).map fun v => (v, p.2)
theorem value_cons (c : UInt8) (m : List UInt8) : Tk.value (c :: m) = if c = 34 ∨ c = 39 then valueM c m else none := by
  unfold Tk.value valueM
  by_cases h1 : c = 34
  · subst h1
    conv => rhs; rw [if_pos (Or.inl rfl)]
    have e1 : List.isPrefixOf [34] (34 :: m) = true := rfl
    have e2 : Tk.behind [34] (34 :: m) = some m := by unfold Tk.behind; rw [if_pos e1]; rfl
    simp only [e1, if_true, e2, Option.bind_some]
  · have e1 : List.isPrefixOf [34] (c :: m) = false := by simp [List.isPrefixOf, Ne.symm h1]
    simp only [e1, Bool.false_eq_true, if_false]
    by_cases h2 : c = 39
    · subst h2
      conv => rhs; rw [if_pos (Or.inr rfl)]
      have e3 : Tk.behind [39] (39 :: m) = some m := rfl
      simp only [e3, Option.bind_some]
    · rw [if_neg (fun h => h.elim h1 h2)]
      have e3 : List.isPrefixOf [39] (c :: m) = false := by simp [List.isPrefixOf, Ne.symm h2]
      have e4 : Tk.behind [39] (c :: m) = none := by unfold Tk.behind; rw [if_neg (by rw [e3]; decide)]
      rw [e4]; rfl
theorem value_nil : Tk.value [] = none := rfl
theorem bt_is (l : List UInt8) (p : Nat) (h : p < l.length) (c : UInt8) (n : Int) (hn : n = (c.toNat : Int)) : bt (Tk.bs l) (p : Int) = n ↔ l[p] = c := by
  rw [bs_bt l p h, hn]
  constructor
  · intro e; exact UInt8.toNat_inj.1 (by omega)
  · intro e; rw [e]
def ValueTold (l : List UInt8) (p : Nat) : Prop := match Tk.value (l.drop p) with
  | some (v, r) => ∃ p', p' ≤ l.length ∧ l.drop p' = r ∧ Ev (fun k => newelref01_walk_value.f k (Tk.bs l) (p : Int)) (Tk.bs v, true, Tk.bs l, (p' : Int))
  | none => ∃ v b p', Ev (fun k => newelref01_walk_value.f k (Tk.bs l) (p : Int)) (v, false, b, p')
theorem value_ev (l : List UInt8) (hl : l.length ≤ 1000000) (p : Nat) (hp : p ≤ l.length) : ValueTold l p := by
  have hsz := bs_size l
  unfold ValueTold
  by_cases hlt : p < l.length
  · have hc : l.drop p = l[p] :: l.drop (p + 1) := List.drop_eq_getElem_cons hlt
    have b34 := bt_is l p hlt 34 34 rfl
    have b39 := bt_is l p hlt 39 39 rfl
    have hw1 : wrap64 ((p : Int) + 1) = ((p + 1 : Nat) : Int) := by unfold wrap64; omega
    rw [hc, value_cons]
    by_cases hq : l[p] = 34 ∨ l[p] = 39
    · rw [if_pos hq]
      have j0 : ∀ r, Ev (fun k => (newelref01_walk_upto.f k (Tk.bs l) (p : Int) ((p + 1 : Nat) : Int) (Tk.bs [l[p]])).bind fun bt321 => (if bt321.2.1 = true then ((newelref01_find.f k bt321.1 (⟨#[60]⟩ : ByteArray) 0).bind fun t325 => (if t325 ≥ 0 then (some ((⟨#[]⟩ : ByteArray), false, bt321.2.2.1, bt321.2.2.2)) else ((newelref01_Entities.f k bt321.1).bind fun bt326 => (some (bt326.1, (bt326.2 == 0), bt321.2.2.1, bt321.2.2.2))))) else (some ((⟨#[]⟩ : ByteArray), false, bt321.2.2.1, bt321.2.2.2)))) r → Ev (fun k => newelref01_walk_value.f k (Tk.bs l) (p : Int)) r := by
        intro r h
        refine Ev.step (fun k => ?_) h
        have hcut : (Tk.bs l).extract p (p + 1) = Tk.bs [l[p]] := by rw [bs_cut, show p + 1 - p = 1 by omega, hc]; rfl
        have hj : newelref01_walk_value.f (k + 1) (Tk.bs l) (p : Int) = newelref01_walk_value.j0 (k + 1) false (Tk.bs l) (p : Int) := by
          unfold newelref01_walk_value.f
          rw [hsz, if_neg (by omega), if_pos (by omega), if_pos (by omega)]
          by_cases h1 : l[p] = 34
          · rw [if_pos (b34.2 h1)]
          · rw [if_neg (fun h => h1 (b34.1 h)), b39.2 (hq.resolve_left h1)]; rfl
        rw [hj, newelref01_walk_value.j0, hw1, hsz, if_neg (by decide), if_pos (by omega), if_pos (by omega), if_pos (by omega), Int.toNat_natCast, Int.toNat_natCast, hcut]
      have hu := upto_ev l [l[p]] hl (by simp) (by simp) p (p + 1) (by omega)
      unfold uptoR at hu
      unfold valueM
      cases hup : Tk.upto [l[p]] (l.drop (p + 1)) with
      | none =>
        rw [hup] at hu
        exact ⟨⟨#[]⟩, Tk.bs l, (p : Int), j0 _ (Ev.bind hu (ev_some fun k => rfl))⟩
      | some z =>
        obtain ⟨a, r⟩ := z
        rw [hup] at hu
        have hs := upto_sum hup
        rw [List.length_drop] at hs
        simp only [List.length_cons, List.length_nil] at hs
        have hr := upto_rest hup
        have ha : a.length ≤ 1000000 := by omega
        rw [Option.bind_some]
        have hf := find0_ev a [60] ha (by simp) (by simp)
        have hf : Ev (fun k => newelref01_find.f k (Tk.bs a) (⟨#[60]⟩ : ByteArray) 0) (place [60] a 0) := hf
        by_cases hix : 0 ≤ Lib.index a [60]
        · rw [if_pos hix]
          have hpl := (place0 [60] a).2 hix
          refine ⟨⟨#[]⟩, Tk.bs l, ((p + 1 + a.length + [l[p]].length : Nat) : Int), j0 _ (Ev.bind hu ?_)⟩
          refine Ev.congr (fun k => if_pos rfl) (Ev.bind hf (ev_some fun k => if_pos hpl))
        · rw [if_neg hix]
          have hpl : ¬ place [60] a 0 ≥ 0 := fun h => hix ((place0 [60] a).1 h)
          have hfin := fun r2 (h : Ev (fun k => (newelref01_Entities.f k (Tk.bs a)).bind fun bt326 => some (bt326.1, (bt326.2 == 0), Tk.bs l, ((p + 1 + a.length + [l[p]].length : Nat) : Int))) r2) => j0 r2 (Ev.bind hu (Ev.congr (fun k => if_pos rfl) (Ev.bind hf (Ev.congr (fun k => if_neg hpl) h))))
          cases he : Tk.entities a with
          | none =>
            refine ⟨Tk.bs (entsV a).1, Tk.bs l, ((p + 1 + a.length + [l[p]].length : Nat) : Int), hfin _ (ev_eq (Ev.bind (ents_ev a ha) (Ev.now _)) ?_)⟩
            dsimp only
            rw [ents_no he]
            rfl
          | some v =>
            have := ents_some he
            refine ⟨p + 1 + a.length + 1, by omega, ?_, hfin _ (ev_eq (Ev.bind (ents_ev a ha) (Ev.now _)) ?_)⟩
            · rw [hr, List.drop_drop]
              rfl
            · rw [this]; rfl
    · rw [if_neg hq]
      refine ⟨⟨#[]⟩, Tk.bs l, (p : Int), Ev.step (f := fun _ => some _) (fun k => ?_) (Ev.now _)⟩
      unfold newelref01_walk_value.f
      have n39 : (bt (Tk.bs l) (p : Int) != 39) = true := bne_iff_ne.2 fun h => hq (.inr (b39.1 h))
      rw [hsz, if_neg (by omega), if_pos (by omega), if_pos (by omega), if_neg (fun h => hq (.inl (b34.1 h))), n39, newelref01_walk_value.j0, if_pos rfl]
  · rw [List.drop_eq_nil_of_le (by omega), value_nil]
    refine ⟨⟨#[]⟩, Tk.bs l, (p : Int), Ev.step (f := fun _ => some _) (fun k => ?_) (Ev.now _)⟩
    unfold newelref01_walk_value.f
    rw [hsz, if_pos (by omega), newelref01_walk_value.j0, if_pos rfl]
theorem begins_ev (l x : List UInt8) (hl : l.length ≤ 1000000) (hx : x.length ≤ 100) (p : Nat) (hp : p ≤ l.length) : newelref01_begins.f (Tk.bs l) (Tk.bs x) (p : Int) = some (x.isPrefixOf (l.drop p)) := begins_f l x hl hx p hp
theorem pre_room {x l : List UInt8} {p : Nat} (h : x.isPrefixOf (l.drop p) = true) : p + x.length ≤ l.length ∨ x = [] := by
  have := (List.isPrefixOf_iff_prefix.1 h).length_le
  rw [List.length_drop] at this
  cases x with
  | nil => exact .inr rfl
  | cons c q => left; simp only [List.length_cons] at this ⊢; omega
def AttrTold (l : List UInt8) (p : Nat) : Prop := match Tk.attr (l.drop p) with
  | some (a, r) => ∃ p', p' ≤ l.length ∧ l.drop p' = r ∧ Ev (fun k => newelref01_walk_attr.f k (Tk.bs l) (p : Int)) (a.f0, a.f1, true, Tk.bs l, (p' : Int))
  | none => ∃ n v b p', Ev (fun k => newelref01_walk_attr.f k (Tk.bs l) (p : Int)) (n, v, false, b, p')
theorem attr_ev (l : List UInt8) (hl : l.length ≤ 1000000) (p : Nat) (hp : p ≤ l.length) : AttrTold l p := by
  unfold AttrTold Tk.attr
  have hn := name_ev l hl p hp
  have htw := tw_le (p := Tk.within) (l.drop p)
  rw [List.length_drop] at htw
  obtain ⟨n1, hn1⟩ : ∃ n1, n1 = ((l.drop p).takeWhile Tk.within).length := ⟨_, rfl⟩
  rw [← hn1] at hn htw
  have hs := spaces_ev l hl (p + n1) (by omega)
  have htw2 := tw_le (p := Tk.space) (l.drop (p + n1))
  rw [List.length_drop] at htw2
  obtain ⟨n2, hn2⟩ : ∃ n2, n2 = ((l.drop (p + n1)).takeWhile Tk.space).length := ⟨_, rfl⟩
  rw [← hn2] at hs htw2
  have j1 : ∀ r, Ev (fun k => if (Tk.bs (Tk.head (l.drop p))).toList = ([] : List UInt8) then (newelref01_walk_attr.j0 k true (Tk.bs l) ((p + n1 + n2 : Nat) : Int) (Tk.bs (Tk.head (l.drop p))) (⟨#[]⟩ : ByteArray)) else ((newelref01_begins.f (Tk.bs l) (⟨#[61]⟩ : ByteArray) ((p + n1 + n2 : Nat) : Int)).bind fun t336 => (newelref01_walk_attr.j0 k (!t336) (Tk.bs l) ((p + n1 + n2 : Nat) : Int) (Tk.bs (Tk.head (l.drop p))) (⟨#[]⟩ : ByteArray)))) r → Ev (fun k => newelref01_walk_attr.f k (Tk.bs l) (p : Int)) r := by
    intro r h
    unfold newelref01_walk_attr.f
    exact Ev.bind hn (Ev.bind hs h)
  by_cases hh : Tk.head (l.drop p) = []
  · rw [if_pos hh]
    refine ⟨Tk.bs (Tk.head (l.drop p)), ⟨#[]⟩, Tk.bs l, ((p + n1 + n2 : Nat) : Int), j1 _ (Ev.step (f := fun _ => some _) (fun k => ?_) (Ev.now _))⟩
    rw [if_pos (by rw [bs_toList, hh]), newelref01_walk_attr.j0, if_pos rfl]
  · rw [if_neg hh]
    have hd1 : l.drop (p + n1) = (l.drop p).drop (Tk.head (l.drop p)).length := by rw [List.drop_drop, head_len_tw hh, hn1]
    have hd2 : l.drop (p + n1 + n2) = Tk.skip ((l.drop p).drop (Tk.head (l.drop p)).length) := by rw [skip_drop, ← hd1, List.drop_drop, hn2]
    have hb := begins_ev l [61] hl (by simp) (p + n1 + n2) (by omega)
    rw [← hd2]
    have j2 : ∀ r, Ev (fun k => newelref01_walk_attr.j0 k (!List.isPrefixOf [61] (l.drop (p + n1 + n2))) (Tk.bs l) ((p + n1 + n2 : Nat) : Int) (Tk.bs (Tk.head (l.drop p))) (⟨#[]⟩ : ByteArray)) r → Ev (fun k => newelref01_walk_attr.f k (Tk.bs l) (p : Int)) r := by
      intro r h
      refine j1 r (Ev.congr (fun k => ?_) h)
      rw [if_neg (by rw [bs_toList]; exact hh), show (⟨#[61]⟩ : ByteArray) = Tk.bs [61] from rfl, hb, Option.bind_some]
    cases hbe : Tk.behind [61] (l.drop (p + n1 + n2)) with
    | none =>
      have := behind_no hbe
      refine ⟨Tk.bs (Tk.head (l.drop p)), ⟨#[]⟩, Tk.bs l, ((p + n1 + n2 : Nat) : Int), j2 _ (Ev.step (f := fun _ => some _) (fun k => ?_) (Ev.now _))⟩
      rw [this]
      show newelref01_walk_attr.j0 (k + 1) true _ _ _ _ = _
      rw [newelref01_walk_attr.j0, if_pos rfl]
    | some r0 =>
      obtain ⟨hpre, hr0⟩ := behind_at hbe
      have hroom := (pre_room hpre).resolve_right (by simp)
      simp only [List.length_cons, List.length_nil] at hroom
      have hw1 : wrap64 (((p + n1 + n2 : Nat) : Int) + 1) = ((p + n1 + n2 + 1 : Nat) : Int) := by unfold wrap64; omega
      have hs3 := spaces_ev l hl (p + n1 + n2 + 1) (by omega)
      have htw3 := tw_le (p := Tk.space) (l.drop (p + n1 + n2 + 1))
      rw [List.length_drop] at htw3
      obtain ⟨n3, hn3⟩ : ∃ n3, n3 = ((l.drop (p + n1 + n2 + 1)).takeWhile Tk.space).length := ⟨_, rfl⟩
      rw [← hn3] at hs3 htw3
      have hd3 : l.drop (p + n1 + n2 + 1 + n3) = Tk.skip r0 := by
        have hr0' : r0 = l.drop (p + n1 + n2 + 1) := by rw [hr0, List.drop_drop]; rfl
        rw [skip_drop, hr0', List.drop_drop, ← hn3]
      have hv := value_ev l hl (p + n1 + n2 + 1 + n3) (by omega)
      unfold ValueTold at hv
      rw [hd3] at hv
      rw [Option.bind_some]
      have j3 : ∀ r, Ev (fun k => (newelref01_walk_value.f k (Tk.bs l) ((p + n1 + n2 + 1 + n3 : Nat) : Int)).bind fun bt340 => (some (Tk.bs (Tk.head (l.drop p)), bt340.1, bt340.2.1, bt340.2.2.1, bt340.2.2.2))) r → Ev (fun k => newelref01_walk_attr.f k (Tk.bs l) (p : Int)) r := by
        intro r h
        refine j2 r (Ev.step (f := fun k => (newelref01_walk_spaces.f k (Tk.bs l) ((p + n1 + n2 + 1 : Nat) : Int)).bind fun bt337 => (newelref01_walk_value.f k bt337.2.1 bt337.2.2).bind fun bt340 => some (Tk.bs (Tk.head (l.drop p)), bt340.1, bt340.2.1, bt340.2.2.1, bt340.2.2.2)) (fun k => ?_) (Ev.bind hs3 h))
        rw [hpre]
        show newelref01_walk_attr.j0 (k + 1) false _ _ _ _ = _
        rw [newelref01_walk_attr.j0, if_neg (by decide), hw1]
      cases hva : Tk.value (Tk.skip r0) with
      | none =>
        rw [hva] at hv
        obtain ⟨v, b, p', hv⟩ := hv
        exact ⟨_, _, _, _, j3 _ (Ev.bind hv (Ev.now _))⟩
      | some z =>
        obtain ⟨v, r⟩ := z
        rw [hva] at hv
        obtain ⟨p', h1, h2, hv⟩ := hv
        exact ⟨p', h1, h2, j3 _ (Ev.bind hv (Ev.now _))⟩
abbrev TokR := Int × ByteArray × ByteArray × List S39 × Bool × Bool × ByteArray × Int
def tokR (l : List UInt8) (t : S32) (p : Nat) : TokR := (t.f0, t.f1, t.f2, t.f3, t.f4, true, Tk.bs l, (p : Int))
def Told (l : List UInt8) (g : Nat → Option TokR) (o : Option (S32 × List UInt8)) : Prop := match o with
  | some (t, r) => ∃ p', p' ≤ l.length ∧ l.drop p' = r ∧ Ev g (tokR l t p')
  | none => ∃ a b c d e s p', Ev g (a, b, c, d, e, false, s, p')
theorem Told.no {l : List UInt8} {g : Nat → Option TokR} {r : TokR} (h : Ev g r) (hr : r.2.2.2.2.2.1 = false) : Told l g none := by
  obtain ⟨a, b, c, d, e, f, s, p⟩ := r
  obtain rfl : f = false := hr
  exact ⟨a, b, c, d, e, s, p, h⟩
theorem Told.imp {l : List UInt8} {g g2 : Nat → Option TokR} {o : Option (S32 × List UInt8)} (h : Told l g o) (hg : ∀ r, Ev g r → Ev g2 r) : Told l g2 o := by
  cases o with
  | none => obtain ⟨a, b, c, d, e, s, p, h⟩ := h; exact ⟨a, b, c, d, e, s, p, hg _ h⟩
  | some z => obtain ⟨p, h1, h2, h⟩ := h; exact ⟨p, h1, h2, hg _ h⟩
theorem dup_loop (l : List UInt8) (q : Int) (nm n v : ByteArray) (ys : List S39) (hy : ys.length ≤ 1000000) (e : Bool) : ∀ (d i : Nat), i + d = ys.length → (ys.take i).any (fun x => x.f0.toList == n.toList) = false → ∀ r, (if ys.any (fun x => x.f0.toList == n.toList) then Ev (fun _ => some (1, nm, (⟨#[]⟩ : ByteArray), ys, e, false, Tk.bs l, q)) r else Ev (fun k => newelref01_walk_open.l0 k (Tk.bs l) q 1 nm (⟨#[]⟩ : ByteArray) (ys ++ [⟨n, v⟩]) e) r) → Ev (fun k => newelref01_walk_open.l1 k (i : Int) (Tk.bs l) q 1 nm (⟨#[]⟩ : ByteArray) ys e n v) r := by
  intro d
  induction d with
  | zero =>
    intro i hi ha r h
    rw [List.take_of_length_le (by omega)] at ha
    rw [ha, if_neg (by decide)] at h
    refine Ev.step (fun k => ?_) h
    rw [newelref01_walk_open.l1, if_neg (by omega), if_pos (by omega)]
  | succ d ih =>
    intro i hi ha r h
    have hlt : i < ys.length := by omega
    have hw1 : wrap64 ((i : Int) + 1) = ((i + 1 : Nat) : Int) := by unfold wrap64; omega
    have hrd : rd_T39 ys (i : Int) = ys[i] := by unfold rd_T39; rw [Int.toNat_natCast]; simp [List.getD, hlt]
    by_cases hn : (ys[i].f0.toList == n.toList) = true
    · have hany : ys.any (fun x => x.f0.toList == n.toList) = true := List.any_eq_true.2 ⟨ys[i], List.getElem_mem hlt, hn⟩
      rw [hany, if_pos rfl] at h
      refine Ev.step (fun k => ?_) h
      rw [newelref01_walk_open.l1, if_pos (by omega), if_pos (by omega), hrd, if_pos (beq_iff_eq.1 hn)]
    · refine Ev.step (fun k => ?_) (ih (i + 1) (by omega) ?_ r h)
      · rw [newelref01_walk_open.l1, if_pos (by omega), if_pos (by omega), hrd, if_neg (fun h2 => hn (beq_iff_eq.2 h2)), hw1]
      · rw [List.take_add_one, List.any_append, ha, List.getElem?_eq_getElem hlt]
        simpa using hn
theorem attrs_ev (l : List UInt8) (hl : l.length ≤ 1000000) (nm : List UInt8) (hnm : nm ≠ []) : ∀ (n p : Nat) (ys : List S39), p ≤ l.length → l.length - p < n → ys.length ≤ p → Told l (fun k => newelref01_walk_open.l0 k (Tk.bs l) (p : Int) 1 (Tk.bs nm) (⟨#[]⟩ : ByteArray) ys false) (Tk.attrs n nm ys (l.drop p)) := by
  intro n
  induction n with
  | zero => intro p ys _ h; omega
  | succ n ih =>
    intro p ys hp hn hys
    have hs := spaces_ev l hl p hp
    have htw := tw_le (p := Tk.space) (l.drop p)
    rw [List.length_drop] at htw
    obtain ⟨n2, hn2⟩ : ∃ n2, n2 = ((l.drop p).takeWhile Tk.space).length := ⟨_, rfl⟩
    rw [← hn2] at hs htw
    have hd : Tk.skip (l.drop p) = l.drop (p + n2) := by rw [skip_drop, List.drop_drop, hn2]
    have hb1 := begins_ev l [62] hl (by simp) (p + n2) (by omega)
    have hb2 := begins_ev l [47, 62] hl (by simp) (p + n2) (by omega)
    have hb1 : newelref01_begins.f (Tk.bs l) (⟨#[62]⟩ : ByteArray) ((p + n2 : Nat) : Int) = _ := hb1
    have hb2 : newelref01_begins.f (Tk.bs l) (⟨#[47, 62]⟩ : ByteArray) ((p + n2 : Nat) : Int) = _ := hb2
    have j1 : ∀ r, Ev (fun k => (newelref01_begins.f (Tk.bs l) (⟨#[62]⟩ : ByteArray) ((p + n2 : Nat) : Int)).bind fun t352 => (if t352 = true then (some (1, Tk.bs nm, (⟨#[]⟩ : ByteArray), ys, false, true, Tk.bs l, wrap64 (((p + n2 : Nat) : Int) + 1))) else ((newelref01_begins.f (Tk.bs l) (⟨#[47, 62]⟩ : ByteArray) ((p + n2 : Nat) : Int)).bind fun t353 => (if t353 = true then (some (1, Tk.bs nm, (⟨#[]⟩ : ByteArray), ys, true, true, Tk.bs l, wrap64 (((p + n2 : Nat) : Int) + 2))) else (if (n2 : Int) = 0 then (some (1, Tk.bs nm, (⟨#[]⟩ : ByteArray), ys, false, false, Tk.bs l, ((p + n2 : Nat) : Int))) else ((newelref01_walk_attr.f k (Tk.bs l) ((p + n2 : Nat) : Int)).bind fun bt354 => (if bt354.2.2.1 = true then (newelref01_walk_open.l1 k 0 bt354.2.2.2.1 bt354.2.2.2.2 1 (Tk.bs nm) (⟨#[]⟩ : ByteArray) ys false bt354.1 bt354.2.1) else (some (1, Tk.bs nm, (⟨#[]⟩ : ByteArray), ys, false, false, bt354.2.2.2.1, bt354.2.2.2.2))))))))) r → Ev (fun k => newelref01_walk_open.l0 k (Tk.bs l) (p : Int) 1 (Tk.bs nm) (⟨#[]⟩ : ByteArray) ys false) r := by
      intro r h
      refine Ev.step (f := fun k => (newelref01_walk_spaces.f k (Tk.bs l) (p : Int)).bind fun bt349 => ((newelref01_begins.f bt349.2.1 (⟨#[62]⟩ : ByteArray) bt349.2.2).bind fun t352 => (if t352 = true then (some (1, Tk.bs nm, (⟨#[]⟩ : ByteArray), ys, false, true, bt349.2.1, wrap64 (bt349.2.2 + 1))) else ((newelref01_begins.f bt349.2.1 (⟨#[47, 62]⟩ : ByteArray) bt349.2.2).bind fun t353 => (if t353 = true then (some (1, Tk.bs nm, (⟨#[]⟩ : ByteArray), ys, true, true, bt349.2.1, wrap64 (bt349.2.2 + 2))) else (if bt349.1 = 0 then (some (1, Tk.bs nm, (⟨#[]⟩ : ByteArray), ys, false, false, bt349.2.1, bt349.2.2)) else ((newelref01_walk_attr.f k bt349.2.1 bt349.2.2).bind fun bt354 => (if bt354.2.2.1 = true then (newelref01_walk_open.l1 k 0 bt354.2.2.2.1 bt354.2.2.2.2 1 (Tk.bs nm) (⟨#[]⟩ : ByteArray) ys false bt354.1 bt354.2.1) else (some (1, Tk.bs nm, (⟨#[]⟩ : ByteArray), ys, false, false, bt354.2.2.2.1, bt354.2.2.2.2)))))))))) (fun k => ?_) (Ev.bind hs h)
      rw [newelref01_walk_open.l0, if_neg (by rw [bs_toList]; exact hnm)]
    rw [Tk.attrs]
    (try dsimp only)
    rw [hd]
    cases h1 : Tk.behind [62] (l.drop (p + n2)) with
    | some r =>
      obtain ⟨hpre, hr⟩ := behind_at h1
      have hroom := (pre_room hpre).resolve_right (by simp)
      simp only [List.length_cons, List.length_nil] at hroom
      have hw1 : wrap64 (((p + n2 : Nat) : Int) + 1) = ((p + n2 + 1 : Nat) : Int) := by unfold wrap64; omega
      refine ⟨p + n2 + 1, by omega, ?_, j1 _ (ev_some fun k => ?_)⟩
      · rw [hr, List.drop_drop]; rfl
      · rw [hb1, hpre, Option.bind_some, if_pos rfl, hw1]; rfl
    | none =>
      have hpre := behind_no h1
      dsimp only
      cases h2 : Tk.behind [47, 62] (l.drop (p + n2)) with
      | some r =>
        obtain ⟨hpre2, hr⟩ := behind_at h2
        have hroom := (pre_room hpre2).resolve_right (by simp)
        simp only [List.length_cons, List.length_nil] at hroom
        have hw1 : wrap64 (((p + n2 : Nat) : Int) + 2) = ((p + n2 + 2 : Nat) : Int) := by unfold wrap64; omega
        refine ⟨p + n2 + 2, by omega, ?_, j1 _ (ev_some fun k => ?_)⟩
        · rw [hr, List.drop_drop]; rfl
        · rw [hb1, hpre, Option.bind_some, if_neg (by decide), hb2, hpre2, Option.bind_some, if_pos rfl, hw1]; rfl
      | none =>
        have hpre2 := behind_no h2
        dsimp only
        by_cases hz : n2 = 0
        · rw [if_pos (by rw [hz, Nat.add_zero])]
          refine Told.no (r := (1, Tk.bs nm, (⟨#[]⟩ : ByteArray), ys, false, false, Tk.bs l, ((p + n2 : Nat) : Int))) (j1 _ (ev_some fun k => ?_)) rfl
          rw [hb1, hpre, Option.bind_some, if_neg (by decide), hb2, hpre2, Option.bind_some, if_neg (by decide), if_pos (by omega)]
        · rw [if_neg (by rw [List.length_drop, List.length_drop]; omega)]
          have j2 : ∀ r, Ev (fun k => (newelref01_walk_attr.f k (Tk.bs l) ((p + n2 : Nat) : Int)).bind fun bt354 => (if bt354.2.2.1 = true then (newelref01_walk_open.l1 k 0 bt354.2.2.2.1 bt354.2.2.2.2 1 (Tk.bs nm) (⟨#[]⟩ : ByteArray) ys false bt354.1 bt354.2.1) else (some (1, Tk.bs nm, (⟨#[]⟩ : ByteArray), ys, false, false, bt354.2.2.2.1, bt354.2.2.2.2)))) r → Ev (fun k => newelref01_walk_open.l0 k (Tk.bs l) (p : Int) 1 (Tk.bs nm) (⟨#[]⟩ : ByteArray) ys false) r := by
            intro r h
            refine j1 r (Ev.congr (fun k => ?_) h)
            rw [hb1, hpre, Option.bind_some, if_neg (by decide), hb2, hpre2, Option.bind_some, if_neg (by decide), if_neg (by omega)]
          have ha := attr_ev l hl (p + n2) (by omega)
          unfold AttrTold at ha
          cases hat : Tk.attr (l.drop (p + n2)) with
          | none =>
            rw [hat] at ha
            obtain ⟨x, v, b, p', ha⟩ := ha
            refine Told.no (r := (1, Tk.bs nm, (⟨#[]⟩ : ByteArray), ys, false, false, b, p')) (j2 _ (Ev.bind ha (ev_some fun k => rfl))) rfl
          | some z =>
            obtain ⟨a, r⟩ := z
            rw [hat] at ha
            obtain ⟨p', hp1, hp2, ha⟩ := ha
            have hlen := attr_len hat
            rw [← hp2, List.length_drop, List.length_drop] at hlen
            rw [Option.bind_some]
            dsimp only
            have hdup := dup_loop l (p' : Int) (Tk.bs nm) a.f0 a.f1 ys (by omega) false ys.length 0 (by omega) (by rw [List.take_zero]; rfl)
            have j3 : ∀ r, Ev (fun k => newelref01_walk_open.l1 k ((0 : Nat) : Int) (Tk.bs l) (p' : Int) 1 (Tk.bs nm) (⟨#[]⟩ : ByteArray) ys false a.f0 a.f1) r → Ev (fun k => newelref01_walk_open.l0 k (Tk.bs l) (p : Int) 1 (Tk.bs nm) (⟨#[]⟩ : ByteArray) ys false) r := fun r h => j2 r (Ev.bind ha (Ev.congr (fun k => if_pos rfl) h))
            by_cases hany : ys.any (fun x => x.f0.toList == a.f0.toList) = true
            · rw [if_pos hany]
              refine Told.no (r := (1, Tk.bs nm, (⟨#[]⟩ : ByteArray), ys, false, false, Tk.bs l, (p' : Int))) (j3 _ (hdup _ ?_)) rfl
              rw [if_pos hany]
              exact Ev.now _
            · rw [if_neg hany, ← hp2]
              refine (ih p' (ys ++ [a]) hp1 (by omega) (by rw [List.length_append, List.length_singleton]; omega)).imp fun r h => j3 r (hdup r ?_)
              rw [if_neg hany]
              exact h
theorem open_ev (l : List UInt8) (hl : l.length ≤ 1000000) (p : Nat) (hp : p + 1 ≤ l.length) : Told l (fun k => newelref01_walk_open.f k (Tk.bs l) (p : Int)) (Tk.opening (l.drop (p + 1))) := by
  have hw1 : wrap64 ((p : Int) + 1) = ((p + 1 : Nat) : Int) := by unfold wrap64; omega
  have hn := name_ev l hl (p + 1) hp
  have htw := tw_le (p := Tk.within) (l.drop (p + 1))
  rw [List.length_drop] at htw
  have j0 : ∀ r, Ev (fun k => newelref01_walk_open.l0 k (Tk.bs l) ((p + 1 + ((l.drop (p + 1)).takeWhile Tk.within).length : Nat) : Int) 1 (Tk.bs (Tk.head (l.drop (p + 1)))) (⟨#[]⟩ : ByteArray) ([] : List S39) false) r → Ev (fun k => newelref01_walk_open.f k (Tk.bs l) (p : Int)) r := by
    intro r h
    unfold newelref01_walk_open.f
    rw [hw1]
    exact Ev.bind hn h
  unfold Tk.opening
  by_cases hh : Tk.head (l.drop (p + 1)) = []
  · rw [if_pos hh]
    refine Told.no (r := (1, Tk.bs (Tk.head (l.drop (p + 1))), (⟨#[]⟩ : ByteArray), ([] : List S39), false, false, Tk.bs l, ((p + 1 + ((l.drop (p + 1)).takeWhile Tk.within).length : Nat) : Int))) (j0 _ (Ev.step (f := fun _ => some _) (fun k => ?_) (Ev.now _))) rfl
    rw [newelref01_walk_open.l0, if_pos (by rw [bs_toList, hh])]
  · rw [if_neg hh]
    have hd1 : (l.drop (p + 1)).drop (Tk.head (l.drop (p + 1))).length = l.drop (p + 1 + ((l.drop (p + 1)).takeWhile Tk.within).length) := by rw [List.drop_drop, head_len_tw hh]
    rw [hd1]
    exact (attrs_ev l hl _ hh _ _ [] (by omega) (by rw [List.length_drop]; omega) (Nat.zero_le _)).imp j0
theorem closing_ev (l : List UInt8) (hl : l.length ≤ 1000000) (p : Nat) (hp : p + 2 ≤ l.length) : Told l (fun k => newelref01_walk_closing.f k (Tk.bs l) (p : Int)) (Tk.close (l.drop (p + 2))) := by
  have hw1 : wrap64 ((p : Int) + 2) = ((p + 2 : Nat) : Int) := by unfold wrap64; omega
  have hn := name_ev l hl (p + 2) hp
  have htw := tw_le (p := Tk.within) (l.drop (p + 2))
  rw [List.length_drop] at htw
  obtain ⟨n1, hn1⟩ : ∃ n1, n1 = ((l.drop (p + 2)).takeWhile Tk.within).length := ⟨_, rfl⟩
  rw [← hn1] at hn htw
  have hs := spaces_ev l hl (p + 2 + n1) (by omega)
  have htw2 := tw_le (p := Tk.space) (l.drop (p + 2 + n1))
  rw [List.length_drop] at htw2
  obtain ⟨n2, hn2⟩ : ∃ n2, n2 = ((l.drop (p + 2 + n1)).takeWhile Tk.space).length := ⟨_, rfl⟩
  rw [← hn2] at hs htw2
  have hb := begins_ev l [62] hl (by simp) (p + 2 + n1 + n2) (by omega)
  have hb : newelref01_begins.f (Tk.bs l) (⟨#[62]⟩ : ByteArray) ((p + 2 + n1 + n2 : Nat) : Int) = _ := hb
  have j0 : ∀ r, Ev (fun k => (if (Tk.bs (Tk.head (l.drop (p + 2)))).toList = ([] : List UInt8) then (some (2, Tk.bs (Tk.head (l.drop (p + 2))), (⟨#[]⟩ : ByteArray), ([] : List S39), false, false, Tk.bs l, ((p + 2 + n1 + n2 : Nat) : Int))) else ((newelref01_begins.f (Tk.bs l) (⟨#[62]⟩ : ByteArray) ((p + 2 + n1 + n2 : Nat) : Int)).bind fun t284 => (if t284 = true then (some (2, Tk.bs (Tk.head (l.drop (p + 2))), (⟨#[]⟩ : ByteArray), ([] : List S39), false, true, Tk.bs l, wrap64 (((p + 2 + n1 + n2 : Nat) : Int) + 1))) else (some (2, Tk.bs (Tk.head (l.drop (p + 2))), (⟨#[]⟩ : ByteArray), ([] : List S39), false, false, Tk.bs l, ((p + 2 + n1 + n2 : Nat) : Int))))))) r → Ev (fun k => newelref01_walk_closing.f k (Tk.bs l) (p : Int)) r := by
    intro r h
    unfold newelref01_walk_closing.f
    rw [hw1]
    exact Ev.bind hn (Ev.bind hs h)
  unfold Tk.close
  by_cases hh : Tk.head (l.drop (p + 2)) = []
  · rw [if_pos hh]
    exact Told.no (j0 _ (ev_some fun k => if_pos (by rw [bs_toList, hh]))) rfl
  · rw [if_neg hh]
    have hd1 : l.drop (p + 2 + n1) = (l.drop (p + 2)).drop (Tk.head (l.drop (p + 2))).length := by rw [List.drop_drop, head_len_tw hh, hn1]
    have hd2 : l.drop (p + 2 + n1 + n2) = Tk.skip ((l.drop (p + 2)).drop (Tk.head (l.drop (p + 2))).length) := by rw [skip_drop, ← hd1, List.drop_drop, hn2]
    rw [← hd2]
    cases hbe : Tk.behind [62] (l.drop (p + 2 + n1 + n2)) with
    | none =>
      have hpre := behind_no hbe
      refine Told.no (r := (2, Tk.bs (Tk.head (l.drop (p + 2))), (⟨#[]⟩ : ByteArray), ([] : List S39), false, false, Tk.bs l, ((p + 2 + n1 + n2 : Nat) : Int))) (j0 _ (ev_some fun k => ?_)) rfl
      rw [if_neg (by rw [bs_toList]; exact hh), hb, hpre, Option.bind_some, if_neg (by decide)]
    | some r =>
      obtain ⟨hpre, hr⟩ := behind_at hbe
      have hroom := (pre_room hpre).resolve_right (by simp)
      simp only [List.length_cons, List.length_nil] at hroom
      have hw2 : wrap64 (((p + 2 + n1 + n2 : Nat) : Int) + 1) = ((p + 2 + n1 + n2 + 1 : Nat) : Int) := by unfold wrap64; omega
      refine ⟨p + 2 + n1 + n2 + 1, by omega, ?_, j0 _ (ev_some fun k => ?_)⟩
      · rw [hr, List.drop_drop]; rfl
      · rw [if_neg (by rw [bs_toList]; exact hh), hb, hpre, Option.bind_some, if_pos rfl, hw2]; rfl
theorem suffix1 (a : List UInt8) (c : UInt8) (i : Nat) (hi : i < a.length) (he : i + 1 = a.length) : Lib.hasSuffix a [c] = (a[i] == c) := by
  have h1 : [c].length ≤ a.length := by simp only [List.length_cons, List.length_nil]; omega
  have h2 : a.length - [c].length = i := by simp only [List.length_cons, List.length_nil]; omega
  rw [← Lib.hasSuffix_of_drop, decide_eq_true h1, Bool.true_and, h2, List.drop_eq_getElem_cons hi, List.drop_eq_nil_of_le (by omega)]
  by_cases hx : a[i] = c
  · rw [hx]; simp
  · have : (a[i] == c) = false := by simpa using hx
    rw [this]
    simpa using hx
theorem comment_ev (l : List UInt8) (hl : l.length ≤ 1000000) (p : Nat) (hp : p + 4 ≤ l.length) : Told l (fun k => newelref01_walk_comment.f k (Tk.bs l) (p : Int)) (Tk.comment (l.drop (p + 4))) := by
  have hw1 : wrap64 ((p : Int) + 4) = ((p + 4 : Nat) : Int) := by unfold wrap64; omega
  have hu := upto_ev l [45, 45, 62] hl (by simp) (by simp) p (p + 4) hp
  unfold uptoR at hu
  unfold Tk.comment
  have j0 : ∀ r, Ev (fun k => (newelref01_walk_upto.f k (Tk.bs l) (p : Int) ((p + 4 : Nat) : Int) (Tk.bs [45, 45, 62])).bind fun bt263 => (if bt263.2.1 = true then ((newelref01_find.f k bt263.1 (⟨#[45, 45]⟩ : ByteArray) 0).bind fun t267 => (if t267 < 0 then (if (bt263.1.size : Int) = 0 then (some (4, (⟨#[]⟩ : ByteArray), bt263.1, ([] : List S39), false, true, bt263.2.2.1, bt263.2.2.2)) else (if 0 ≤ (wrap64 ((bt263.1.size : Int) - 1)) then (if (wrap64 ((bt263.1.size : Int) - 1)) < (bt263.1.size : Int) then (some (4, (⟨#[]⟩ : ByteArray), bt263.1, ([] : List S39), false, ((bt bt263.1 (wrap64 ((bt263.1.size : Int) - 1))) != 45), bt263.2.2.1, bt263.2.2.2)) else (none)) else (none))) else (some (4, (⟨#[]⟩ : ByteArray), bt263.1, ([] : List S39), false, false, bt263.2.2.1, bt263.2.2.2)))) else (some (4, (⟨#[]⟩ : ByteArray), bt263.1, ([] : List S39), false, false, bt263.2.2.1, bt263.2.2.2)))) r → Ev (fun k => newelref01_walk_comment.f k (Tk.bs l) (p : Int)) r := by
    intro r h
    unfold newelref01_walk_comment.f
    rw [hw1]
    exact h
  cases hup : Tk.upto [45, 45, 62] (l.drop (p + 4)) with
  | none =>
    rw [hup] at hu
    exact Told.no (r := (4, (⟨#[]⟩ : ByteArray), Tk.bs [], ([] : List S39), false, false, Tk.bs l, (p : Int))) (j0 _ (Ev.bind hu (ev_some fun k => rfl))) rfl
  | some z =>
    obtain ⟨a, r⟩ := z
    rw [hup] at hu
    have hs := upto_sum hup
    rw [List.length_drop] at hs
    simp only [List.length_cons, List.length_nil] at hs
    have hr := upto_rest hup
    have ha : a.length ≤ 1000000 := by omega
    have hf : Ev (fun k => newelref01_find.f k (Tk.bs a) (⟨#[45, 45]⟩ : ByteArray) 0) (place [45, 45] a 0) := find0_ev a [45, 45] ha (by simp) (by simp)
    rw [Option.bind_some]
    dsimp only
    by_cases hix : 0 ≤ Lib.index a [45, 45]
    · rw [if_pos (.inl hix)]
      have hpl := (place0 [45, 45] a).2 hix
      exact Told.no (r := (4, (⟨#[]⟩ : ByteArray), Tk.bs a, ([] : List S39), false, false, Tk.bs l, ((p + 4 + a.length + [45, 45, 62].length : Nat) : Int))) (j0 _ (Ev.bind hu (Ev.congr (fun k => if_pos rfl) (Ev.bind hf (ev_some fun k => if_neg (by omega)))))) rfl
    · have hpl : place [45, 45] a 0 < 0 := Int.not_le.1 (fun h => hix ((place0 [45, 45] a).1 h))
      have hsz := bs_size a
      have j1 : ∀ r, Ev (fun _ => (if ((Tk.bs a).size : Int) = 0 then (some (4, (⟨#[]⟩ : ByteArray), Tk.bs a, ([] : List S39), false, true, Tk.bs l, ((p + 4 + a.length + [45, 45, 62].length : Nat) : Int))) else (if 0 ≤ (wrap64 (((Tk.bs a).size : Int) - 1)) then (if (wrap64 (((Tk.bs a).size : Int) - 1)) < ((Tk.bs a).size : Int) then (some (4, (⟨#[]⟩ : ByteArray), Tk.bs a, ([] : List S39), false, ((bt (Tk.bs a) (wrap64 (((Tk.bs a).size : Int) - 1))) != 45), Tk.bs l, ((p + 4 + a.length + [45, 45, 62].length : Nat) : Int))) else (none)) else (none)))) r → Ev (fun k => newelref01_walk_comment.f k (Tk.bs l) (p : Int)) r := by
        intro r h
        refine j0 r (Ev.bind hu (Ev.congr (fun k => if_pos rfl) (Ev.bind hf (Ev.congr (fun k => if_pos hpl) h))))
      have hpos : ∀ (b : Bool), Ev (fun k => newelref01_walk_comment.f k (Tk.bs l) (p : Int)) (4, (⟨#[]⟩ : ByteArray), Tk.bs a, ([] : List S39), false, true, Tk.bs l, ((p + 4 + a.length + [45, 45, 62].length : Nat) : Int)) → Told l (fun k => newelref01_walk_comment.f k (Tk.bs l) (p : Int)) (some (Tk.tk 4 [] a [] false, r)) := by
        intro _ h
        exact ⟨p + 4 + a.length + 3, by omega, by rw [hr, List.drop_drop]; rfl, h⟩
      by_cases h0 : a = []
      · rw [if_neg (fun h => h.elim hix (fun h => by rw [h0] at h; cases h))]
        refine hpos true (j1 _ (ev_some fun k => ?_))
        rw [if_pos (by rw [hsz, h0]; rfl)]
      · have hlen : 0 < a.length := by cases a with | nil => exact absurd rfl h0 | cons _ _ => simp
        have hw2 : wrap64 ((a.length : Int) - 1) = ((a.length - 1 : Nat) : Int) := by unfold wrap64; omega
        have hb := bs_bt a (a.length - 1) (by omega)
        have hsx := suffix1 a 45 (a.length - 1) (by omega) (by omega)
        have j2 : Ev (fun k => newelref01_walk_comment.f k (Tk.bs l) (p : Int)) (4, (⟨#[]⟩ : ByteArray), Tk.bs a, ([] : List S39), false, ((a[a.length - 1].toNat : Int) != 45), Tk.bs l, ((p + 4 + a.length + [45, 45, 62].length : Nat) : Int)) := by
          refine j1 _ (ev_some fun k => ?_)
          rw [hsz, if_neg (by omega), hw2, if_pos (by omega), if_pos (by omega), hb]
        by_cases hc : a[a.length - 1] = 45
        · rw [if_pos (.inr (by rw [hsx, hc]; rfl))]
          rw [hc] at j2
          exact Told.no j2 rfl
        · rw [if_neg (fun h => h.elim hix (fun h => hc (by rw [hsx] at h; exact beq_iff_eq.1 h)))]
          have hne : ((a[a.length - 1].toNat : Int) != 45) = true := bne_iff_ne.2 fun h => hc (UInt8.toNat_inj.1 (show a[a.length - 1].toNat = (45 : UInt8).toNat by show _ = 45; omega))
          rw [hne] at j2
          exact hpos true j2
theorem upto60 : ∀ m : List UInt8, Tk.upto [60] m = if (m.takeWhile (· != 60)).length < m.length then some (m.takeWhile (· != 60), m.drop ((m.takeWhile (· != 60)).length + 1)) else none
  | [] => rfl
  | c :: m => by
    have ih := upto60 m
    by_cases hc : c = 60
    · subst hc
      rw [upto_cons_eq, List.takeWhile_cons]
      simp
    · have h2 : (c != 60) = true := by simpa using hc
      rw [upto_cons_ne 60 c m hc, ih, List.takeWhile_cons, if_pos h2]
      simp only [List.length_cons]
      by_cases hl : (m.takeWhile (· != 60)).length < m.length
      · rw [if_pos hl, if_pos (by omega)]; rfl
      · rw [if_neg hl, if_neg (by omega)]; rfl
theorem next_ev (l : List UInt8) (hl : l.length ≤ 1000000) (p : Nat) (hp : p < l.length) : Told l (fun k => newelref01_walk_next.f k (Tk.bs l) (p : Int)) (Tk.next (decide (p = 0)) (l.drop p)) := by
  have hsz := bs_size l
  have hb := fun x hx => begins_ev l x hl hx p (by omega)
  have b1 : newelref01_begins.f (Tk.bs l) (⟨#[60, 33, 45, 45]⟩ : ByteArray) (p : Int) = _ := hb [60, 33, 45, 45] (by simp)
  have b2 : newelref01_begins.f (Tk.bs l) (⟨#[60, 33, 91, 67, 68, 65, 84, 65, 91]⟩ : ByteArray) (p : Int) = _ := hb [60, 33, 91, 67, 68, 65, 84, 65, 91] (by simp)
  have b3 : newelref01_begins.f (Tk.bs l) (⟨#[60, 63]⟩ : ByteArray) (p : Int) = _ := hb [60, 63] (by simp)
  have b4 : newelref01_begins.f (Tk.bs l) (⟨#[60, 47]⟩ : ByteArray) (p : Int) = _ := hb [60, 47] (by simp)
  have b5 : newelref01_begins.f (Tk.bs l) (⟨#[60]⟩ : ByteArray) (p : Int) = _ := hb [60] (by simp)
  unfold Tk.next
  cases h1 : Tk.behind [60, 33, 45, 45] (l.drop p) with
  | some r =>
    obtain ⟨hpre, hr⟩ := behind_at h1
    have hroom := (pre_room hpre).resolve_right (by simp)
    simp only [List.length_cons, List.length_nil] at hroom
    have hr' : r = l.drop (p + 4) := by rw [hr, List.drop_drop]; rfl
    dsimp only
    rw [hr']
    refine (comment_ev l hl p (by omega)).imp fun r h => Ev.congr (f := fun k => (newelref01_walk_comment.f k (Tk.bs l) (p : Int)).bind fun b => some b) (fun k => ?_) (Ev.bind h (Ev.now _))
    unfold newelref01_walk_next.f
    rw [b1, hpre]
    rfl
  | none =>
  have p1 := behind_no h1
  dsimp only
  cases h2 : Tk.behind [60, 33, 91, 67, 68, 65, 84, 65, 91] (l.drop p) with
  | some r =>
    obtain ⟨hpre, hr⟩ := behind_at h2
    have hroom := (pre_room hpre).resolve_right (by simp)
    simp only [List.length_cons, List.length_nil] at hroom
    have hr' : r = l.drop (p + 9) := by rw [hr, List.drop_drop]; rfl
    dsimp only
    rw [hr']
    have hw : wrap64 ((p : Int) + 9) = ((p + 9 : Nat) : Int) := by unfold wrap64; omega
    have hu := upto_ev l [93, 93, 62] hl (by simp) (by simp) p (p + 9) (by omega)
    have hu : Ev (fun k => newelref01_walk_upto.f k (Tk.bs l) (p : Int) ((p + 9 : Nat) : Int) (⟨#[93, 93, 62]⟩ : ByteArray)) _ := hu
    unfold uptoR at hu
    have j0 : ∀ r, Ev (fun k => ((newelref01_walk_upto.f k (Tk.bs l) (p : Int) ((p + 9 : Nat) : Int) (⟨#[93, 93, 62]⟩ : ByteArray)).bind fun bt377 => (some (3, (⟨#[]⟩ : ByteArray), bt377.1, ([] : List S39), false, bt377.2.1, bt377.2.2.1, bt377.2.2.2)))) r → Ev (fun k => newelref01_walk_next.f k (Tk.bs l) (p : Int)) r := by
      intro r h
      unfold newelref01_walk_next.f
      rw [b1, p1, b2, hpre, hw]
      exact h
    unfold Tk.data
    cases hup : Tk.upto [93, 93, 62] (l.drop (p + 9)) with
    | none =>
      rw [hup] at hu
      exact Told.no (j0 _ (Ev.bind hu (Ev.now _))) rfl
    | some z =>
      obtain ⟨a, r2⟩ := z
      rw [hup] at hu
      have hs := upto_sum hup
      rw [List.length_drop] at hs
      simp only [List.length_cons, List.length_nil] at hs
      refine ⟨p + 9 + a.length + 3, by omega, ?_, j0 _ (Ev.bind hu (Ev.now _))⟩
      rw [upto_rest hup, List.drop_drop]; rfl
  | none =>
  have p2 := behind_no h2
  dsimp only
  cases h3 : Tk.behind [60, 63] (l.drop p) with
  | some r =>
    obtain ⟨hpre, hr⟩ := behind_at h3
    have hroom := (pre_room hpre).resolve_right (by simp)
    simp only [List.length_cons, List.length_nil] at hroom
    have hr' : r = l.drop (p + 2) := by rw [hr, List.drop_drop]; rfl
    dsimp only
    rw [hr']
    have hw : wrap64 ((p : Int) + 2) = ((p + 2 : Nat) : Int) := by unfold wrap64; omega
    have hu := upto_ev l [63, 62] hl (by simp) (by simp) p (p + 2) (by omega)
    have hu : Ev (fun k => newelref01_walk_upto.f k (Tk.bs l) (p : Int) ((p + 2 : Nat) : Int) (⟨#[63, 62]⟩ : ByteArray)) _ := hu
    unfold uptoR at hu
    have j0 : ∀ r, Ev (fun k => ((newelref01_walk_upto.f k (Tk.bs l) (p : Int) ((p + 2 : Nat) : Int) (⟨#[63, 62]⟩ : ByteArray)).bind fun bt382 => (if bt382.2.1 = true then (some (5, (⟨#[]⟩ : ByteArray), bt382.1, ([] : List S39), false, ((p : Int) == 0), bt382.2.2.1, bt382.2.2.2)) else (some (5, (⟨#[]⟩ : ByteArray), bt382.1, ([] : List S39), false, false, bt382.2.2.1, bt382.2.2.2))))) r → Ev (fun k => newelref01_walk_next.f k (Tk.bs l) (p : Int)) r := by
      intro r h
      unfold newelref01_walk_next.f
      rw [b1, p1, b2, p2, b3, hpre, hw]
      exact h
    unfold Tk.prolog
    cases hup : Tk.upto [63, 62] (l.drop (p + 2)) with
    | none =>
      rw [hup] at hu
      exact Told.no (r := (5, (⟨#[]⟩ : ByteArray), Tk.bs [], ([] : List S39), false, false, Tk.bs l, (p : Int))) (j0 _ (Ev.bind hu (ev_some fun k => rfl))) rfl
    | some z =>
      obtain ⟨a, r2⟩ := z
      rw [hup] at hu
      have hs := upto_sum hup
      rw [List.length_drop] at hs
      simp only [List.length_cons, List.length_nil] at hs
      have j1 : Ev (fun k => newelref01_walk_next.f k (Tk.bs l) (p : Int)) (5, (⟨#[]⟩ : ByteArray), Tk.bs a, ([] : List S39), false, ((p : Int) == 0), Tk.bs l, ((p + 2 + a.length + [63, 62].length : Nat) : Int)) := j0 _ (Ev.bind hu (ev_some fun k => if_pos rfl))
      rw [Option.bind_some]
      by_cases h0 : p = 0
      · rw [if_pos (decide_eq_true h0)]
        have e : ((p : Int) == 0) = true := beq_iff_eq.2 (by omega)
        rw [e] at j1
        refine ⟨p + 2 + a.length + 2, by omega, ?_, j1⟩
        rw [upto_rest hup, List.drop_drop]; rfl
      · rw [if_neg (by rw [decide_eq_false h0]; decide)]
        have e : ((p : Int) == 0) = false := beq_eq_false_iff_ne.2 (by omega)
        rw [e] at j1
        exact Told.no j1 rfl
  | none =>
  have p3 := behind_no h3
  dsimp only
  cases h4 : Tk.behind [60, 47] (l.drop p) with
  | some r =>
    obtain ⟨hpre, hr⟩ := behind_at h4
    have hroom := (pre_room hpre).resolve_right (by simp)
    simp only [List.length_cons, List.length_nil] at hroom
    have hr' : r = l.drop (p + 2) := by rw [hr, List.drop_drop]; rfl
    dsimp only
    rw [hr']
    refine (closing_ev l hl p (by omega)).imp fun r h => Ev.congr (f := fun k => (newelref01_walk_closing.f k (Tk.bs l) (p : Int)).bind fun b => some b) (fun k => ?_) (Ev.bind h (Ev.now _))
    unfold newelref01_walk_next.f
    rw [b1, p1, b2, p2, b3, p3, b4, hpre]
    rfl
  | none =>
  have p4 := behind_no h4
  dsimp only
  cases h5 : Tk.behind [60] (l.drop p) with
  | some r =>
    obtain ⟨hpre, hr⟩ := behind_at h5
    have hroom := (pre_room hpre).resolve_right (by simp)
    simp only [List.length_cons, List.length_nil] at hroom
    have hr' : r = l.drop (p + 1) := by rw [hr, List.drop_drop]; rfl
    dsimp only
    rw [hr']
    refine (open_ev l hl p (by omega)).imp fun r h => Ev.congr (f := fun k => (newelref01_walk_open.f k (Tk.bs l) (p : Int)).bind fun b => some b) (fun k => ?_) (Ev.bind h (Ev.now _))
    unfold newelref01_walk_next.f
    rw [b1, p1, b2, p2, b3, p3, b4, p4, b5, hpre]
    rfl
  | none =>
  have p5 := behind_no h5
  dsimp only
  have hf : Ev (fun k => newelref01_find.f k (Tk.bs l) (⟨#[60]⟩ : ByteArray) (p : Int)) (place [60] l p) := find_ev l [60] hl (by simp) (by simp) p (by omega)
  have j0 : ∀ r, Ev (fun k => ((newelref01_find.f k (Tk.bs l) (⟨#[60]⟩ : ByteArray) (p : Int)).bind fun t408 => (if t408 < 0 then (if 0 ≤ (p : Int) then (if (p : Int) ≤ ((Tk.bs l).size : Int) then (if ((Tk.bs l).size : Int) ≤ ((Tk.bs l).size : Int) then ((newelref01_Entities.f k ((Tk.bs l).extract ((p : Int)).toNat (((Tk.bs l).size : Int)).toNat)).bind fun bt409 => (some (3, (⟨#[]⟩ : ByteArray), bt409.1, ([] : List S39), false, (bt409.2 == 0), Tk.bs l, ((Tk.bs l).size : Int)))) else (none)) else (none)) else (none)) else (if 0 ≤ (p : Int) then (if (p : Int) ≤ t408 then (if t408 ≤ ((Tk.bs l).size : Int) then ((newelref01_Entities.f k ((Tk.bs l).extract ((p : Int)).toNat (t408 : Int).toNat)).bind fun bt411 => (some (3, (⟨#[]⟩ : ByteArray), bt411.1, ([] : List S39), false, (bt411.2 == 0), Tk.bs l, t408))) else (none)) else (none)) else (none))))) r → Ev (fun k => newelref01_walk_next.f k (Tk.bs l) (p : Int)) r := by
    intro r h
    unfold newelref01_walk_next.f
    rw [b1, p1, b2, p2, b3, p3, b4, p4, b5, p5]
    exact h
  have htl := tw_le (p := fun x => x != 60) (l.drop p)
  rw [List.length_drop] at htl
  have htt := tw_take (p := fun x => x != 60) (l.drop p)
  have hu60 := upto60 (l.drop p)
  unfold place at hf
  rw [hu60] at hf
  unfold Tk.text
  obtain ⟨t, ht⟩ : ∃ t, t = (l.drop p).takeWhile (· != 60) := ⟨_, rfl⟩
  rw [← ht] at hf htl htt ⊢
  have j1 : ∀ r, Ev (fun k => (newelref01_Entities.f k (Tk.bs t)).bind fun bt409 => some (3, (⟨#[]⟩ : ByteArray), bt409.1, ([] : List S39), false, (bt409.2 == 0), Tk.bs l, ((p + t.length : Nat) : Int))) r → Ev (fun k => newelref01_walk_next.f k (Tk.bs l) (p : Int)) r := by
    intro r h
    refine j0 r (Ev.bind hf (Ev.congr (fun k => ?_) h))
    by_cases hlt : t.length < (l.drop p).length
    · rw [if_pos hlt]
      dsimp only
      rw [hsz, if_neg (by omega), if_pos (by omega), if_pos (by omega), if_pos (by omega), Int.toNat_natCast, Int.toNat_natCast, bs_cut, show p + t.length - p = t.length by omega, htt]
    · rw [if_neg hlt]
      dsimp only
      rw [List.length_drop] at hlt
      rw [hsz, if_pos (by decide), if_pos (by omega), if_pos (by omega), if_pos (by omega), Int.toNat_natCast, Int.toNat_natCast, bs_cut, show p + t.length = l.length by omega, show l.length - p = t.length by omega, htt]
  have hlen : t.length ≤ 1000000 := by omega
  have hev := ents_ev t hlen
  dsimp only
  cases he : Tk.entities t with
  | none =>
    refine Told.no (j1 _ (Ev.bind hev (Ev.now _))) ?_
    dsimp only
    rw [ents_no he]; rfl
  | some v =>
    rw [ents_some he] at hev
    refine ⟨p + t.length, by omega, ?_, j1 _ (Ev.bind hev (Ev.now _))⟩
    rw [List.drop_drop]
theorem all_loop (l : List UInt8) (hl : l.length ≤ 1000000) : ∀ (d i : Nat), i + d = l.length → (l.take i).any (fun c => !Tk.allowed c) = false → Ev (fun k => newelref01_all.l0 k (Tk.bs l) (i : Int)) (!l.any (fun c => !Tk.allowed c)) := by
  have hsz := bs_size l
  have hal : ∀ c : UInt8, newelref01_Allowed.f (c.toNat : Int) = some (Tk.allowed c) := fun c => Tk.bytes_all (by kernel_rfl) c
  intro d
  induction d with
  | zero =>
    intro i hi ha
    rw [List.take_of_length_le (by omega)] at ha
    rw [ha]
    refine Ev.step (f := fun _ => some _) (fun k => ?_) (Ev.now _)
    rw [newelref01_all.l0, hsz, if_neg (by omega)]; rfl
  | succ d ih =>
    intro i hi ha
    have hlt : i < l.length := by omega
    have hw1 : wrap64 ((i : Int) + 1) = ((i + 1 : Nat) : Int) := by unfold wrap64; omega
    have hb := bs_bt l i hlt
    cases hc : Tk.allowed l[i] with
    | true =>
      refine Ev.step (fun k => ?_) (ih (i + 1) (by omega) ?_)
      · rw [newelref01_all.l0, hsz, if_pos (by omega), if_pos (by omega), hb, hal, hc, Option.bind_some, if_pos rfl, hw1]
      · rw [List.take_add_one, List.any_append, ha, List.getElem?_eq_getElem hlt]
        simp [hc]
    | false =>
      have hany : l.any (fun c => !Tk.allowed c) = true := List.any_eq_true.2 ⟨l[i], List.getElem_mem hlt, by rw [hc]; rfl⟩
      rw [hany]
      refine Ev.step (f := fun _ => some _) (fun k => ?_) (Ev.now _)
      rw [newelref01_all.l0, hsz, if_pos (by omega), if_pos (by omega), hb, hal, hc, Option.bind_some, if_neg (by decide)]; rfl
theorem pieces_ev (l : List UInt8) (hl : l.length ≤ 20000) : ∀ (n p : Nat) (L : List S32), p ≤ l.length → l.length - p < n → L.length ≤ p → Ev (fun k => newelref01_Split.l0 k (Tk.bs l) (Tk.bs l) L (p : Int)) (match Tk.pieces n (decide (p = 0)) (l.drop p) with | some t => (L ++ t, 0) | none => ([], 5)) := by
  have hsz := bs_size l
  intro n
  induction n with
  | zero => intro p L _ h; omega
  | succ n ih =>
    intro p L hp hn hL
    rw [Tk.pieces]
    by_cases hlt : p < l.length
    · have hne : l.drop p ≠ [] := fun e => by have := congrArg List.length e; rw [List.length_drop] at this; simp only [List.length_nil] at this; omega
      rw [if_neg hne]
      have hx := next_ev l (by omega) p hlt
      unfold Told at hx
      have j0 : ∀ r, Ev (fun k => (newelref01_walk_next.f k (Tk.bs l) (p : Int)).bind fun r => if r.2.2.2.2.2.1 = true then (if L.length ≤ 100000 then newelref01_Split.l0 k (Tk.bs l) r.2.2.2.2.2.2.1 (L ++ [⟨r.1, r.2.1, r.2.2.1, r.2.2.2.1, r.2.2.2.2.1⟩]) r.2.2.2.2.2.2.2 else none) else some ([], 5)) r → Ev (fun k => newelref01_Split.l0 k (Tk.bs l) (Tk.bs l) L (p : Int)) r := by
        intro r h
        refine Ev.step (fun k => ?_) h
        rw [newelref01_Split.l0, hsz, if_pos (by omega)]
      cases hnx : Tk.next (decide (p = 0)) (l.drop p) with
      | none =>
        rw [hnx] at hx
        obtain ⟨a, b, c, d, e, s, p', hx⟩ := hx
        exact j0 _ (Ev.bind hx (ev_some fun k => rfl))
      | some z =>
        obtain ⟨t, r⟩ := z
        rw [hnx] at hx
        obtain ⟨p', h1, h2, hx⟩ := hx
        have hln := next_len hne hnx
        rw [← h2, List.length_drop, List.length_drop] at hln
        have hi := ih p' (L ++ [t]) h1 (by omega) (by rw [List.length_append, List.length_singleton]; omega)
        have hp0 : decide (p' = 0) = false := decide_eq_false (by omega)
        rw [hp0, h2] at hi
        rw [Option.bind_some]
        refine ev_eq (j0 _ (Ev.bind hx (Ev.congr (fun k => (if_pos rfl).trans (if_pos (show L.length ≤ 100000 by omega))) hi))) ?_
        dsimp only
        cases Tk.pieces n false r with
        | none => rfl
        | some ts => simp
    · rw [if_pos (List.drop_eq_nil_of_le (by omega))]
      refine Ev.step (f := fun _ => some _) (fun k => ?_) (Ev.now _)
      rw [newelref01_Split.l0, hsz, if_neg (by omega)]
      simp
theorem ref_split (l : List UInt8) : Ev (fun k => newelref01_Split.f k (Tk.bs l)) (Tk.split l) := by
  unfold newelref01_Split.f Tk.split
  have hsz := bs_size l
  by_cases hb : 20000 < l.length
  · rw [if_pos hb]
    exact ev_some fun k => if_pos (by rw [hsz]; exact hb)
  · rw [if_neg hb]
    have ha : Ev (fun k => newelref01_all.f k (Tk.bs l)) (!l.any (fun c => !Tk.allowed c)) := all_loop l (by omega) l.length 0 (by omega) (by rw [List.take_zero]; rfl)
    refine Ev.congr (fun k => if_neg (by rw [hsz]; exact hb)) ?_
    by_cases hbad : l.any (fun c => !Tk.allowed c) = true
    · rw [if_pos hbad]
      rw [hbad] at ha
      exact Ev.bind ha (ev_some fun k => rfl)
    · rw [if_neg hbad]
      rw [Bool.eq_false_iff.2 hbad] at ha
      have := pieces_ev l (by omega) (l.length + 1) 0 [] (Nat.zero_le _) (by omega) (Nat.le_refl _)
      rw [List.drop_zero, decide_eq_true rfl] at this
      refine ev_eq (Ev.bind ha (Ev.congr (fun k => if_pos rfl) this)) ?_
      show _ = match Tk.pieces (l.length + 1) true l with | some t => (t, (0 : Int)) | none => ([], 5)
      cases Tk.pieces (l.length + 1) true l with
      | none => rfl
      | some t => simp
theorem index_app {x l s : List UInt8} (hx : x ≠ []) (h : 0 ≤ Lib.index l x) : Lib.index (l ++ s) x = Lib.index l x := by
  induction l with
  | nil =>
    have := Lib.index_room [] x h
    cases x with
    | nil => exact absurd rfl hx
    | cons c q => simp only [List.length_cons, List.length_nil] at this; omega
  | cons c l ih =>
    rw [List.cons_append, Lib.index, Lib.index]
    by_cases hp : x.isPrefixOf (c :: l) = true
    · rw [if_pos hp]
      have : x.isPrefixOf (c :: (l ++ s)) = true := by
        obtain ⟨t, ht⟩ := List.isPrefixOf_iff_prefix.1 hp
        exact List.isPrefixOf_iff_prefix.2 ⟨t ++ s, by rw [← List.append_assoc, ht]; rfl⟩
      rw [if_pos this]
    · rw [Lib.index, if_neg hp] at h
      rw [if_neg hp]
      have hge := Lib.index_ge l x
      by_cases hm : Lib.index l x = -1
      · rw [hm] at h; exact absurd h (by decide)
      · have hm2 : (Lib.index l x == -1) = false := by simpa using hm
        have h0 : 0 ≤ Lib.index l x := by omega
        have ih := ih h0
        have hnp : ¬ x.isPrefixOf (c :: (l ++ s)) = true := by
          intro hq
          obtain ⟨t, ht⟩ := List.isPrefixOf_iff_prefix.1 hq
          have hr := Lib.index_room l x h0
          have hlen : x.length ≤ (c :: l).length := by simp only [List.length_cons]; omega
          refine hp (List.isPrefixOf_iff_prefix.2 ⟨(c :: l).drop x.length, ?_⟩)
          have e : (x ++ t).take x.length = ((c :: l) ++ s).take x.length := by rw [ht]; rfl
          rw [List.take_left, List.take_append_of_le_length hlen] at e
          conv => lhs; arg 1; rw [e]
          exact List.take_append_drop _ _
        rw [if_neg hnp, ih]
theorem upto_app {x l a r : List UInt8} (s : List UInt8) (hx : x ≠ []) (h : Tk.upto x l = some (a, r)) : Tk.upto x (l ++ s) = some (a, r ++ s) := by
  have hs := upto_sum h
  unfold Tk.upto at h ⊢
  split at h
  · rename_i h0
    have hr := Lib.index_room l x h0
    rw [index_app hx h0, if_pos h0]
    injection h with h
    injection h with h1 h2
    rw [List.take_append_of_le_length (by omega), List.drop_append_of_le_length (by omega), h1, h2]
  · cases h
theorem behind_app {x l r : List UInt8} (s : List UInt8) (h : Tk.behind x l = some r) : Tk.behind x (l ++ s) = some (r ++ s) := by
  obtain ⟨hp, rfl⟩ := behind_at h
  obtain ⟨t, rfl⟩ := List.isPrefixOf_iff_prefix.1 hp
  unfold Tk.behind
  rw [if_pos (List.isPrefixOf_iff_prefix.2 ⟨t ++ s, by rw [List.append_assoc]⟩), List.append_assoc, List.drop_left, List.drop_left]
theorem behind_none_app : ∀ {x l : List UInt8} (s : List UInt8), (∀ c ∈ x, c ≠ 60) → x ≠ [] → Tk.behind x l = none → Tk.behind x (l ++ 60 :: s) = none := by
  intro x l s hx hx0 h
  have hp := behind_no h
  unfold Tk.behind
  rw [if_neg]
  clear h
  induction x generalizing l with
  | nil => exact absurd rfl hx0
  | cons c q ih =>
    cases l with
    | nil =>
      intro h
      simp only [List.nil_append, List.isPrefixOf, Bool.and_eq_true, beq_iff_eq] at h
      exact hx c (by simp) h.1
    | cons d l =>
      intro h
      simp only [List.cons_append, List.isPrefixOf, Bool.and_eq_true, beq_iff_eq] at h
      obtain ⟨rfl, h⟩ := h
      have hp2 : q.isPrefixOf l = false := by
        simp only [List.isPrefixOf, BEq.rfl, Bool.true_and] at hp
        exact hp
      by_cases hq : q = []
      · rw [hq] at hp2; cases l <;> simp [List.isPrefixOf] at hp2
      · exact ih (fun c hc => hx c (by simp [hc])) hq hp2 h
theorem behind_none_lt {q l : List UInt8} (s : List UInt8) (hl : l ≠ []) (hx : ∀ c ∈ q, c ≠ 60) (h : Tk.behind (60 :: q) l = none) : Tk.behind (60 :: q) (l ++ 60 :: s) = none := by
  cases l with
  | nil => exact absurd rfl hl
  | cons d l =>
    have hp := behind_no h
    unfold Tk.behind
    rw [if_neg]
    intro h2
    simp only [List.cons_append, List.isPrefixOf, Bool.and_eq_true, beq_iff_eq] at h2
    obtain ⟨rfl, h2⟩ := h2
    have hp2 : q.isPrefixOf l = false := by
      simp only [List.isPrefixOf, BEq.rfl, Bool.true_and] at hp
      exact hp
    by_cases hq : q = []
    · rw [hq] at hp2; cases l <;> simp [List.isPrefixOf] at hp2
    · have hb : Tk.behind q l = none := by unfold Tk.behind; rw [if_neg (by rw [hp2]; decide)]
      have := behind_no (behind_none_app s hx hq hb)
      rw [this] at h2; cases h2
theorem tw_app {f : UInt8 → Bool} (hf : f 60 = false) (s : List UInt8) : ∀ l : List UInt8, (l ++ 60 :: s).takeWhile f = l.takeWhile f
  | [] => by rw [List.nil_append, List.takeWhile_cons, if_neg (by rw [hf]; decide)]; rfl
  | c :: l => by
    rw [List.cons_append, List.takeWhile_cons, List.takeWhile_cons, tw_app hf s l]
theorem head_app (s l : List UInt8) : Tk.head (l ++ 60 :: s) = Tk.head l := by
  rw [head_tw, head_tw, tw_app (by rfl)]
theorem skip_app (s l : List UInt8) : Tk.skip (l ++ 60 :: s) = Tk.skip l ++ 60 :: s := by
  rw [skip_drop, skip_drop, tw_app (by rfl), List.drop_append_of_le_length (tw_le _)]
theorem head_le (l : List UInt8) : (Tk.head l).length ≤ l.length := by
  by_cases h : Tk.head l = []
  · rw [h]; exact Nat.zero_le _
  · rw [head_len_tw h]; exact tw_le _
theorem value_app {l v r : List UInt8} (s : List UInt8) (h : Tk.value l = some (v, r)) : Tk.value (l ++ s) = some (v, r ++ s) := by
  cases l with
  | nil => rw [value_nil] at h; cases h
  | cons c m =>
    rw [value_cons] at h
    rw [List.cons_append, value_cons]
    by_cases hc : c = 34 ∨ c = 39
    · rw [if_pos hc] at h ⊢
      unfold valueM at h ⊢
      obtain ⟨⟨a, q⟩, h1, h⟩ := Option.bind_eq_some_iff.1 h
      rw [upto_app s (by simp) h1, Option.bind_some]
      dsimp only at h ⊢
      split at h
      · cases h
      · rename_i hi
        rw [if_neg hi]
        obtain ⟨y, h2, h⟩ := Option.map_eq_some_iff.1 h
        injection h with h3 h4
        subst h3 h4
        rw [h2]; rfl
    · rw [if_neg hc] at h; cases h
theorem attr_app {l r : List UInt8} {a : S39} (s : List UInt8) (h : Tk.attr l = some (a, r)) : Tk.attr (l ++ 60 :: s) = some (a, r ++ 60 :: s) := by
  unfold Tk.attr at h ⊢
  rw [head_app]
  split at h
  · cases h
  · rename_i hh
    rw [if_neg hh]
    obtain ⟨q, h1, h⟩ := Option.bind_eq_some_iff.1 h
    obtain ⟨⟨v, r2⟩, h2, h⟩ := Option.map_eq_some_iff.1 h
    injection h with h3 h4
    subst h3 h4
    rw [List.drop_append_of_le_length (head_le l), skip_app, behind_app _ h1, Option.bind_some, skip_app, value_app _ h2]
    rfl
theorem attrs_app : ∀ (n : Nat) (nm : List UInt8) (ys : List S39) (l : List UInt8) (t : S32) (r s : List UInt8) (m : Nat), n ≤ m → Tk.attrs n nm ys l = some (t, r) → Tk.attrs m nm ys (l ++ 60 :: s) = some (t, r ++ 60 :: s)
  | 0, _, _, _, _, _, _, _, _, h => by simp [Tk.attrs] at h
  | n + 1, nm, ys, l, t, r, s, m, hm, h => by
    obtain ⟨m, rfl⟩ : ∃ k, m = k + 1 := ⟨m - 1, by omega⟩
    rw [Tk.attrs] at h ⊢
    (try dsimp only at h ⊢)
    rw [skip_app]
    cases h1 : Tk.behind [62] (Tk.skip l) with
    | some q =>
      rw [h1] at h
      obtain ⟨rfl, rfl⟩ := Prod.mk.inj (Option.some.inj h)
      rw [behind_app _ h1]
    | none =>
      rw [h1] at h
      rw [behind_none_app s (by decide) (by simp) h1]
      (try dsimp only at h ⊢)
      cases h2 : Tk.behind [47, 62] (Tk.skip l) with
      | some q =>
        rw [h2] at h
        obtain ⟨rfl, rfl⟩ := Prod.mk.inj (Option.some.inj h)
        rw [behind_app _ h2]
      | none =>
        rw [h2] at h
        rw [behind_none_app s (by decide) (by simp) h2]
        (try dsimp only at h ⊢)
        split at h
        · cases h
        · rename_i hne
          rw [if_neg (by rw [List.length_append, List.length_append]; omega)]
          obtain ⟨⟨x, q⟩, h3, h⟩ := Option.bind_eq_some_iff.1 h
          (try dsimp only at h)
          rw [attr_app s h3, Option.bind_some]
          (try dsimp only)
          split at h
          · cases h
          · rename_i hany
            rw [if_neg hany]
            exact attrs_app n nm _ q t r s m (by omega) h
theorem next_app {fst : Bool} {l r : List UInt8} {t : S32} (s : List UInt8) (hl : l ≠ []) (h : Tk.next fst l = some (t, r)) : Tk.next fst (l ++ 60 :: s) = some (t, r ++ 60 :: s) := by
  unfold Tk.next at h ⊢
  cases h1 : Tk.behind [60, 33, 45, 45] l with
  | some q =>
    rw [h1] at h
    rw [behind_app _ h1]
    (try dsimp only at h ⊢)
    unfold Tk.comment at h ⊢
    obtain ⟨⟨a, b⟩, h2, h⟩ := Option.bind_eq_some_iff.1 h
    rw [upto_app _ (by simp) h2, Option.bind_some]
    (try dsimp only at h ⊢)
    split at h
    · cases h
    · rename_i hc
      rw [if_neg hc]
      obtain ⟨rfl, rfl⟩ := Prod.mk.inj (Option.some.inj h)
      rfl
  | none =>
  rw [h1] at h
  rw [behind_none_lt s hl (by decide) h1]
  (try dsimp only at h ⊢)
  cases h1 : Tk.behind [60, 33, 91, 67, 68, 65, 84, 65, 91] l with
  | some q =>
    rw [h1] at h
    rw [behind_app _ h1]
    (try dsimp only at h ⊢)
    unfold Tk.data at h ⊢
    obtain ⟨⟨a, b⟩, h2, h⟩ := Option.map_eq_some_iff.1 h
    obtain ⟨rfl, rfl⟩ := Prod.mk.inj h
    rw [upto_app _ (by simp) h2]; rfl
  | none =>
  rw [h1] at h
  rw [behind_none_lt s hl (by decide) h1]
  (try dsimp only at h ⊢)
  cases h1 : Tk.behind [60, 63] l with
  | some q =>
    rw [h1] at h
    rw [behind_app _ h1]
    (try dsimp only at h ⊢)
    unfold Tk.prolog at h ⊢
    obtain ⟨⟨a, b⟩, h2, h⟩ := Option.bind_eq_some_iff.1 h
    rw [upto_app _ (by simp) h2, Option.bind_some]
    (try dsimp only at h ⊢)
    split at h
    · rename_i hc
      rw [if_pos hc]
      obtain ⟨rfl, rfl⟩ := Prod.mk.inj (Option.some.inj h)
      rfl
    · cases h
  | none =>
  rw [h1] at h
  rw [behind_none_lt s hl (by decide) h1]
  (try dsimp only at h ⊢)
  cases h1 : Tk.behind [60, 47] l with
  | some q =>
    rw [h1] at h
    rw [behind_app _ h1]
    (try dsimp only at h ⊢)
    unfold Tk.close at h ⊢
    rw [head_app]
    split at h
    · cases h
    · rename_i hh
      rw [if_neg hh]
      obtain ⟨b, h2, h⟩ := Option.map_eq_some_iff.1 h
      obtain ⟨rfl, rfl⟩ := Prod.mk.inj h
      rw [List.drop_append_of_le_length (head_le q), skip_app, behind_app _ h2]; rfl
  | none =>
  rw [h1] at h
  rw [behind_none_lt s hl (by decide) h1]
  (try dsimp only at h ⊢)
  cases h1 : Tk.behind [60] l with
  | some q =>
    rw [h1] at h
    rw [behind_app _ h1]
    (try dsimp only at h ⊢)
    unfold Tk.opening at h ⊢
    rw [head_app]
    split at h
    · cases h
    · rename_i hh
      rw [if_neg hh, List.drop_append_of_le_length (head_le q)]
      exact attrs_app _ _ _ _ _ _ s _ (by rw [List.length_append]; omega) h
  | none =>
  rw [h1] at h
  rw [behind_none_lt s hl (by decide) h1]
  (try dsimp only at h ⊢)
  unfold Tk.text at h ⊢
  (try dsimp only at h ⊢)
  rw [tw_app (by rfl)]
  obtain ⟨x, h2, h⟩ := Option.map_eq_some_iff.1 h
  obtain ⟨rfl, rfl⟩ := Prod.mk.inj h
  rw [h2, List.drop_append_of_le_length (tw_le _)]; rfl
theorem pieces_app : ∀ (n : Nat) (fst : Bool) (l : List UInt8) (ts : List S32) (s : List UInt8) (m : Nat), Tk.pieces n fst l = some ts → l.length + (60 :: s).length < m → ∃ k fst2, (60 :: s).length < k ∧ (l ≠ [] → fst2 = false) ∧ (l = [] → fst2 = fst) ∧ Tk.pieces m fst (l ++ 60 :: s) = (Tk.pieces k fst2 (60 :: s)).map fun us => ts ++ us
  | 0, _, _, _, _, _, h, _ => by simp [Tk.pieces] at h
  | n + 1, fst, l, ts, s, m, h, hm => by
    rw [Tk.pieces] at h
    by_cases hl : l = []
    · rw [if_pos hl] at h
      obtain rfl := Option.some.inj h
      subst hl
      refine ⟨m, fst, by simpa using hm, fun h => absurd rfl h, fun _ => rfl, ?_⟩
      rw [List.nil_append]
      cases Tk.pieces m fst (60 :: s) <;> rfl
    · rw [if_neg hl] at h
      obtain ⟨⟨t, r⟩, h1, h⟩ := Option.bind_eq_some_iff.1 h
      obtain ⟨us, h2, h⟩ := Option.map_eq_some_iff.1 h
      subst h
      have e1 := next_len hl h1
      obtain ⟨m, rfl⟩ : ∃ k, m = k + 1 := ⟨m - 1, by omega⟩
      obtain ⟨k, f2, hk, hf, hf2, e⟩ := pieces_app n false r us s m h2 (by omega)
      refine ⟨k, f2, hk, fun _ => ?_, fun h => absurd h hl, ?_⟩
      · by_cases hr : r = []
        · exact hf2 hr
        · exact hf hr
      · rw [Tk.pieces, if_neg (by simp), next_app s hl h1, Option.bind_some]
        dsimp only
        rw [e]
        cases Tk.pieces k f2 (60 :: s) <;> rfl
theorem pieces_fuel : ∀ (n m : Nat) (fst : Bool) (l : List UInt8), l.length < n → l.length < m → Tk.pieces n fst l = Tk.pieces m fst l := by
  intro n
  induction n with
  | zero => intro m fst l h; omega
  | succ n ih =>
    intro m fst l h1 h2
    obtain ⟨m, rfl⟩ : ∃ k, m = k + 1 := ⟨m - 1, by omega⟩
    rw [Tk.pieces, Tk.pieces]
    by_cases hl : l = []
    · rw [if_pos hl, if_pos hl]
    · rw [if_neg hl, if_neg hl]
      cases hx : Tk.next fst l with
      | none => rfl
      | some z =>
        obtain ⟨t, r⟩ := z
        have := next_len hl hx
        rw [Option.bind_some, Option.bind_some]
        dsimp only
        rw [ih m false r (by omega) (by omega)]
theorem next_first {l r : List UInt8} {t : S32} (h : Tk.next true l = some (t, r)) : Tk.next false l = if t.f0 = 5 then none else some (t, r) := by
  have same : (∀ q, Tk.behind [60, 33, 45, 45] l = none → Tk.behind [60, 33, 91, 67, 68, 65, 84, 65, 91] l = none → Tk.behind [60, 63] l ≠ some q) → Tk.next false l = Tk.next true l := by
    intro hn
    unfold Tk.next
    cases h1 : Tk.behind [60, 33, 45, 45] l with
    | some q => rfl
    | none =>
    (try dsimp only)
    cases h2 : Tk.behind [60, 33, 91, 67, 68, 65, 84, 65, 91] l with
    | some q => rfl
    | none =>
    (try dsimp only)
    cases h3 : Tk.behind [60, 63] l with
    | some q => exact absurd h3 (hn q h1 h2)
    | none => rfl
  cases h1 : Tk.behind [60, 33, 45, 45] l with
  | some q =>
    have h5 : t.f0 = 4 := by
      unfold Tk.next at h
      rw [h1] at h
      unfold Tk.comment at h
      obtain ⟨⟨a, b⟩, _, h⟩ := Option.bind_eq_some_iff.1 h
      (try dsimp only at h)
      split at h
      · cases h
      · obtain ⟨rfl, _⟩ := Prod.mk.inj (Option.some.inj h); rfl
    rw [same (fun q h => by rw [h1] at h; cases h), h, if_neg (by rw [h5]; decide)]
  | none =>
  cases h2 : Tk.behind [60, 33, 91, 67, 68, 65, 84, 65, 91] l with
  | some q =>
    have h5 : t.f0 = 3 := by
      unfold Tk.next at h
      rw [h1] at h
      (try dsimp only at h)
      rw [h2] at h
      obtain ⟨⟨a, b⟩, _, h⟩ := Option.map_eq_some_iff.1 (show (Tk.upto [93, 93, 62] q).map _ = some (t, r) from h)
      obtain ⟨rfl, _⟩ := Prod.mk.inj h; rfl
    rw [same (fun q _ h => by rw [h2] at h; cases h), h, if_neg (by rw [h5]; decide)]
  | none =>
  cases h3 : Tk.behind [60, 63] l with
  | some q =>
    have h5 : t.f0 = 5 := by
      unfold Tk.next at h
      rw [h1] at h
      (try dsimp only at h)
      rw [h2] at h
      (try dsimp only at h)
      rw [h3] at h
      obtain ⟨⟨a, b⟩, _, h⟩ := Option.bind_eq_some_iff.1 (show (Tk.upto [63, 62] q).bind _ = some (t, r) from h)
      (try dsimp only at h)
      split at h
      · obtain ⟨rfl, _⟩ := Prod.mk.inj (Option.some.inj h); rfl
      · cases h
    rw [if_pos h5]
    unfold Tk.next
    rw [h1]
    (try dsimp only)
    rw [h2]
    (try dsimp only)
    rw [h3]
    (try dsimp only)
    unfold Tk.prolog
    cases Tk.upto [63, 62] q <;> rfl
  | none =>
  have h5 : t.f0 ≠ 5 := by
    unfold Tk.next at h
    rw [h1] at h
    (try dsimp only at h)
    rw [h2] at h
    (try dsimp only at h)
    rw [h3] at h
    (try dsimp only at h)
    cases h4 : Tk.behind [60, 47] l with
    | some q =>
      rw [h4] at h
      (try dsimp only at h)
      unfold Tk.close at h
      split at h
      · cases h
      · obtain ⟨b, _, h⟩ := Option.map_eq_some_iff.1 h
        obtain ⟨rfl, _⟩ := Prod.mk.inj h
        exact (by decide : (2 : Int) ≠ 5)
    | none =>
    rw [h4] at h
    (try dsimp only at h)
    cases h6 : Tk.behind [60] l with
    | some q =>
      rw [h6] at h
      (try dsimp only at h)
      unfold Tk.opening at h
      split at h
      · cases h
      · have kind : ∀ (n : Nat) (nm : List UInt8) (ys : List S39) (l : List UInt8), Tk.attrs n nm ys l = some (t, r) → t.f0 = 1 := by
          intro n
          induction n with
          | zero => intro nm ys l h; simp [Tk.attrs] at h
          | succ n ih =>
            intro nm ys l h
            rw [Tk.attrs] at h
            (try dsimp only at h)
            split at h
            · obtain ⟨rfl, _⟩ := Prod.mk.inj (Option.some.inj h); rfl
            · split at h
              · obtain ⟨rfl, _⟩ := Prod.mk.inj (Option.some.inj h); rfl
              · split at h
                · cases h
                · obtain ⟨⟨x, q⟩, h3, h⟩ := Option.bind_eq_some_iff.1 h
                  (try dsimp only at h)
                  split at h
                  · cases h
                  · exact ih _ _ _ h
        rw [kind _ _ _ _ h]; decide
    | none =>
      rw [h6] at h
      (try dsimp only at h)
      unfold Tk.text at h
      (try dsimp only at h)
      obtain ⟨x, _, h⟩ := Option.map_eq_some_iff.1 h
      obtain ⟨rfl, _⟩ := Prod.mk.inj h
      exact (by decide : (3 : Int) ≠ 5)
  rw [same (fun q _ _ h => by rw [h3] at h; cases h), h, if_neg h5]
theorem next_c (fst : Bool) (b : List UInt8) : Tk.next fst (60 :: (99 :: 47 :: 62 :: b)) = some (Tk.tk 1 [99] [] [] true, b) := by
  have hb : ∀ q : List UInt8, (∃ c q', q = c :: q' ∧ c ≠ 99) → Tk.behind (60 :: q) (60 :: (99 :: 47 :: 62 :: b)) = none := by
    rintro q ⟨c, q', rfl, hc⟩
    unfold Tk.behind
    rw [if_neg]
    intro h
    simp only [List.isPrefixOf, Bool.and_eq_true, beq_iff_eq] at h
    exact hc h.2.1
  unfold Tk.next
  rw [hb _ ⟨33, _, rfl, by decide⟩]
  dsimp only
  rw [hb _ ⟨33, _, rfl, by decide⟩]
  dsimp only
  rw [hb _ ⟨63, _, rfl, by decide⟩]
  dsimp only
  rw [hb _ ⟨47, _, rfl, by decide⟩]
  dsimp only
  have h1 : Tk.behind [60] (60 :: (99 :: 47 :: 62 :: b)) = some (99 :: 47 :: 62 :: b) := rfl
  rw [h1]
  dsimp only
  have h2 : Tk.head (99 :: 47 :: 62 :: b) = [99] := by
    show (if Tk.letter 99 = true then 99 :: (47 :: 62 :: b).takeWhile Tk.within else []) = [99]
    rw [if_pos (by decide), List.takeWhile_cons, if_neg (by decide)]
  unfold Tk.opening
  rw [h2, if_neg (by simp)]
  show Tk.attrs (_ + 1) [99] [] (47 :: 62 :: b) = _
  rw [Tk.attrs]
  have h3 : Tk.skip (47 :: 62 :: b) = 47 :: 62 :: b := by unfold Tk.skip; rw [List.dropWhile_cons, if_neg (by decide)]
  have h4 : Tk.behind [62] (47 :: 62 :: b) = none := rfl
  have h5 : Tk.behind [47, 62] (47 :: 62 :: b) = some b := rfl
  (try dsimp only)
  rw [h3, h4]
  (try dsimp only)
  rw [h5]
def isP : List S32 → Bool | t :: _ => t.f0 == 5 | [] => false
theorem pieces_false {n : Nat} {b : List UInt8} {y : List S32} (h : Tk.pieces n true b = some y) : Tk.pieces n false b = if isP y = true then none else some y := by
  cases n with
  | zero => simp [Tk.pieces] at h
  | succ n =>
    rw [Tk.pieces] at h ⊢
    by_cases hb : b = []
    · rw [if_pos hb] at h ⊢
      obtain rfl := Option.some.inj h
      rw [if_neg (by decide)]
    · rw [if_neg hb] at h ⊢
      obtain ⟨⟨t, r⟩, h1, h⟩ := Option.bind_eq_some_iff.1 h
      obtain ⟨us, h2, h⟩ := Option.map_eq_some_iff.1 h
      subst h
      rw [next_first h1]
      by_cases h5 : t.f0 = 5
      · rw [if_pos h5, if_pos (show isP (t :: us) = true from beq_iff_eq.2 h5)]; rfl
      · rw [if_neg h5, if_neg (show ¬ isP ((t, r).1 :: us) = true from fun h => h5 (beq_iff_eq.1 h)), Option.bind_some]
        (try dsimp only)
        rw [h2]; rfl
theorem split_parts (a b : List UInt8) (ha : a.length ≤ 800) (hb : b.length ≤ 800) (x y : List S32) (h1 : Tk.split a = (x, 0)) (h2 : Tk.split b = (y, 0)) :
    Tk.split (a ++ [60, 99, 47, 62] ++ b) = if isP y = true then ([], 5) else (x ++ [Tk.tk 1 [99] [] [] true] ++ y, 0) := by
  have inv : ∀ (l : List UInt8) (z : List S32), l.length ≤ 800 → Tk.split l = (z, 0) → l.any (fun c => !Tk.allowed c) = false ∧ Tk.pieces (l.length + 1) true l = some z := by
    intro l z hl h
    unfold Tk.split at h
    rw [if_neg (by omega)] at h
    by_cases hbad : l.any (fun c => !Tk.allowed c) = true
    · rw [if_pos hbad] at h
      exact absurd (Prod.mk.inj h).2 (by decide)
    · rw [if_neg hbad] at h
      refine ⟨Bool.eq_false_iff.2 hbad, ?_⟩
      cases hp : Tk.pieces (l.length + 1) true l with
      | none => rw [hp] at h; exact absurd (Prod.mk.inj h).2 (by decide)
      | some t => rw [hp] at h; rw [(Prod.mk.inj h).1]
  obtain ⟨a1, a2⟩ := inv a x ha h1
  obtain ⟨b1, b2⟩ := inv b y hb h2
  have hall : (a ++ [60, 99, 47, 62] ++ b).any (fun c => !Tk.allowed c) = false := by rw [List.any_append, List.any_append, a1, b1]; decide
  have hlen : (a ++ [60, 99, 47, 62] ++ b).length = a.length + 4 + b.length := by simp only [List.length_append, List.length_cons, List.length_nil]
  have e : a ++ [60, 99, 47, 62] ++ b = a ++ 60 :: (99 :: 47 :: 62 :: b) := by simp
  unfold Tk.split
  rw [if_neg (by omega), if_neg (by rw [hall]; decide)]
  obtain ⟨k, f2, hk, _, _, hp⟩ := pieces_app _ true a x (99 :: 47 :: 62 :: b) ((a ++ [60, 99, 47, 62] ++ b).length + 1) a2 (by rw [hlen]; simp only [List.length_cons]; omega)
  rw [e] at hp ⊢
  rw [hp]
  obtain ⟨k, rfl⟩ : ∃ m, k = m + 1 := ⟨k - 1, by omega⟩
  rw [Tk.pieces, if_neg (by simp), next_c, Option.bind_some]
  dsimp only
  simp only [List.length_cons] at hk
  have hf := pieces_false b2
  rw [pieces_fuel (b.length + 1) k false b (by omega) (by omega)] at hf
  rw [hf]
  by_cases h5 : isP y = true
  · rw [if_pos h5, if_pos h5]; rfl
  · rw [if_neg h5, if_neg h5]
    simp
theorem awake_tells : newellaw02_awake.f = some true := by kernel_rfl
theorem attr_same (ys : List S39) (hy : ys.length ≤ 1000000) : Ev (fun k => api_Attr_21.f k ys ys) true := by
  have loop : ∀ (d i : Nat), i + d = ys.length → Ev (fun k => api_Attr_35.l0 k ys ys (i : Int)) true := by
    intro d
    induction d with
    | zero =>
      intro i hi
      refine Ev.step (f := fun _ => some _) (fun k => ?_) (Ev.now _)
      rw [api_Attr_35.l0, if_neg (by omega)]
    | succ d ih =>
      intro i hi
      have hw1 : wrap64 ((i : Int) + 1) = ((i + 1 : Nat) : Int) := by unfold wrap64; omega
      refine Ev.step (fun k => ?_) (ih (i + 1) (by omega))
      rw [api_Attr_35.l0, if_pos (by omega), if_pos (by omega), if_pos (by omega), api_Attr_1.f, Option.bind_some, if_pos (by simp), hw1]
  have h := loop ys.length 0 (by omega)
  unfold api_Attr_21.f api_Attr_35.f
  refine Ev.bind (Ev.congr (fun k => if_pos rfl) h) (Ev.now _)
theorem tok_same (L : List S32) (hL : L.length ≤ 1000000) (ha : ∀ t ∈ L, t.f3.length ≤ 1000000) : Ev (fun k => api_Token.f k L L) true := by
  have loop : ∀ (d i : Nat), i + d = L.length → Ev (fun k => api_Token.l0 k L L (i : Int)) true := by
    intro d
    induction d with
    | zero =>
      intro i hi
      refine Ev.step (f := fun _ => some _) (fun k => ?_) (Ev.now _)
      rw [api_Token.l0, if_neg (by omega)]
    | succ d ih =>
      intro i hi
      have hlt : i < L.length := by omega
      have hw1 : wrap64 ((i : Int) + 1) = ((i + 1 : Nat) : Int) := by unfold wrap64; omega
      have hrd : rd_T32 L (i : Int) = L[i] := by unfold rd_T32; rw [Int.toNat_natCast]; simp [List.getD, hlt]
      have h1 := attr_same L[i].f3 (ha _ (List.getElem_mem hlt))
      have h2 : Ev (fun k => newelhelp_Token.f k L[i].f0 L[i].f1 L[i].f2 L[i].f3 L[i].f4 L[i].f0 L[i].f1 L[i].f2 L[i].f3 L[i].f4) true := by
        unfold newelhelp_Token.f
        refine Ev.congr (fun k => (if_pos rfl).trans ((if_pos rfl).trans (if_pos rfl))) (Ev.bind h1 (ev_some fun k => ?_))
        rw [if_pos rfl]; simp
      refine Ev.step (f := fun k => (newelhelp_Token.f k L[i].f0 L[i].f1 L[i].f2 L[i].f3 L[i].f4 L[i].f0 L[i].f1 L[i].f2 L[i].f3 L[i].f4).bind fun t418 => if t418 = true then api_Token.l0 k L L ((i + 1 : Nat) : Int) else some false) (fun k => ?_) (Ev.bind h2 (Ev.congr (fun k => if_pos rfl) (ih (i + 1) (by omega))))
      rw [api_Token.l0, if_pos (by omega), if_pos (by omega), if_pos (by omega), hrd, hw1]
  have h := loop L.length 0 (by omega)
  unfold api_Token.f
  exact Ev.congr (fun k => if_pos rfl) h
theorem attrs_few : ∀ (n : Nat) (nm : List UInt8) (ys : List S39) (l : List UInt8) (t : S32) (r : List UInt8), Tk.attrs n nm ys l = some (t, r) → t.f3.length + r.length ≤ ys.length + l.length
  | 0, _, _, _, _, _, h => by simp [Tk.attrs] at h
  | n + 1, nm, ys, l, t, r, h => by
    rw [Tk.attrs] at h
    (try dsimp only at h)
    have hs := skip_len l
    cases h1 : Tk.behind [62] (Tk.skip l) with
    | some q =>
      rw [h1] at h
      obtain ⟨rfl, rfl⟩ := Prod.mk.inj (Option.some.inj h)
      have := behind_len h1
      show ys.length + _ ≤ _
      omega
    | none =>
      rw [h1] at h
      (try dsimp only at h)
      cases h2 : Tk.behind [47, 62] (Tk.skip l) with
      | some q =>
        rw [h2] at h
        obtain ⟨rfl, rfl⟩ := Prod.mk.inj (Option.some.inj h)
        have := behind_len h2
        show ys.length + _ ≤ _
        omega
      | none =>
        rw [h2] at h
        (try dsimp only at h)
        split at h
        · cases h
        · obtain ⟨⟨x, q⟩, h3, h⟩ := Option.bind_eq_some_iff.1 h
          (try dsimp only at h)
          split at h
          · cases h
          · have h5 := attrs_few n nm _ q t r h
            have h6 := attr_len h3
            rw [List.length_append, List.length_singleton] at h5
            omega
theorem next_few {fst : Bool} {l r : List UInt8} {t : S32} (h : Tk.next fst l = some (t, r)) : t.f3.length ≤ l.length := by
  unfold Tk.next at h
  cases h1 : Tk.behind [60, 33, 45, 45] l with
  | some q =>
    rw [h1] at h
    unfold Tk.comment at h
    obtain ⟨⟨a, b⟩, h2, h⟩ := Option.bind_eq_some_iff.1 h
    (try dsimp only at h)
    split at h
    · cases h
    · obtain ⟨rfl, _⟩ := Prod.mk.inj (Option.some.inj h)
      exact Nat.zero_le _
  | none =>
  rw [h1] at h
  (try dsimp only at h)
  cases h1 : Tk.behind [60, 33, 91, 67, 68, 65, 84, 65, 91] l with
  | some q =>
    rw [h1] at h
    obtain ⟨⟨a, b⟩, h2, h⟩ := Option.map_eq_some_iff.1 (show (Tk.upto [93, 93, 62] q).map _ = some (t, r) from h)
    obtain ⟨rfl, _⟩ := Prod.mk.inj h
    exact Nat.zero_le _
  | none =>
  rw [h1] at h
  (try dsimp only at h)
  cases h1 : Tk.behind [60, 63] l with
  | some q =>
    rw [h1] at h
    obtain ⟨⟨a, b⟩, h2, h⟩ := Option.bind_eq_some_iff.1 (show (Tk.upto [63, 62] q).bind _ = some (t, r) from h)
    (try dsimp only at h)
    split at h
    · obtain ⟨rfl, _⟩ := Prod.mk.inj (Option.some.inj h)
      exact Nat.zero_le _
    · cases h
  | none =>
  rw [h1] at h
  (try dsimp only at h)
  cases h1 : Tk.behind [60, 47] l with
  | some q =>
    rw [h1] at h
    (try dsimp only at h)
    unfold Tk.close at h
    split at h
    · cases h
    · obtain ⟨b, h2, h⟩ := Option.map_eq_some_iff.1 h
      obtain ⟨rfl, _⟩ := Prod.mk.inj h
      exact Nat.zero_le _
  | none =>
  rw [h1] at h
  (try dsimp only at h)
  cases h1 : Tk.behind [60] l with
  | some q =>
    rw [h1] at h
    have e := behind_sum h1
    (try dsimp only at h)
    unfold Tk.opening at h
    split at h
    · cases h
    · have e2 := attrs_few _ _ _ _ _ _ h
      rw [List.length_drop] at e2
      simp only [List.length_cons, List.length_nil] at e e2
      omega
  | none =>
  rw [h1] at h
  (try dsimp only at h)
  unfold Tk.text at h
  (try dsimp only at h)
  obtain ⟨x, _, h⟩ := Option.map_eq_some_iff.1 h
  obtain ⟨rfl, _⟩ := Prod.mk.inj h
  exact Nat.zero_le _
theorem pieces_few : ∀ (n : Nat) (fst : Bool) (l : List UInt8) (ts : List S32), Tk.pieces n fst l = some ts → ts.length ≤ l.length ∧ ∀ t ∈ ts, t.f3.length ≤ l.length
  | 0, _, _, _, h => by simp [Tk.pieces] at h
  | n + 1, fst, l, ts, h => by
    rw [Tk.pieces] at h
    by_cases hl : l = []
    · rw [if_pos hl] at h
      obtain rfl := Option.some.inj h
      exact ⟨Nat.zero_le _, fun t ht => absurd ht (by simp)⟩
    · rw [if_neg hl] at h
      obtain ⟨⟨t, r⟩, h1, h⟩ := Option.bind_eq_some_iff.1 h
      obtain ⟨us, h2, h⟩ := Option.map_eq_some_iff.1 h
      subst h
      have e1 := next_len hl h1
      have e2 := next_few h1
      obtain ⟨e3, e4⟩ := pieces_few n false r us h2
      refine ⟨by rw [List.length_cons]; omega, fun x hx => ?_⟩
      rcases List.mem_cons.1 hx with rfl | hx
      · exact e2
      · have := e4 x hx
        omega
theorem split_few (l : List UInt8) : (Tk.split l).1.length ≤ 20000 ∧ ∀ t ∈ (Tk.split l).1, t.f3.length ≤ 20000 := by
  unfold Tk.split
  by_cases h1 : 20000 < l.length
  · rw [if_pos h1]; exact ⟨Nat.zero_le _, fun t ht => absurd ht (by simp)⟩
  · rw [if_neg h1]
    by_cases h2 : l.any (fun c => !Tk.allowed c) = true
    · rw [if_pos h2]; exact ⟨Nat.zero_le _, fun t ht => absurd ht (by simp)⟩
    · rw [if_neg h2]
      cases hp : Tk.pieces (l.length + 1) true l with
      | none => exact ⟨Nat.zero_le _, fun t ht => absurd ht (by simp)⟩
      | some ts =>
        obtain ⟨e1, e2⟩ := pieces_few _ _ _ _ hp
        exact ⟨by show ts.length ≤ _; omega, fun t ht => by have := e2 t ht; omega⟩
theorem TokenParts : newellaw02_TokenParts.Pure := by
  intro a0 a1 hs0 hs1
  have ha : a0 = Tk.bs a0.data.toList := (bs_data a0).symm
  have hb : a1 = Tk.bs a1.data.toList := (bs_data a1).symm
  rw [ha, hb]
  rw [ha] at hs0
  rw [hb] at hs1
  generalize a0.data.toList = a at *
  generalize a1.data.toList = b at *
  clear ha hb
  have hsa := bs_size a
  have hsb := bs_size b
  rw [hsa] at hs0
  rw [hsb] at hs1
  suffices h : Ev (fun k => newellaw02_TokenParts.f k (Tk.bs a) (Tk.bs b)) true from h.rounds
  have fin : Ev (fun k => newellaw02_TokenParts.j0 k (Tk.bs a) (Tk.bs b) true) true := by
    refine Ev.step (f := fun _ => some _) (fun k => ?_) (Ev.now _)
    rw [newellaw02_TokenParts.j0, if_pos rfl, awake_tells]; rfl
  unfold newellaw02_TokenParts.f
  rw [hsa, hsb]
  by_cases h1 : 800 < a.length
  · exact Ev.congr (fun k => if_pos (by omega)) fin
  refine Ev.congr (fun k => if_neg (by omega)) ?_
  by_cases h2 : 800 < b.length
  · rw [decide_eq_true (show (b.length : Int) > 800 by omega)]; exact fin
  rw [decide_eq_false (show ¬ (b.length : Int) > 800 by omega)]
  obtain ⟨x, e, hx⟩ : ∃ x e, Tk.split a = (x, e) := ⟨_, _, rfl⟩
  obtain ⟨y, f, hy⟩ : ∃ y f, Tk.split b = (y, f) := ⟨_, _, rfl⟩
  have r1 := ref_split a
  have r2 := ref_split b
  have fa := split_few a
  have fb := split_few b
  rw [hx] at r1 fa
  rw [hy] at r2 fb
  have t1 : token_Split.f ((Tk.bs a ++ (⟨#[60, 99, 47, 62]⟩ : ByteArray)) ++ Tk.bs b) = some (Tk.split (a ++ [60, 99, 47, 62] ++ b)) := by
    have : (Tk.bs a ++ (⟨#[60, 99, 47, 62]⟩ : ByteArray)) ++ Tk.bs b = Tk.bs (a ++ [60, 99, 47, 62] ++ b) := by
      rw [show (⟨#[60, 99, 47, 62]⟩ : ByteArray) = Tk.bs [60, 99, 47, 62] from rfl, bs_append, bs_append]
    rw [this]
    unfold token_Split.f
    rw [if_pos (by rw [bs_size]; simp only [List.length_append, List.length_cons, List.length_nil]; omega)]
    rfl
  have hz2 : (Tk.bs a ++ (⟨#[60, 99, 47, 62]⟩ : ByteArray)).size + (Tk.bs b).size ≤ 9223372036854775807 := by
    rw [show (⟨#[60, 99, 47, 62]⟩ : ByteArray) = Tk.bs [60, 99, 47, 62] from rfl, bs_append, bs_size, hsb]
    simp only [List.length_append, List.length_cons, List.length_nil]; omega
  obtain ⟨z, g, hz⟩ : ∃ z g, Tk.split (a ++ [60, 99, 47, 62] ++ b) = (z, g) := ⟨_, _, rfl⟩
  rw [hz] at t1
  have j0 : ∀ r, Ev (fun k => if e = 0 then (newellaw02_TokenParts.j1 k x y z g (f != 0)) else (newellaw02_TokenParts.j1 k x y z g true)) r → Ev (fun k => newellaw02_TokenParts.j0 k (Tk.bs a) (Tk.bs b) false) r := by
    intro r h
    refine Ev.step (f := fun k => (newelref01_Split.f k (Tk.bs a)).bind fun bt435 => ((newelref01_Split.f k (Tk.bs b)).bind fun bt439 => (if (Tk.bs a).size + 4 ≤ 9223372036854775807 then (if (Tk.bs a ++ (⟨#[60, 99, 47, 62]⟩ : ByteArray)).size + (Tk.bs b).size ≤ 9223372036854775807 then ((token_Split.f ((Tk.bs a ++ (⟨#[60, 99, 47, 62]⟩ : ByteArray)) ++ Tk.bs b)).bind fun bt443 => (if bt435.2 = 0 then (newellaw02_TokenParts.j1 k bt435.1 bt439.1 bt443.1 bt443.2 (bt439.2 != 0)) else (newellaw02_TokenParts.j1 k bt435.1 bt439.1 bt443.1 bt443.2 true))) else (none)) else (none)))) (fun k => ?_) (Ev.bind r1 (Ev.bind r2 (Ev.congr (fun k => (if_pos (show (Tk.bs a).size + 4 ≤ 9223372036854775807 by omega)).trans (if_pos hz2)) (Ev.bind (ev_some fun _ => t1) h))))
    rw [newellaw02_TokenParts.j0, if_neg (by decide)]
  have fin1 : Ev (fun k => newellaw02_TokenParts.j1 k x y z g true) true := by
    refine Ev.step (f := fun _ => some _) (fun k => ?_) (Ev.now _)
    rw [newellaw02_TokenParts.j1, if_pos rfl, awake_tells]; rfl
  refine j0 _ ?_
  by_cases he : e = 0
  rotate_left
  · exact Ev.congr (fun k => if_neg he) fin1
  subst he
  refine Ev.congr (fun k => if_pos rfl) ?_
  by_cases hf : f = 0
  rotate_left
  · rw [bne_iff_ne.2 hf]; exact fin1
  subst hf
  have hzz := split_parts a b (by omega) (by omega) x y hx hy
  rw [hz] at hzz
  have j2 : Ev (fun k => newellaw02_TokenParts.j2 k x y z g (isP y)) true := by
    by_cases hp : isP y = true
    · rw [if_pos hp] at hzz
      obtain ⟨rfl, rfl⟩ := Prod.mk.inj hzz
      rw [hp]
      refine Ev.step (f := fun _ => some _) (fun k => ?_) (Ev.now _)
      rw [newellaw02_TokenParts.j2, if_pos rfl, awake_tells]; rfl
    · rw [if_neg hp] at hzz
      obtain ⟨rfl, rfl⟩ := Prod.mk.inj hzz
      rw [Bool.eq_false_iff.2 hp]
      have hs := tok_same (x ++ [Tk.tk 1 [99] [] [] true] ++ y) (by have h1 := fa.1; have h2 := fb.1; simp only [List.length_append, List.length_cons, List.length_nil]; dsimp only at h1 h2; omega) (fun t ht => by
        rcases List.mem_append.1 ht with ht | ht
        · rcases List.mem_append.1 ht with ht | ht
          · have := fa.2 t ht; omega
          · rw [List.mem_singleton] at ht
            rw [ht]; exact Nat.zero_le _
        · have := fb.2 t ht; omega)
      have h1 := fa.1
      have h2 := fb.1
      dsimp only at h1 h2
      refine Ev.step (f := fun k => (api_Token.f k (x ++ [Tk.tk 1 [99] [] [] true] ++ y) (x ++ [Tk.tk 1 [99] [] [] true] ++ y)).bind fun t460 => some t460) (fun k => ?_) (Ev.bind hs (Ev.now _))
      rw [newellaw02_TokenParts.j2, if_neg (by decide), if_pos (by rw [List.length_nil]; omega), List.nil_append, Option.bind_some, if_pos (by omega), Option.bind_some, if_pos (by rw [List.length_append, List.length_singleton]; omega), awake_tells, Option.bind_some, if_pos rfl, if_pos rfl]
      rfl
  cases y with
  | nil =>
    refine Ev.step (fun k => ?_) j2
    show newellaw02_TokenParts.j1 (k + 1) x [] z g false = _
    rw [newellaw02_TokenParts.j1, if_neg (by decide), if_neg (by decide)]
    rfl
  | cons t q =>
    refine Ev.step (fun k => ?_) j2
    show newellaw02_TokenParts.j1 (k + 1) x (t :: q) z g false = _
    rw [newellaw02_TokenParts.j1, if_neg (by decide), if_pos (by simp only [List.length_cons]; omega), if_pos (by simp only [List.length_cons]; omega)]
    rfl
end Go.Proofs.Ytomikblbfappnaa.Pure
