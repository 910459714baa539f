/- Texts put together: what functions of the program compute, and plain words about them. -/
import Derived.Test.YtgdjfcmmpjcaaaaGreatDoorLawSpanBothM1
import Derived.Test.YtgdjfcmmpjcaaaaGreatDoorLawSpanBothM5
import Derived.Test.YtgdjfcmmpjcaaaaGreatDoorLawSpanBothM3
import Derived.Test.YtgdjfcmmpjcaaaaGreatDoorLawSpanBothM2
import Derived.Test.YtgdjfcmmpjcaaaaGreatDoorLawSpanBothM4
import Derived.Test.YtgdjfcmmpjcaaaaGreatDoorProg
import Derived.Test.YtgdjfcmmpjcaaaaGreatDoorRows
import Derived.ChangeArms
import Derived.Deep.DeepHandedRow
import Derived.Shelf.Vars
import Derived.Below
import Derived.Deep.Draws
import Derived.Deep.AppendLies
import Derived.Maps.AppendAt
import Derived.OwnWalk
import Derived.Laws.BytesArg
import Derived.Laws.MakeOwn
import Derived.Laws.OwnMore
import Derived.Deep.OwnRows
import Derived.Tactics
import Derived.Lib.ConvBytes
import Derived.Laws.Slices
import Derived.WalkKit
import Derived.KernelRfl
import Derived.RowKit3
import Derived.Deep.LoopGhost
import Derived.Deep.QuietTactic
import Derived.BigQuiet
import Derived.WideLaws
import Derived.Deep.DeepCutAuto
import Derived.Deep.CutBlock
import Derived.Deep.RegionHeld3
import Derived.Laws.Rows
import Derived.Lib.AppendStr
import Derived.ArgAppend
import Derived.Laws.IdiomCopy
import Derived.OrdersHeld
import Derived.Laws.BitsLemmas
import Derived.RowKit
import Derived.Lib.IndexMore
import Derived.Lib.IndexAny
namespace Go.Proofs.YtgdjfcmmpjcaaaaGreatDoor.Q
open Go.RowKit Go.Proofs.YtgdjfcmmpjcaaaaGreatDoorW.PrintWords Go.Proofs.YtgdjfcmmpjcaaaaGreatDoorW.PrintLast Go.Proofs.YtgdjfcmmpjcaaaaGreatDoorW.Own Go.Proofs.YtgdjfcmmpjcaaaaGreatDoorW.PrintMore
attribute [local go_sem] max2_int min2_int max_two min_two max_three min_three max_four min_four   -- for this text's walks alone
set_option linter.unusedVariables false
set_option linter.unusedSimpArgs false
set_option maxHeartbeats 20000000
set_option maxRecDepth 100000
mutual
def newellaw07_right.l0 : Nat → List (S30) → List (S30) → Int → Option ((List (S30)))
 | 0, _, _, _ => none
 | k + 1, x0, x3, x4 => if x4 < (x0.length : Int) then (newellaw07_right.j1 k x0 x3 x4 (decide (x4 < 12))) else (newellaw07_right.j1 k x0 x3 x4 false)
def newellaw07_right.j1 : Nat → List (S30) → List (S30) → Int → Bool → Option ((List (S30)))
 | 0, _, _, _, _ => none
 | k + 1, x0, x3, x4, x15 => if x15 = true then (if ([] : List (S30)).length + x3.length < 3518437208883 then ((some (([] : List (S30)) ++ x3 : List (S30))).bind fun y406 => (if 0 ≤ x4 then (if x4 < (x0.length : Int) then ((some (([(⟨(rd_T30 x0 x4).f0, (rd_T30 x0 x4).f1, (rd_T30 x0 x4).f2, (rd_T30 x0 x4).f3⟩ : S30)] : List (S30)) : List (S30))).bind fun y410 => (if y406.length + y410.length < 3518437208883 then ((some (y406 ++ y410 : List (S30))).bind fun y413 => ((newelref05_Text.f k y413).bind fun t416 => ((newelref05_Parse.f k t416).bind fun bt417 => ((newelref05_May.f k ((rd_T30 x0 x4).f0) ((rd_T30 x0 x4).f1) ((rd_T30 x0 x4).f2) ((rd_T30 x0 x4).f3)).bind fun t422 => (if t422 = true then (if bt417.2 = 0 then ((api_Span_15.f k bt417.1 y413).bind fun t423 => (if t423 = true then (newellaw07_right.l0 k x0 y413 (wrap64 (x4 + 1))) else (newellaw07_right.l0 k x0 x3 (wrap64 (x4 + 1))))) else (newellaw07_right.l0 k x0 x3 (wrap64 (x4 + 1)))) else (newellaw07_right.l0 k x0 x3 (wrap64 (x4 + 1)))))))) else (none))) else (none)) else (none))) else (none)) else (some x3)
end
def newellaw07_right.f (k : Nat) (l0 : List (S30)) : Option ((List (S30))) := newellaw07_right.l0 k l0 ([] : List (S30)) 0
theorem newellaw07_right.mono_l : ∀ k, (∀ y0 y1 y2, LeO (newellaw07_right.l0 k y0 y1 y2) (newellaw07_right.l0 (k + 1) y0 y1 y2)) ∧ (∀ y0 y1 y2 y3, LeO (newellaw07_right.j1 k y0 y1 y2 y3) (newellaw07_right.j1 (k + 1) y0 y1 y2 y3))
 | 0 => ⟨fun _ _ _ r h => by simp [newellaw07_right.l0] at h, fun _ _ _ _ r h => by simp [newellaw07_right.j1] at h⟩
 | k + 1 => by
  obtain ⟨ih0, ih1⟩ := newellaw07_right.mono_l k
  refine ⟨?_, ?_⟩
  ·intro y0 y1 y2
   unfold newellaw07_right.l0
   have m0 := @api_Span_15.mono
   have m1 := @newelref05_May.mono
   have m2 := @newelref05_Parse.mono
   have m3 := @newelref05_Text.mono
   exact mo
  ·intro y0 y1 y2 y3
   unfold newellaw07_right.j1
   have m0 := @api_Span_15.mono
   have m1 := @newelref05_May.mono
   have m2 := @newelref05_Parse.mono
   have m3 := @newelref05_Text.mono
   exact mo
theorem newellaw07_right.mono : ∀ a0 k, LeO (newellaw07_right.f k a0) (newellaw07_right.f (k + 1) a0) := by
 intro a0 k
 obtain ⟨ih0, ih1⟩ := newellaw07_right.mono_l k
 unfold newellaw07_right.f
 have m0 := @api_Span_15.mono
 have m1 := @newelref05_May.mono
 have m2 := @newelref05_Parse.mono
 have m3 := @newelref05_Text.mono
 exact mo
def newellaw07_right.T5 : Bool × List (List Nat × List Nat) := (true, [([], []), ([0], [0]), ([], []), ([], []), ([2, 3], [2, 3]), ([4], [4]), ([5], [5]), ([1, 6, 1], [1, 6]), ([7, 7, 0, 1, 2, 3, 4, 5, 6, 7], [7])])
def newellaw07_right.B5 : List Nat := [0, 1, 0, 0, 12, 28, 60, 127, 255]
theorem newellaw07_right.tab5 : rtab .any (opsOf Tryz.f6 5) = newellaw07_right.T5 := by kernel_rfl
theorem newellaw07_right.bits5 : waitsOk newellaw07_right.T5.2 newellaw07_right.B5 = true := by kernel_rfl
theorem newellaw07_right.calls (k : Nat) (A0 : Option Addr) (c0 : Nat) (l0 : List (S30)) (r : List (S30)) (w : World) (hr0 : Kd.C k30 w A0 l0.length l0) (hc0 : l0.length ≤ c0) (hG : Glob w) (h : newellaw07_right.f k l0 = some r) :
 Calls Tryz.prog 6 #[.slice A0 l0.length c0] w fun e w' => ∃ v0_ : Value, e = .returned (v0_) ∧ Kd.R k30 30 w' w.heap.size (fun _ => True) v0_ r ∧ Below w.heap.size w w' := by
 have hu30 := Tryz.underlying30
 have HG := Aside0.mk hG
 clear hG
 have HR0 := Aside0.mk hr0
 have HC0 := Aside0.mk hc0
 clear hr0 hc0
 have HB := Aside0.mk (Below.refl w.heap.size w)
 have H : (newellaw07_right.l0 k l0 ([] : List (S30)) 0) = some r := h
 clear h
 have H' := Aside0.mk H
 clear H
 go_enter Tryz.func6, Tryz.ntmps6
 go_wp2
 go_loopg [3, 4] k (fun kq v3 v4 w' => ∃ (x3_1 : List (S30)) (x4_1 : Int), v4 = .int .i64 x4_1 ∧ Aside0 (newellaw07_right.l0 kq l0 x3_1 x4_1 = some r) ∧ Aside0 (kq ≤ k) ∧ Aside0 (Kd.R k30 30 w' w.heap.size (fun _ => True) v3 x3_1) ∧ Aside0 (Below w.heap.size w w'))
 case atStart => exact ⟨(([] : List (S30))), (0), cA, H', ⟨Nat.le_refl _⟩, ⟨by first | exact Kd.R_nil _ _ _ _ _ | exact Kd.N_nil _ _ _ _ _ | exact Kd.V_nil _ _ _ _ _ | exact Kd.Q_nil _ _ _ _ _ | exact Kd.S_nil _ _ _ _ _⟩, ⟨bE⟩⟩
 clear H'
 obtain ⟨x3_1, x4_1, rfl, HA, HK1, HO_3, HB⟩ := hrel
 cases gk with
 | zero => exact absurd HA.out (by simp [newellaw07_right.l0])
 | succ k1 =>
  have H := HA.out
  clear HA
  simp only [newellaw07_right.l0] at H
  have HC2 := Aside0.mk H
  clear H
  go_upto_region 3 with (fail)
  go_cut [15] (fun v15 wc => ∃ (kq : Nat) (x15_1 : Bool), v15 = .bool x15_1 ∧ Aside0 (newellaw07_right.j1 kq l0 x3_1 x4_1 x15_1 = some r) ∧ Aside0 (kq ≤ k1) ∧ Aside0 (Kd.R k30 30 wc w.heap.size (fun _ => True) u3 x3_1) ∧ Aside0 (Below w.heap.size w wc))
  case first =>
   have H := HC2.out
   clear HC2
   by_cases c3 : x4_1 < (l0.length : Int)
   rotate_left
   ·rw [if_neg c3] at H
    have c3b0 := dF c3
    clear c3
    (first | rw [c3b0] | (simp only [i64_w, i32_w]; rw [c3b0]) | skip)
    have H' := Aside0.mk H
    clear H
    go_wp2
    go_meet
    case rel => exact ⟨_, (false), cA, H', ⟨by have := HK1.out; first | omega | exact Nat.le_refl _⟩, ⟨kR HO_3⟩, ⟨bE⟩⟩
   rw [if_pos c3] at H
   have c3b0 := dT c3
   clear c3
   (first | rw [c3b0] | (simp only [i64_w, i32_w]; rw [c3b0]) | skip)
   have H' := Aside0.mk H
   clear H
   go_wp2
   go_meet
   case rel => exact ⟨_, (decide (x4_1 < 12)), cA, H', ⟨by have := HK1.out; first | omega | exact Nat.le_refl _⟩, ⟨kR HO_3⟩, ⟨bE⟩⟩
  clear HC2
  try clear p2
  try clear c3
  try clear c3b0
  obtain ⟨kq, x15_1, rfl, HA, HJ1, HO_3, HB⟩ := hcut
  cases kq with
  | zero => exact absurd HA.out (by simp [newellaw07_right.j1])
  | succ kj1 =>
   have H := HA.out
   clear HA
   simp only [newellaw07_right.j1] at H
   by_cases c4 : x15_1 = true
   rotate_left
   ·replace c4 := Bool.eq_false_iff.mpr c4
    subst c4
    replace H : (some x3_1) = some r := by rw [if_neg nF] at H; exact H
    obtain rfl := Option.some.inj H
    go_wp2
    go_ret
    exact ⟨_, by first | rfl | (simp [errW_none, errW_some] <;> rfl) | (simp [*, errW_none, errW_some] <;> rfl), by (with_reducible repeat (first | apply Kd.R_alloc | apply Kd.R_drewN | apply Kd.R_drew)); exact HO_3.out, bE⟩
   subst c4
   replace H : (if ([] : List (S30)).length + x3_1.length < 3518437208883 then ((some (([] : List (S30)) ++ x3_1 : List (S30))).bind fun y406 => (if 0 ≤ x4_1 then (if x4_1 < (l0.length : Int) then ((some (([(⟨(rd_T30 l0 x4_1).f0, (rd_T30 l0 x4_1).f1, (rd_T30 l0 x4_1).f2, (rd_T30 l0 x4_1).f3⟩ : S30)] : List (S30)) : List (S30))).bind fun y410 => (if y406.length + y410.length < 3518437208883 then ((some (y406 ++ y410 : List (S30))).bind fun y413 => ((newelref05_Text.f kj1 y413).bind fun t416 => ((newelref05_Parse.f kj1 t416).bind fun bt417 => ((newelref05_May.f kj1 ((rd_T30 l0 x4_1).f0) ((rd_T30 l0 x4_1).f1) ((rd_T30 l0 x4_1).f2) ((rd_T30 l0 x4_1).f3)).bind fun t422 => (if t422 = true then (if bt417.2 = 0 then ((api_Span_15.f kj1 bt417.1 y413).bind fun t423 => (if t423 = true then (newellaw07_right.l0 kj1 l0 y413 (wrap64 (x4_1 + 1))) else (newellaw07_right.l0 kj1 l0 x3_1 (wrap64 (x4_1 + 1))))) else (newellaw07_right.l0 kj1 l0 x3_1 (wrap64 (x4_1 + 1)))) else (newellaw07_right.l0 kj1 l0 x3_1 (wrap64 (x4_1 + 1)))))))) else (none))) else (none)) else (none))) else (none)) = some r := by rw [if_pos rfl] at H; exact H
   obtain ⟨c5, H⟩ := gp H
   have LMc5 := Aside0.mk c5
   clear c5
   obtain ⟨y406, hy406⟩ : ∃ y_ : List (S30), y_ = (([] : List (S30)) ++ x3_1) := ⟨_, rfl⟩
   replace H : (if 0 ≤ x4_1 then (if x4_1 < (l0.length : Int) then ((some (([(⟨(rd_T30 l0 x4_1).f0, (rd_T30 l0 x4_1).f1, (rd_T30 l0 x4_1).f2, (rd_T30 l0 x4_1).f3⟩ : S30)] : List (S30)) : List (S30))).bind fun y410 => (if y406.length + y410.length < 3518437208883 then ((some (y406 ++ y410 : List (S30))).bind fun y413 => ((newelref05_Text.f kj1 y413).bind fun t416 => ((newelref05_Parse.f kj1 t416).bind fun bt417 => ((newelref05_May.f kj1 ((rd_T30 l0 x4_1).f0) ((rd_T30 l0 x4_1).f1) ((rd_T30 l0 x4_1).f2) ((rd_T30 l0 x4_1).f3)).bind fun t422 => (if t422 = true then (if bt417.2 = 0 then ((api_Span_15.f kj1 bt417.1 y413).bind fun t423 => (if t423 = true then (newellaw07_right.l0 kj1 l0 y413 (wrap64 (x4_1 + 1))) else (newellaw07_right.l0 kj1 l0 x3_1 (wrap64 (x4_1 + 1))))) else (newellaw07_right.l0 kj1 l0 x3_1 (wrap64 (x4_1 + 1)))) else (newellaw07_right.l0 kj1 l0 x3_1 (wrap64 (x4_1 + 1)))))))) else (none))) else (none)) else (none)) = some r := by first | (rw [hy406]; with_reducible exact H) | (have H2_ := (Option.bind_some _ _).symm.trans H; rw [hy406]; with_reducible exact H2_) | (have H2_ := (Option.bind_some _ _).symm.trans H; with_reducible exact H2_) | with_reducible exact H | (rw [hy406]; exact H) | exact H
   have Ny406 := Aside0.mk hy406
   clear hy406
   obtain ⟨c6, H⟩ := gp H
   have c6b0 := dT c6
   clear c6
   obtain ⟨c7, H⟩ := gp H
   have c7b0 := dT c7
   clear c7
   obtain ⟨y410, hy410⟩ : ∃ y_ : List (S30), y_ = (([(⟨(rd_T30 l0 x4_1).f0, (rd_T30 l0 x4_1).f1, (rd_T30 l0 x4_1).f2, (rd_T30 l0 x4_1).f3⟩ : S30)] : List (S30))) := ⟨_, rfl⟩
   replace H : (if y406.length + y410.length < 3518437208883 then ((some (y406 ++ y410 : List (S30))).bind fun y413 => ((newelref05_Text.f kj1 y413).bind fun t416 => ((newelref05_Parse.f kj1 t416).bind fun bt417 => ((newelref05_May.f kj1 ((rd_T30 l0 x4_1).f0) ((rd_T30 l0 x4_1).f1) ((rd_T30 l0 x4_1).f2) ((rd_T30 l0 x4_1).f3)).bind fun t422 => (if t422 = true then (if bt417.2 = 0 then ((api_Span_15.f kj1 bt417.1 y413).bind fun t423 => (if t423 = true then (newellaw07_right.l0 kj1 l0 y413 (wrap64 (x4_1 + 1))) else (newellaw07_right.l0 kj1 l0 x3_1 (wrap64 (x4_1 + 1))))) else (newellaw07_right.l0 kj1 l0 x3_1 (wrap64 (x4_1 + 1)))) else (newellaw07_right.l0 kj1 l0 x3_1 (wrap64 (x4_1 + 1)))))))) else (none)) = some r := by first | (rw [hy410]; with_reducible exact H) | (have H2_ := (Option.bind_some _ _).symm.trans H; rw [hy410]; with_reducible exact H2_) | (have H2_ := (Option.bind_some _ _).symm.trans H; with_reducible exact H2_) | with_reducible exact H | (rw [hy410]; exact H) | exact H
   have Ny410 := Aside0.mk hy410
   clear hy410
   obtain ⟨c8, H⟩ := gp H
   have LMc8 := Aside0.mk c8
   clear c8
   obtain ⟨y413, hy413⟩ : ∃ y_ : List (S30), y_ = (y406 ++ y410) := ⟨_, rfl⟩
   replace H : ((newelref05_Text.f kj1 y413).bind fun t416 => ((newelref05_Parse.f kj1 t416).bind fun bt417 => ((newelref05_May.f kj1 ((rd_T30 l0 x4_1).f0) ((rd_T30 l0 x4_1).f1) ((rd_T30 l0 x4_1).f2) ((rd_T30 l0 x4_1).f3)).bind fun t422 => (if t422 = true then (if bt417.2 = 0 then ((api_Span_15.f kj1 bt417.1 y413).bind fun t423 => (if t423 = true then (newellaw07_right.l0 kj1 l0 y413 (wrap64 (x4_1 + 1))) else (newellaw07_right.l0 kj1 l0 x3_1 (wrap64 (x4_1 + 1))))) else (newellaw07_right.l0 kj1 l0 x3_1 (wrap64 (x4_1 + 1)))) else (newellaw07_right.l0 kj1 l0 x3_1 (wrap64 (x4_1 + 1))))))) = some r := by first | (rw [hy413]; with_reducible exact H) | (have H2_ := (Option.bind_some _ _).symm.trans H; rw [hy413]; with_reducible exact H2_) | (have H2_ := (Option.bind_some _ _).symm.trans H; with_reducible exact H2_) | with_reducible exact H | (rw [hy413]; exact H) | exact H
   have Ny413 := Aside0.mk hy413
   clear hy413
   replace H := bi H
   obtain ⟨t416, A90, H⟩ := H
   try dsimp only at H
   have A9 := Aside0.mk A90
   clear A90
   replace H := bi H
   obtain ⟨⟨t417, t418⟩, A100, H⟩ := H
   try dsimp only at H
   have A10 := Aside0.mk A100
   clear A100
   replace H := bi H
   obtain ⟨t422, A110, H⟩ := H
   try dsimp only at H
   have A11 := Aside0.mk A110
   clear A110
   by_cases c12 : t422 = true
   rotate_left
   ·replace c12 := Bool.eq_false_iff.mpr c12
    subst c12
    replace H : (newellaw07_right.l0 kj1 l0 x3_1 (wrap64 (x4_1 + 1))) = some r := by rw [if_neg nF] at H; exact H
    have H' := Aside0.mk H
    clear H
    obtain ⟨Ao56, co56, eo56⟩ := Kd.R_slice HO_3.out
    subst eo56
    try go_wp2
    replace HO_3 := Aside0.mk (Kd.R_drew HO_3.out)
    replace HB := Aside0.mk (below_drew1 HB.out)
    have p409 : 0 ≤ (x4_1 : Int) := dA
    have q409 : x4_1 < (l0.length : Int) := dA
    obtain ⟨ad409, e409, hx409_0, hx409_1, hx409_2, hx409_3⟩ := at_T30 HR0.out x4_1 p409 q409
    have hw409_3 := hx409_3
    have hw409_2 := hx409_2
    have hw409_1 := hx409_1
    have hw409_0 := hx409_0
    cases e409
    replace hx409_0 := (HB.out.cell (World.block_lt_of_cell? w _ hx409_0)).trans hx409_0
    replace hx409_1 := (HB.out.cell (World.block_lt_of_cell? w _ hx409_1)).trans hx409_1
    replace hx409_2 := (HB.out.cell (World.block_lt_of_cell? w _ hx409_2)).trans hx409_2
    replace hx409_3 := (HB.out.cell (World.block_lt_of_cell? w _ hx409_3)).trans hx409_3
    replace p409 := eq_true p409
    replace q409 := eq_true q409
    refine start_ (n := 9) (S := fun w' => w'.cell? (ad409.add ((x4_1).toNat * 4)) = some (.string ((rd_T30 l0 x4_1).f0)) ∧ w'.cell? ⟨(ad409.add ((x4_1).toNat * 4)).block, (ad409.add ((x4_1).toNat * 4)).off + 1, none⟩ = some (.string ((rd_T30 l0 x4_1).f1)) ∧ w'.cell? ⟨(ad409.add ((x4_1).toNat * 4)).block, (ad409.add ((x4_1).toNat * 4)).off + 2, none⟩ = some (.bool ((rd_T30 l0 x4_1).f2)) ∧ w'.cell? ⟨(ad409.add ((x4_1).toNat * 4)).block, (ad409.add ((x4_1).toNat * 4)).off + 3, none⟩ = some (.bool ((rd_T30 l0 x4_1).f3))) (ds := []) #[false, false, false, false, false, false, false, false, false] (by kernel_rfl) rfl rfl ⟨((HB.out.cell (World.block_lt_of_cell? w _ hw409_0)).trans hw409_0), ((HB.out.cell (World.block_lt_of_cell? w _ hw409_1)).trans hw409_1), ((HB.out.cell (World.block_lt_of_cell? w _ hw409_2)).trans hw409_2), ((HB.out.cell (World.block_lt_of_cell? w _ hw409_3)).trans hw409_3)⟩ (fun hHeld => ?_); refine with_tabW newellaw07_right.tab5 newellaw07_right.bits5 (fun HT_ HW_ => ?_)
    generalize wc.drew = w57 at HO_3 HB hx409_0 hx409_1 hx409_2 hx409_3 hHeld ⊢
    refine pz 0 (some 18) HT_ ?_
    refine pz 2 (some 20) HT_ ?_
    refine pz 3 (some 21) HT_ ?_
    refine pz 4 (some 22) HT_ ?_
    refine tm 5 (some 23) HT_ HW_ hHeld ?_
    refine join_ (σ := Value × Value) 2 #[true, true, true, true, true, true, true, false, false] (fun s_ => [(19, s_.1), (24, s_.2)]) (fun s_ w' => (w'.cell? (ad409.add ((x4_1).toNat * 4)) = some (.string ((rd_T30 l0 x4_1).f0)) ∧ w'.cell? ⟨(ad409.add ((x4_1).toNat * 4)).block, (ad409.add ((x4_1).toNat * 4)).off + 1, none⟩ = some (.string ((rd_T30 l0 x4_1).f1)) ∧ w'.cell? ⟨(ad409.add ((x4_1).toNat * 4)).block, (ad409.add ((x4_1).toNat * 4)).off + 2, none⟩ = some (.bool ((rd_T30 l0 x4_1).f2)) ∧ w'.cell? ⟨(ad409.add ((x4_1).toNat * 4)).block, (ad409.add ((x4_1).toNat * 4)).off + 3, none⟩ = some (.bool ((rd_T30 l0 x4_1).f3))) ∧ (Kd.R k30 30 w' w.heap.size (fun k_ => some k_ ≠ (s_.2 : Value).ownBlock ∧ some k_ ≠ (.slice Ao56 x3_1.length co56 : Value).ownBlock) s_.1 y406) ∧ (Kd.R k30 30 w' w.heap.size (fun k_ => some k_ ≠ (s_.1 : Value).ownBlock ∧ some k_ ≠ (.slice Ao56 x3_1.length co56 : Value).ownBlock) s_.2 y410) ∧ (Kd.R k30 30 w' w.heap.size (fun k_ => some k_ ≠ (s_.1 : Value).ownBlock ∧ some k_ ≠ (s_.2 : Value).ownBlock) (.slice Ao56 x3_1.length co56) x3_1) ∧ (Below w.heap.size w w')) ?_ ?_
    rotate_left
    ·intro hCont
     refine two_ (i := 1) (j := 6) (Ni := some 19) (Nj := some 24) #[true, true, true, true, true, true, false, false, false] #[true, false, true, true, true, true, true, false, false] rfl rfl rfl rfl (two_of HT_.out (by kernel_rfl)) (by decide) (by decide) (fun K hK => ?_) (fun K hK => ?_)
     ·skip
      refine Kd.R_append_rows_step k30 (w0 := w) w.heap.size (by rfl) (.const (.slice none 0 0)) (.tmp 18) 22 30 (.agg #[(.string ⟨#[]⟩), (.string ⟨#[]⟩), (.bool false), (.bool false)]) 40 rfl Tryz.underlying22 info30 rfl (by decide) (by omega) (.slice none 0 0) ([] : List (S30)) x3_1 _ _ _ (fun k_ => some k_ ≠ (.slice Ao56 x3_1.length co56 : Value).ownBlock) (fun _ => False) rfl rfl ?aO ?aR (fun _ _ h => h) (fun _ h => h.elim) ?aF ?aB ?aS ?aL ?_
      (case aR => repeat (first | exact (Kd.R_reads' HO_3.out).2.2 | (with_reducible refine Kd.C_alloc ?_ _) | (with_reducible refine Kd.C_drewN ?_ _) | (with_reducible refine Kd.C_drew ?_)))
      (case aB => exact bE)
      (case aF => exact (fun k_ hk => Kd.fresh' (Kd.R_lt (kR HO_3)) k_ hk))
      (case aO => exact ((Kd.R_nil _ _ _ _ (fun k_ => some k_ ≠ (.slice Ao56 x3_1.length co56 : Value).ownBlock))))
      (case aS => exact (below_size bE))
      (case aL => have := LMc5.out; omega)
      intro v407 w58 ho hb hg hat
      rw [← Ny406.out] at ho
      replace HO_3 := Aside0.mk (Kd.R_after (Kd.R_apart_nil (kR HO_3)) hg hat)
      replace HB := Aside0.mk (hb)
      have HO408 := Aside0.mk (ho)
      clear ho hb hg hat
      refine hK.out _ _ ⟨((HB.out.cell (World.block_lt_of_cell? w _ hw409_0)).trans hw409_0), ((HB.out.cell (World.block_lt_of_cell? w _ hw409_1)).trans hw409_1), ((HB.out.cell (World.block_lt_of_cell? w _ hw409_2)).trans hw409_2), ((HB.out.cell (World.block_lt_of_cell? w _ hw409_3)).trans hw409_3)⟩ (fun hHeld => ?_)
      clear hK K
      refine nz (some 19) ?_
      refine on 6 (some 24) HT_ (fun K hK => ?_)
      refine Kd.R_lit_step k30 _ 30 ?hg (N := 24) ?hd (xs := ([(⟨(rd_T30 l0 x4_1).f0, (rd_T30 l0 x4_1).f1, (rd_T30 l0 x4_1).f2, (rd_T30 l0 x4_1).f3⟩ : S30)] : List (S30))) (inner := [.string ((rd_T30 l0 x4_1).f0), .string ((rd_T30 l0 x4_1).f1), .bool ((rd_T30 l0 x4_1).f2), .bool ((rd_T30 l0 x4_1).f3)]) (ok := fun _ => True) (okp := fun _ => True) ?hr ?hp (fun _ hk => hk) trivial (Below.refl _ _) (Nat.le_refl _) (by simp) ?_; (case hd => rfl); (case hg => rfl); (case hr => first | (go_simp; done) | (go_simp; rfl)); (case hp => exact (Reps.c4 (show Kd.M k30 _ _ _ (⟨(rd_T30 l0 x4_1).f0, (rd_T30 l0 x4_1).f1, (rd_T30 l0 x4_1).f2, (rd_T30 l0 x4_1).f3⟩ : S30) [.string ((rd_T30 l0 x4_1).f0), .string ((rd_T30 l0 x4_1).f1), .bool ((rd_T30 l0 x4_1).f2), .bool ((rd_T30 l0 x4_1).f3)] from (k30_mkM _ _ _ (⟨(rd_T30 l0 x4_1).f0, (rd_T30 l0 x4_1).f1, (rd_T30 l0 x4_1).f2, (rd_T30 l0 x4_1).f3⟩ : S30) )) (Reps.none _ _)))
      intro v411 w59 ho60 hb hg_ hnew_
      clear hg_ hnew_
      (first | rw [← Ny410.out] at ho60 | (simp only [Int.reduceToNat] at ho60; rw [← Ny410.out] at ho60))
      have HO412 := Aside0.mk (Kd.R_lower (Kd.R_new' (Kd.R_new' ho60 (Kd.R_lt (kR HO_3))) (Kd.R_lt (kR HO408))) (below_size bE))
      replace HO_3 := Aside0.mk (Kd.R_elder' (kR HO_3) (Kd.R_base ho60) hb)
      replace HO408 := Aside0.mk (Kd.R_elder' (kR HO408) (Kd.R_base ho60) hb)
      replace HB := sB hb
      clear hb ho60
      refine hK.out _ _ ⟨((HB.out.cell (World.block_lt_of_cell? w _ hw409_0)).trans hw409_0), ((HB.out.cell (World.block_lt_of_cell? w _ hw409_1)).trans hw409_1), ((HB.out.cell (World.block_lt_of_cell? w _ hw409_2)).trans hw409_2), ((HB.out.cell (World.block_lt_of_cell? w _ hw409_3)).trans hw409_3)⟩ (fun hHeld => ?_)
      clear hK K
      refine nz (some 24) ?_
      exact norm_ (by simp only [putAll, Act.put, List.setIfInBounds_toArray, List.set_cons_zero, List.set_cons_succ]) (hCont (v407, v411) _ ⟨hHeld, (by (with_reducible repeat (first | apply Kd.R_alloc | apply Kd.R_drewN | apply Kd.R_drew)); exact Kd.R_mono HO408.out (fun _ hk => ⟨hk.2, hk.1⟩)), (by (with_reducible repeat (first | apply Kd.R_alloc | apply Kd.R_drewN | apply Kd.R_drew)); exact Kd.R_mono HO412.out (fun _ hk => ⟨hk.2, hk.1.2⟩)), (by (with_reducible repeat (first | apply Kd.R_alloc | apply Kd.R_drewN | apply Kd.R_drew)); exact Kd.R_mono HO_3.out (fun _ hk => ⟨hk.1.2, hk.2⟩)), bE⟩)
     ·skip
      refine Kd.R_lit_step k30 _ 30 ?hg (N := 24) ?hd (xs := ([(⟨(rd_T30 l0 x4_1).f0, (rd_T30 l0 x4_1).f1, (rd_T30 l0 x4_1).f2, (rd_T30 l0 x4_1).f3⟩ : S30)] : List (S30))) (inner := [.string ((rd_T30 l0 x4_1).f0), .string ((rd_T30 l0 x4_1).f1), .bool ((rd_T30 l0 x4_1).f2), .bool ((rd_T30 l0 x4_1).f3)]) (ok := fun _ => True) (okp := fun _ => True) ?hr ?hp (fun _ hk => hk) trivial (Below.refl _ _) (Nat.le_refl _) (by simp) ?_; (case hd => rfl); (case hg => rfl); (case hr => first | (go_simp; done) | (go_simp; rfl)); (case hp => exact (Reps.c4 (show Kd.M k30 _ _ _ (⟨(rd_T30 l0 x4_1).f0, (rd_T30 l0 x4_1).f1, (rd_T30 l0 x4_1).f2, (rd_T30 l0 x4_1).f3⟩ : S30) [.string ((rd_T30 l0 x4_1).f0), .string ((rd_T30 l0 x4_1).f1), .bool ((rd_T30 l0 x4_1).f2), .bool ((rd_T30 l0 x4_1).f3)] from (k30_mkM _ _ _ (⟨(rd_T30 l0 x4_1).f0, (rd_T30 l0 x4_1).f1, (rd_T30 l0 x4_1).f2, (rd_T30 l0 x4_1).f3⟩ : S30) )) (Reps.none _ _)))
      intro v411 w58 ho59 hb hg_ hnew_
      clear hg_ hnew_
      (first | rw [← Ny410.out] at ho59 | (simp only [Int.reduceToNat] at ho59; rw [← Ny410.out] at ho59))
      have HO412 := Aside0.mk (Kd.R_lower (Kd.R_new' ho59 (Kd.R_lt (kR HO_3))) (below_size bE))
      replace HO_3 := Aside0.mk (Kd.R_elder' (kR HO_3) (Kd.R_base ho59) hb)
      replace HB := sB hb
      clear hb ho59
      refine hK.out _ _ ⟨((HB.out.cell (World.block_lt_of_cell? w _ hw409_0)).trans hw409_0), ((HB.out.cell (World.block_lt_of_cell? w _ hw409_1)).trans hw409_1), ((HB.out.cell (World.block_lt_of_cell? w _ hw409_2)).trans hw409_2), ((HB.out.cell (World.block_lt_of_cell? w _ hw409_3)).trans hw409_3)⟩ (fun hHeld => ?_)
      clear hK K
      refine nz (some 24) ?_
      refine on 1 (some 19) HT_ (fun K hK => ?_)
      refine Kd.R_append_rows_step k30 (w0 := w) w.heap.size (by rfl) (.const (.slice none 0 0)) (.tmp 18) 22 30 (.agg #[(.string ⟨#[]⟩), (.string ⟨#[]⟩), (.bool false), (.bool false)]) 40 rfl Tryz.underlying22 info30 rfl (by decide) (by omega) (.slice none 0 0) ([] : List (S30)) x3_1 _ _ _ (fun k_ => some k_ ≠ (.slice Ao56 x3_1.length co56 : Value).ownBlock ∧ some k_ ≠ (v411 : Value).ownBlock) (fun _ => False) rfl rfl ?aO ?aR (fun _ _ h => h) (fun _ h => h.elim) ?aF ?aB ?aS ?aL ?_
      (case aR => repeat (first | exact (Kd.R_reads' HO_3.out).2.2 | (with_reducible refine Kd.C_alloc ?_ _) | (with_reducible refine Kd.C_drewN ?_ _) | (with_reducible refine Kd.C_drew ?_)))
      (case aB => exact bE)
      (case aF => exact (fun k_ hk => ⟨Kd.fresh' (Kd.R_lt (kR HO_3)) k_ hk, Kd.fresh' (Kd.R_lt (kR HO412)) k_ hk⟩))
      (case aO => exact ((Kd.R_nil _ _ _ _ (fun k_ => some k_ ≠ (.slice Ao56 x3_1.length co56 : Value).ownBlock ∧ some k_ ≠ (v411 : Value).ownBlock))))
      (case aS => exact (below_size bE))
      (case aL => have := LMc5.out; omega)
      intro v407 w60 ho hb hg hat
      rw [← Ny406.out] at ho
      replace HO_3 := Aside0.mk (Kd.R_after (Kd.R_apart_nil (kR HO_3)) hg hat)
      replace HO412 := Aside0.mk (Kd.R_after (Kd.R_apart_nil (kR HO412)) hg hat)
      replace HB := Aside0.mk (hb)
      have HO408 := Aside0.mk (ho)
      clear ho hb hg hat
      refine hK.out _ _ ⟨((HB.out.cell (World.block_lt_of_cell? w _ hw409_0)).trans hw409_0), ((HB.out.cell (World.block_lt_of_cell? w _ hw409_1)).trans hw409_1), ((HB.out.cell (World.block_lt_of_cell? w _ hw409_2)).trans hw409_2), ((HB.out.cell (World.block_lt_of_cell? w _ hw409_3)).trans hw409_3)⟩ (fun hHeld => ?_)
      clear hK K
      refine nz (some 19) ?_
      exact norm_ (by simp only [putAll, Act.put, List.setIfInBounds_toArray, List.set_cons_zero, List.set_cons_succ]) (hCont (v407, v411) _ ⟨hHeld, (by (with_reducible repeat (first | apply Kd.R_alloc | apply Kd.R_drewN | apply Kd.R_drew)); exact Kd.R_mono HO408.out (fun _ hk => ⟨hk.2, hk.1⟩)), (by (with_reducible repeat (first | apply Kd.R_alloc | apply Kd.R_drewN | apply Kd.R_drew)); exact Kd.R_mono HO412.out (fun _ hk => ⟨hk.2, hk.1.2⟩)), (by (with_reducible repeat (first | apply Kd.R_alloc | apply Kd.R_drewN | apply Kd.R_drew)); exact Kd.R_mono HO_3.out (fun _ hk => ⟨hk.2, hk.1.2⟩)), bE⟩)
    rintro ⟨v407, v411⟩ w61 ⟨hS_, h0_, h1_, h2_, h3_⟩
    have HO408 : Aside0 (Kd.R k30 30 w61 w.heap.size (fun k_ => some k_ ≠ (v411 : Value).ownBlock ∧ some k_ ≠ (.slice Ao56 x3_1.length co56 : Value).ownBlock) v407 y406) := ⟨h0_⟩
    have HO412 : Aside0 (Kd.R k30 30 w61 w.heap.size (fun k_ => some k_ ≠ (v407 : Value).ownBlock ∧ some k_ ≠ (.slice Ao56 x3_1.length co56 : Value).ownBlock) v411 y410) := ⟨h1_⟩
    replace HO_3 : Aside0 (Kd.R k30 30 w61 w.heap.size (fun k_ => some k_ ≠ (v407 : Value).ownBlock ∧ some k_ ≠ (v411 : Value).ownBlock) (.slice Ao56 x3_1.length co56) x3_1) := ⟨h2_⟩
    replace HB : Aside0 (Below w.heap.size w w61) := ⟨h3_⟩
    clear h0_ h1_ h2_ h3_
    have hHeld : w61.cell? (ad409.add ((x4_1).toNat * 4)) = some (.string ((rd_T30 l0 x4_1).f0)) ∧ w61.cell? ⟨(ad409.add ((x4_1).toNat * 4)).block, (ad409.add ((x4_1).toNat * 4)).off + 1, none⟩ = some (.string ((rd_T30 l0 x4_1).f1)) ∧ w61.cell? ⟨(ad409.add ((x4_1).toNat * 4)).block, (ad409.add ((x4_1).toNat * 4)).off + 2, none⟩ = some (.bool ((rd_T30 l0 x4_1).f2)) ∧ w61.cell? ⟨(ad409.add ((x4_1).toNat * 4)).block, (ad409.add ((x4_1).toNat * 4)).off + 3, none⟩ = some (.bool ((rd_T30 l0 x4_1).f3)) := hS_
    obtain ⟨Ao63, co63, eo63⟩ := Kd.R_slice HO412.out
    (first | subst eo63 | (injection eo63 with f1_ f2_ f3_; have f4_ := f1_.symm; have f5_ := f3_.symm; clear f1_ f2_ f3_; subst f4_; subst f5_))
    refine norm_ (a' := ?_) ?_ ?_
    rotate_left
    ·simp only [putAll, Act.put, List.setIfInBounds_toArray, List.set_cons_zero, List.set_cons_succ]
     rfl
    refine on 7 (some 25) HT_ (fun K hK => ?_)
    refine Kd.R_append_rows_step k30 (w0 := w) w.heap.size (by rfl) (.tmp 19) (.tmp 24) 22 30 (.agg #[(.string ⟨#[]⟩), (.string ⟨#[]⟩), (.bool false), (.bool false)]) 40 rfl Tryz.underlying22 info30 rfl (by decide) (by omega) v407 y406 y410 _ _ _ (fun k_ => some k_ ≠ (.slice Ao56 x3_1.length co56 : Value).ownBlock ∧ some k_ ≠ (.slice Ao63 y410.length co63 : Value).ownBlock) (fun _ => False) rfl rfl ?aO ?aR (fun _ _ h => h) (fun _ h => h.elim) ?aF ?aB ?aS ?aL ?_
    (case aR => repeat (first | exact (Kd.R_reads' HO412.out).2.2 | (with_reducible refine Kd.C_alloc ?_ _) | (with_reducible refine Kd.C_drewN ?_ _) | (with_reducible refine Kd.C_drew ?_)))
    (case aB => exact bE)
    (case aF => exact (fun k_ hk => ⟨Kd.fresh' (Kd.R_lt (kR HO_3)) k_ hk, Kd.fresh' (Kd.R_lt (kR HO412)) k_ hk⟩))
    (case aO => exact (by (with_reducible repeat (first | apply Kd.R_alloc | apply Kd.R_drewN | apply Kd.R_drew)); exact Kd.R_mono HO408.out (fun _ hk => ⟨hk.2, hk.1⟩)))
    (case aS => exact (below_size bE))
    (case aL => have := LMc8.out; omega)
    intro v414 w62 ho hb hg hat
    rw [← Ny413.out] at ho
    replace HO_3 := Aside0.mk (Kd.R_after (ok := (fun k_ => some k_ ≠ (.slice Ao63 y410.length co63 : Value).ownBlock)) (by (with_reducible repeat (first | apply Kd.R_alloc | apply Kd.R_drewN | apply Kd.R_drew)); exact Kd.R_mono HO_3.out (fun _ hk => ⟨hk.2, hk.1⟩)) hg hat)
    replace HO412 := Aside0.mk (Kd.R_after (ok := (fun k_ => some k_ ≠ (.slice Ao56 x3_1.length co56 : Value).ownBlock)) (by (with_reducible repeat (first | apply Kd.R_alloc | apply Kd.R_drewN | apply Kd.R_drew)); exact Kd.R_mono HO412.out (fun _ hk => ⟨hk.2, hk.1⟩)) hg hat)
    replace HB := Aside0.mk (hb)
    have HO415 := Aside0.mk (ho)
    clear HO408
    clear ho hb hg hat
    refine hK.out _ _ ⟨((HB.out.cell (World.block_lt_of_cell? w _ hw409_0)).trans hw409_0), ((HB.out.cell (World.block_lt_of_cell? w _ hw409_1)).trans hw409_1), ((HB.out.cell (World.block_lt_of_cell? w _ hw409_2)).trans hw409_2), ((HB.out.cell (World.block_lt_of_cell? w _ hw409_3)).trans hw409_3)⟩ (fun hHeld => ?_)
    clear hK K
    refine nz (some 25) ?_
    refine pz 8 (some 5) HT_ ?_
    refine done_ (done_of HT_.out (by kernel_rfl)) ?_
    obtain ⟨Ao64, co64, eo64⟩ := Kd.R_slice HO415.out
    subst eo64
    try go_wp2_with (first | (refine gl (some 28) Tryz.func13 #[.slice Ao64 y413.length co64] ?_; (with_reducible refine (newelref05_Text.calls kj1 _ _ y413 t416 _ ?side1 ?side2 (gS HG) A9.out).mono ?_); (case side1 => repeat (first | exact (Kd.R_reads' HO415.out).2.2 | (with_reducible refine Kd.C_alloc ?_ _) | (with_reducible refine Kd.C_drewN ?_ _) | (with_reducible refine Kd.C_drew ?_))); (case side2 => exact (Kd.R_reads' HO415.out).2.1); rintro e w65 ⟨rfl, hb⟩; refine ⟨_, rfl, ?_⟩; replace HO_3 := rB HO_3 hb; replace HO412 := rB HO412 hb; replace HO415 := rB HO415 hb; replace HB := sB hb; (try clear hb)) | (refine gl (some 29) Tryz.func12 #[.string t416] ?_; (with_reducible refine (newelref05_Parse.calls kj1 t416 t417 t418 _ (gS HG) A10.out).mono ?_); rintro e w66 ⟨v419, rfl, ho0, hb⟩; refine ⟨_, rfl, ?_⟩; have HO420 := Aside0.mk (Kd.R_lower (Kd.R_new' (Kd.R_new' (Kd.R_new' ho0 (Kd.R_lt (kR HO_3))) (Kd.R_lt (kR HO412))) (Kd.R_lt (kR HO415))) (below_size bE)); replace HO_3 := Aside0.mk (Kd.R_elder' (kR HO_3) (Kd.R_base ho0) hb); replace HO412 := Aside0.mk (Kd.R_elder' (kR HO412) (Kd.R_base ho0) hb); replace HO415 := Aside0.mk (Kd.R_elder' (kR HO415) (Kd.R_base ho0) hb); replace HB := sB hb; (try clear hb); (try clear ho0); have p421 : 0 ≤ (x4_1 : Int) := dA; have q421 : x4_1 < (l0.length : Int) := dA; obtain ⟨ad421, e421, hx421_0, hx421_1, hx421_2, hx421_3⟩ := at_T30 HR0.out x4_1 p421 q421; obtain rfl : ad409 = ad421 := (by injection e421); replace hx421_0 := (HB.out.cell (World.block_lt_of_cell? w _ hx421_0)).trans hx421_0; replace hx421_1 := (HB.out.cell (World.block_lt_of_cell? w _ hx421_1)).trans hx421_1; replace hx421_2 := (HB.out.cell (World.block_lt_of_cell? w _ hx421_2)).trans hx421_2; replace hx421_3 := (HB.out.cell (World.block_lt_of_cell? w _ hx421_3)).trans hx421_3; replace p421 := eq_true p421; replace q421 := eq_true q421) | (refine gl (some 36) Tryz.func14 #[.agg #[.string ((rd_T30 l0 x4_1).f0), .string ((rd_T30 l0 x4_1).f1), .bool ((rd_T30 l0 x4_1).f2), .bool ((rd_T30 l0 x4_1).f3)]] ?_; (with_reducible refine (newelref05_May.calls kj1 ((rd_T30 l0 x4_1).f0) ((rd_T30 l0 x4_1).f1) ((rd_T30 l0 x4_1).f2) ((rd_T30 l0 x4_1).f3) false _ (gS HG) A11.out).mono ?_); rintro e w67 ⟨rfl, hb⟩; refine ⟨_, rfl, ?_⟩; replace HO_3 := rB HO_3 hb; replace HO412 := rB HO412 hb; replace HO415 := rB HO415 hb; replace HO420 := rB HO420 hb; replace HB := sB hb; (try clear hb)))
    go_roundg kj1
    case measure => have := HK1.out; have := HJ1.out; omega
    case rel => exact ⟨(x3_1), (wrap64 (x4_1 + 1)), cA, H', ⟨by have := HK1.out; have := HJ1.out; omega⟩, ⟨by (with_reducible repeat (first | apply Kd.R_alloc | apply Kd.R_drewN | apply Kd.R_drew)); exact Kd.R_mono HO_3.out (fun _ hk => trivial)⟩, ⟨bE⟩⟩
   subst c12
   replace H : (if t418 = 0 then ((api_Span_15.f kj1 t417 y413).bind fun t423 => (if t423 = true then (newellaw07_right.l0 kj1 l0 y413 (wrap64 (x4_1 + 1))) else (newellaw07_right.l0 kj1 l0 x3_1 (wrap64 (x4_1 + 1))))) else (newellaw07_right.l0 kj1 l0 x3_1 (wrap64 (x4_1 + 1)))) = some r := by rw [if_pos rfl] at H; exact H
   by_cases c13 : t418 = 0
   rotate_left
   ·rw [if_neg c13] at H
    obtain ⟨c13b0, c13b1⟩ := eqF c13
    have H' := Aside0.mk H
    clear H
    obtain ⟨Ao44, co44, eo44⟩ := Kd.R_slice HO_3.out
    subst eo44
    try go_wp2
    replace HO_3 := Aside0.mk (Kd.R_drew HO_3.out)
    replace HB := Aside0.mk (below_drew1 HB.out)
    have p409 : 0 ≤ (x4_1 : Int) := dA
    have q409 : x4_1 < (l0.length : Int) := dA
    obtain ⟨ad409, e409, hx409_0, hx409_1, hx409_2, hx409_3⟩ := at_T30 HR0.out x4_1 p409 q409
    have hw409_3 := hx409_3
    have hw409_2 := hx409_2
    have hw409_1 := hx409_1
    have hw409_0 := hx409_0
    cases e409
    replace hx409_0 := (HB.out.cell (World.block_lt_of_cell? w _ hx409_0)).trans hx409_0
    replace hx409_1 := (HB.out.cell (World.block_lt_of_cell? w _ hx409_1)).trans hx409_1
    replace hx409_2 := (HB.out.cell (World.block_lt_of_cell? w _ hx409_2)).trans hx409_2
    replace hx409_3 := (HB.out.cell (World.block_lt_of_cell? w _ hx409_3)).trans hx409_3
    replace p409 := eq_true p409
    replace q409 := eq_true q409
    refine start_ (n := 9) (S := fun w' => w'.cell? (ad409.add ((x4_1).toNat * 4)) = some (.string ((rd_T30 l0 x4_1).f0)) ∧ w'.cell? ⟨(ad409.add ((x4_1).toNat * 4)).block, (ad409.add ((x4_1).toNat * 4)).off + 1, none⟩ = some (.string ((rd_T30 l0 x4_1).f1)) ∧ w'.cell? ⟨(ad409.add ((x4_1).toNat * 4)).block, (ad409.add ((x4_1).toNat * 4)).off + 2, none⟩ = some (.bool ((rd_T30 l0 x4_1).f2)) ∧ w'.cell? ⟨(ad409.add ((x4_1).toNat * 4)).block, (ad409.add ((x4_1).toNat * 4)).off + 3, none⟩ = some (.bool ((rd_T30 l0 x4_1).f3))) (ds := []) #[false, false, false, false, false, false, false, false, false] (by kernel_rfl) rfl rfl ⟨((HB.out.cell (World.block_lt_of_cell? w _ hw409_0)).trans hw409_0), ((HB.out.cell (World.block_lt_of_cell? w _ hw409_1)).trans hw409_1), ((HB.out.cell (World.block_lt_of_cell? w _ hw409_2)).trans hw409_2), ((HB.out.cell (World.block_lt_of_cell? w _ hw409_3)).trans hw409_3)⟩ (fun hHeld => ?_); refine with_tabW newellaw07_right.tab5 newellaw07_right.bits5 (fun HT_ HW_ => ?_)
    generalize wc.drew = w45 at HO_3 HB hx409_0 hx409_1 hx409_2 hx409_3 hHeld ⊢
    refine pz 0 (some 18) HT_ ?_
    refine pz 2 (some 20) HT_ ?_
    refine pz 3 (some 21) HT_ ?_
    refine pz 4 (some 22) HT_ ?_
    refine tm 5 (some 23) HT_ HW_ hHeld ?_
    refine join_ (σ := Value × Value) 2 #[true, true, true, true, true, true, true, false, false] (fun s_ => [(19, s_.1), (24, s_.2)]) (fun s_ w' => (w'.cell? (ad409.add ((x4_1).toNat * 4)) = some (.string ((rd_T30 l0 x4_1).f0)) ∧ w'.cell? ⟨(ad409.add ((x4_1).toNat * 4)).block, (ad409.add ((x4_1).toNat * 4)).off + 1, none⟩ = some (.string ((rd_T30 l0 x4_1).f1)) ∧ w'.cell? ⟨(ad409.add ((x4_1).toNat * 4)).block, (ad409.add ((x4_1).toNat * 4)).off + 2, none⟩ = some (.bool ((rd_T30 l0 x4_1).f2)) ∧ w'.cell? ⟨(ad409.add ((x4_1).toNat * 4)).block, (ad409.add ((x4_1).toNat * 4)).off + 3, none⟩ = some (.bool ((rd_T30 l0 x4_1).f3))) ∧ (Kd.R k30 30 w' w.heap.size (fun k_ => some k_ ≠ (s_.2 : Value).ownBlock ∧ some k_ ≠ (.slice Ao44 x3_1.length co44 : Value).ownBlock) s_.1 y406) ∧ (Kd.R k30 30 w' w.heap.size (fun k_ => some k_ ≠ (s_.1 : Value).ownBlock ∧ some k_ ≠ (.slice Ao44 x3_1.length co44 : Value).ownBlock) s_.2 y410) ∧ (Kd.R k30 30 w' w.heap.size (fun k_ => some k_ ≠ (s_.1 : Value).ownBlock ∧ some k_ ≠ (s_.2 : Value).ownBlock) (.slice Ao44 x3_1.length co44) x3_1) ∧ (Below w.heap.size w w')) ?_ ?_
    rotate_left
    ·intro hCont
     refine two_ (i := 1) (j := 6) (Ni := some 19) (Nj := some 24) #[true, true, true, true, true, true, false, false, false] #[true, false, true, true, true, true, true, false, false] rfl rfl rfl rfl (two_of HT_.out (by kernel_rfl)) (by decide) (by decide) (fun K hK => ?_) (fun K hK => ?_)
     ·skip
      refine Kd.R_append_rows_step k30 (w0 := w) w.heap.size (by rfl) (.const (.slice none 0 0)) (.tmp 18) 22 30 (.agg #[(.string ⟨#[]⟩), (.string ⟨#[]⟩), (.bool false), (.bool false)]) 40 rfl Tryz.underlying22 info30 rfl (by decide) (by omega) (.slice none 0 0) ([] : List (S30)) x3_1 _ _ _ (fun k_ => some k_ ≠ (.slice Ao44 x3_1.length co44 : Value).ownBlock) (fun _ => False) rfl rfl ?aO ?aR (fun _ _ h => h) (fun _ h => h.elim) ?aF ?aB ?aS ?aL ?_
      (case aR => repeat (first | exact (Kd.R_reads' HO_3.out).2.2 | (with_reducible refine Kd.C_alloc ?_ _) | (with_reducible refine Kd.C_drewN ?_ _) | (with_reducible refine Kd.C_drew ?_)))
      (case aB => exact bE)
      (case aF => exact (fun k_ hk => Kd.fresh' (Kd.R_lt (kR HO_3)) k_ hk))
      (case aO => exact ((Kd.R_nil _ _ _ _ (fun k_ => some k_ ≠ (.slice Ao44 x3_1.length co44 : Value).ownBlock))))
      (case aS => exact (below_size bE))
      (case aL => have := LMc5.out; omega)
      intro v407 w46 ho hb hg hat
      rw [← Ny406.out] at ho
      replace HO_3 := Aside0.mk (Kd.R_after (Kd.R_apart_nil (kR HO_3)) hg hat)
      replace HB := Aside0.mk (hb)
      have HO408 := Aside0.mk (ho)
      clear ho hb hg hat
      refine hK.out _ _ ⟨((HB.out.cell (World.block_lt_of_cell? w _ hw409_0)).trans hw409_0), ((HB.out.cell (World.block_lt_of_cell? w _ hw409_1)).trans hw409_1), ((HB.out.cell (World.block_lt_of_cell? w _ hw409_2)).trans hw409_2), ((HB.out.cell (World.block_lt_of_cell? w _ hw409_3)).trans hw409_3)⟩ (fun hHeld => ?_)
      clear hK K
      refine nz (some 19) ?_
      refine on 6 (some 24) HT_ (fun K hK => ?_)
      refine Kd.R_lit_step k30 _ 30 ?hg (N := 24) ?hd (xs := ([(⟨(rd_T30 l0 x4_1).f0, (rd_T30 l0 x4_1).f1, (rd_T30 l0 x4_1).f2, (rd_T30 l0 x4_1).f3⟩ : S30)] : List (S30))) (inner := [.string ((rd_T30 l0 x4_1).f0), .string ((rd_T30 l0 x4_1).f1), .bool ((rd_T30 l0 x4_1).f2), .bool ((rd_T30 l0 x4_1).f3)]) (ok := fun _ => True) (okp := fun _ => True) ?hr ?hp (fun _ hk => hk) trivial (Below.refl _ _) (Nat.le_refl _) (by simp) ?_; (case hd => rfl); (case hg => rfl); (case hr => first | (go_simp; done) | (go_simp; rfl)); (case hp => exact (Reps.c4 (show Kd.M k30 _ _ _ (⟨(rd_T30 l0 x4_1).f0, (rd_T30 l0 x4_1).f1, (rd_T30 l0 x4_1).f2, (rd_T30 l0 x4_1).f3⟩ : S30) [.string ((rd_T30 l0 x4_1).f0), .string ((rd_T30 l0 x4_1).f1), .bool ((rd_T30 l0 x4_1).f2), .bool ((rd_T30 l0 x4_1).f3)] from (k30_mkM _ _ _ (⟨(rd_T30 l0 x4_1).f0, (rd_T30 l0 x4_1).f1, (rd_T30 l0 x4_1).f2, (rd_T30 l0 x4_1).f3⟩ : S30) )) (Reps.none _ _)))
      intro v411 w47 ho48 hb hg_ hnew_
      clear hg_ hnew_
      (first | rw [← Ny410.out] at ho48 | (simp only [Int.reduceToNat] at ho48; rw [← Ny410.out] at ho48))
      have HO412 := Aside0.mk (Kd.R_lower (Kd.R_new' (Kd.R_new' ho48 (Kd.R_lt (kR HO_3))) (Kd.R_lt (kR HO408))) (below_size bE))
      replace HO_3 := Aside0.mk (Kd.R_elder' (kR HO_3) (Kd.R_base ho48) hb)
      replace HO408 := Aside0.mk (Kd.R_elder' (kR HO408) (Kd.R_base ho48) hb)
      replace HB := sB hb
      clear hb ho48
      refine hK.out _ _ ⟨((HB.out.cell (World.block_lt_of_cell? w _ hw409_0)).trans hw409_0), ((HB.out.cell (World.block_lt_of_cell? w _ hw409_1)).trans hw409_1), ((HB.out.cell (World.block_lt_of_cell? w _ hw409_2)).trans hw409_2), ((HB.out.cell (World.block_lt_of_cell? w _ hw409_3)).trans hw409_3)⟩ (fun hHeld => ?_)
      clear hK K
      refine nz (some 24) ?_
      exact norm_ (by simp only [putAll, Act.put, List.setIfInBounds_toArray, List.set_cons_zero, List.set_cons_succ]) (hCont (v407, v411) _ ⟨hHeld, (by (with_reducible repeat (first | apply Kd.R_alloc | apply Kd.R_drewN | apply Kd.R_drew)); exact Kd.R_mono HO408.out (fun _ hk => ⟨hk.2, hk.1⟩)), (by (with_reducible repeat (first | apply Kd.R_alloc | apply Kd.R_drewN | apply Kd.R_drew)); exact Kd.R_mono HO412.out (fun _ hk => ⟨hk.2, hk.1.2⟩)), (by (with_reducible repeat (first | apply Kd.R_alloc | apply Kd.R_drewN | apply Kd.R_drew)); exact Kd.R_mono HO_3.out (fun _ hk => ⟨hk.1.2, hk.2⟩)), bE⟩)
     ·skip
      refine Kd.R_lit_step k30 _ 30 ?hg (N := 24) ?hd (xs := ([(⟨(rd_T30 l0 x4_1).f0, (rd_T30 l0 x4_1).f1, (rd_T30 l0 x4_1).f2, (rd_T30 l0 x4_1).f3⟩ : S30)] : List (S30))) (inner := [.string ((rd_T30 l0 x4_1).f0), .string ((rd_T30 l0 x4_1).f1), .bool ((rd_T30 l0 x4_1).f2), .bool ((rd_T30 l0 x4_1).f3)]) (ok := fun _ => True) (okp := fun _ => True) ?hr ?hp (fun _ hk => hk) trivial (Below.refl _ _) (Nat.le_refl _) (by simp) ?_; (case hd => rfl); (case hg => rfl); (case hr => first | (go_simp; done) | (go_simp; rfl)); (case hp => exact (Reps.c4 (show Kd.M k30 _ _ _ (⟨(rd_T30 l0 x4_1).f0, (rd_T30 l0 x4_1).f1, (rd_T30 l0 x4_1).f2, (rd_T30 l0 x4_1).f3⟩ : S30) [.string ((rd_T30 l0 x4_1).f0), .string ((rd_T30 l0 x4_1).f1), .bool ((rd_T30 l0 x4_1).f2), .bool ((rd_T30 l0 x4_1).f3)] from (k30_mkM _ _ _ (⟨(rd_T30 l0 x4_1).f0, (rd_T30 l0 x4_1).f1, (rd_T30 l0 x4_1).f2, (rd_T30 l0 x4_1).f3⟩ : S30) )) (Reps.none _ _)))
      intro v411 w46 ho47 hb hg_ hnew_
      clear hg_ hnew_
      (first | rw [← Ny410.out] at ho47 | (simp only [Int.reduceToNat] at ho47; rw [← Ny410.out] at ho47))
      have HO412 := Aside0.mk (Kd.R_lower (Kd.R_new' ho47 (Kd.R_lt (kR HO_3))) (below_size bE))
      replace HO_3 := Aside0.mk (Kd.R_elder' (kR HO_3) (Kd.R_base ho47) hb)
      replace HB := sB hb
      clear hb ho47
      refine hK.out _ _ ⟨((HB.out.cell (World.block_lt_of_cell? w _ hw409_0)).trans hw409_0), ((HB.out.cell (World.block_lt_of_cell? w _ hw409_1)).trans hw409_1), ((HB.out.cell (World.block_lt_of_cell? w _ hw409_2)).trans hw409_2), ((HB.out.cell (World.block_lt_of_cell? w _ hw409_3)).trans hw409_3)⟩ (fun hHeld => ?_)
      clear hK K
      refine nz (some 24) ?_
      refine on 1 (some 19) HT_ (fun K hK => ?_)
      refine Kd.R_append_rows_step k30 (w0 := w) w.heap.size (by rfl) (.const (.slice none 0 0)) (.tmp 18) 22 30 (.agg #[(.string ⟨#[]⟩), (.string ⟨#[]⟩), (.bool false), (.bool false)]) 40 rfl Tryz.underlying22 info30 rfl (by decide) (by omega) (.slice none 0 0) ([] : List (S30)) x3_1 _ _ _ (fun k_ => some k_ ≠ (.slice Ao44 x3_1.length co44 : Value).ownBlock ∧ some k_ ≠ (v411 : Value).ownBlock) (fun _ => False) rfl rfl ?aO ?aR (fun _ _ h => h) (fun _ h => h.elim) ?aF ?aB ?aS ?aL ?_
      (case aR => repeat (first | exact (Kd.R_reads' HO_3.out).2.2 | (with_reducible refine Kd.C_alloc ?_ _) | (with_reducible refine Kd.C_drewN ?_ _) | (with_reducible refine Kd.C_drew ?_)))
      (case aB => exact bE)
      (case aF => exact (fun k_ hk => ⟨Kd.fresh' (Kd.R_lt (kR HO_3)) k_ hk, Kd.fresh' (Kd.R_lt (kR HO412)) k_ hk⟩))
      (case aO => exact ((Kd.R_nil _ _ _ _ (fun k_ => some k_ ≠ (.slice Ao44 x3_1.length co44 : Value).ownBlock ∧ some k_ ≠ (v411 : Value).ownBlock))))
      (case aS => exact (below_size bE))
      (case aL => have := LMc5.out; omega)
      intro v407 w48 ho hb hg hat
      rw [← Ny406.out] at ho
      replace HO_3 := Aside0.mk (Kd.R_after (Kd.R_apart_nil (kR HO_3)) hg hat)
      replace HO412 := Aside0.mk (Kd.R_after (Kd.R_apart_nil (kR HO412)) hg hat)
      replace HB := Aside0.mk (hb)
      have HO408 := Aside0.mk (ho)
      clear ho hb hg hat
      refine hK.out _ _ ⟨((HB.out.cell (World.block_lt_of_cell? w _ hw409_0)).trans hw409_0), ((HB.out.cell (World.block_lt_of_cell? w _ hw409_1)).trans hw409_1), ((HB.out.cell (World.block_lt_of_cell? w _ hw409_2)).trans hw409_2), ((HB.out.cell (World.block_lt_of_cell? w _ hw409_3)).trans hw409_3)⟩ (fun hHeld => ?_)
      clear hK K
      refine nz (some 19) ?_
      exact norm_ (by simp only [putAll, Act.put, List.setIfInBounds_toArray, List.set_cons_zero, List.set_cons_succ]) (hCont (v407, v411) _ ⟨hHeld, (by (with_reducible repeat (first | apply Kd.R_alloc | apply Kd.R_drewN | apply Kd.R_drew)); exact Kd.R_mono HO408.out (fun _ hk => ⟨hk.2, hk.1⟩)), (by (with_reducible repeat (first | apply Kd.R_alloc | apply Kd.R_drewN | apply Kd.R_drew)); exact Kd.R_mono HO412.out (fun _ hk => ⟨hk.2, hk.1.2⟩)), (by (with_reducible repeat (first | apply Kd.R_alloc | apply Kd.R_drewN | apply Kd.R_drew)); exact Kd.R_mono HO_3.out (fun _ hk => ⟨hk.2, hk.1.2⟩)), bE⟩)
    rintro ⟨v407, v411⟩ w49 ⟨hS_, h0_, h1_, h2_, h3_⟩
    have HO408 : Aside0 (Kd.R k30 30 w49 w.heap.size (fun k_ => some k_ ≠ (v411 : Value).ownBlock ∧ some k_ ≠ (.slice Ao44 x3_1.length co44 : Value).ownBlock) v407 y406) := ⟨h0_⟩
    have HO412 : Aside0 (Kd.R k30 30 w49 w.heap.size (fun k_ => some k_ ≠ (v407 : Value).ownBlock ∧ some k_ ≠ (.slice Ao44 x3_1.length co44 : Value).ownBlock) v411 y410) := ⟨h1_⟩
    replace HO_3 : Aside0 (Kd.R k30 30 w49 w.heap.size (fun k_ => some k_ ≠ (v407 : Value).ownBlock ∧ some k_ ≠ (v411 : Value).ownBlock) (.slice Ao44 x3_1.length co44) x3_1) := ⟨h2_⟩
    replace HB : Aside0 (Below w.heap.size w w49) := ⟨h3_⟩
    clear h0_ h1_ h2_ h3_
    have hHeld : w49.cell? (ad409.add ((x4_1).toNat * 4)) = some (.string ((rd_T30 l0 x4_1).f0)) ∧ w49.cell? ⟨(ad409.add ((x4_1).toNat * 4)).block, (ad409.add ((x4_1).toNat * 4)).off + 1, none⟩ = some (.string ((rd_T30 l0 x4_1).f1)) ∧ w49.cell? ⟨(ad409.add ((x4_1).toNat * 4)).block, (ad409.add ((x4_1).toNat * 4)).off + 2, none⟩ = some (.bool ((rd_T30 l0 x4_1).f2)) ∧ w49.cell? ⟨(ad409.add ((x4_1).toNat * 4)).block, (ad409.add ((x4_1).toNat * 4)).off + 3, none⟩ = some (.bool ((rd_T30 l0 x4_1).f3)) := hS_
    obtain ⟨Ao51, co51, eo51⟩ := Kd.R_slice HO412.out
    (first | subst eo51 | (injection eo51 with f1_ f2_ f3_; have f4_ := f1_.symm; have f5_ := f3_.symm; clear f1_ f2_ f3_; subst f4_; subst f5_))
    refine norm_ (a' := ?_) ?_ ?_
    rotate_left
    ·simp only [putAll, Act.put, List.setIfInBounds_toArray, List.set_cons_zero, List.set_cons_succ]
     rfl
    refine on 7 (some 25) HT_ (fun K hK => ?_)
    refine Kd.R_append_rows_step k30 (w0 := w) w.heap.size (by rfl) (.tmp 19) (.tmp 24) 22 30 (.agg #[(.string ⟨#[]⟩), (.string ⟨#[]⟩), (.bool false), (.bool false)]) 40 rfl Tryz.underlying22 info30 rfl (by decide) (by omega) v407 y406 y410 _ _ _ (fun k_ => some k_ ≠ (.slice Ao44 x3_1.length co44 : Value).ownBlock ∧ some k_ ≠ (.slice Ao51 y410.length co51 : Value).ownBlock) (fun _ => False) rfl rfl ?aO ?aR (fun _ _ h => h) (fun _ h => h.elim) ?aF ?aB ?aS ?aL ?_
    (case aR => repeat (first | exact (Kd.R_reads' HO412.out).2.2 | (with_reducible refine Kd.C_alloc ?_ _) | (with_reducible refine Kd.C_drewN ?_ _) | (with_reducible refine Kd.C_drew ?_)))
    (case aB => exact bE)
    (case aF => exact (fun k_ hk => ⟨Kd.fresh' (Kd.R_lt (kR HO_3)) k_ hk, Kd.fresh' (Kd.R_lt (kR HO412)) k_ hk⟩))
    (case aO => exact (by (with_reducible repeat (first | apply Kd.R_alloc | apply Kd.R_drewN | apply Kd.R_drew)); exact Kd.R_mono HO408.out (fun _ hk => ⟨hk.2, hk.1⟩)))
    (case aS => exact (below_size bE))
    (case aL => have := LMc8.out; omega)
    intro v414 w50 ho hb hg hat
    rw [← Ny413.out] at ho
    replace HO_3 := Aside0.mk (Kd.R_after (ok := (fun k_ => some k_ ≠ (.slice Ao51 y410.length co51 : Value).ownBlock)) (by (with_reducible repeat (first | apply Kd.R_alloc | apply Kd.R_drewN | apply Kd.R_drew)); exact Kd.R_mono HO_3.out (fun _ hk => ⟨hk.2, hk.1⟩)) hg hat)
    replace HO412 := Aside0.mk (Kd.R_after (ok := (fun k_ => some k_ ≠ (.slice Ao44 x3_1.length co44 : Value).ownBlock)) (by (with_reducible repeat (first | apply Kd.R_alloc | apply Kd.R_drewN | apply Kd.R_drew)); exact Kd.R_mono HO412.out (fun _ hk => ⟨hk.2, hk.1⟩)) hg hat)
    replace HB := Aside0.mk (hb)
    have HO415 := Aside0.mk (ho)
    clear HO408
    clear ho hb hg hat
    refine hK.out _ _ ⟨((HB.out.cell (World.block_lt_of_cell? w _ hw409_0)).trans hw409_0), ((HB.out.cell (World.block_lt_of_cell? w _ hw409_1)).trans hw409_1), ((HB.out.cell (World.block_lt_of_cell? w _ hw409_2)).trans hw409_2), ((HB.out.cell (World.block_lt_of_cell? w _ hw409_3)).trans hw409_3)⟩ (fun hHeld => ?_)
    clear hK K
    refine nz (some 25) ?_
    refine pz 8 (some 5) HT_ ?_
    refine done_ (done_of HT_.out (by kernel_rfl)) ?_
    obtain ⟨Ao52, co52, eo52⟩ := Kd.R_slice HO415.out
    subst eo52
    try go_wp2_with (first | (refine gl (some 28) Tryz.func13 #[.slice Ao52 y413.length co52] ?_; (with_reducible refine (newelref05_Text.calls kj1 _ _ y413 t416 _ ?side1 ?side2 (gS HG) A9.out).mono ?_); (case side1 => repeat (first | exact (Kd.R_reads' HO415.out).2.2 | (with_reducible refine Kd.C_alloc ?_ _) | (with_reducible refine Kd.C_drewN ?_ _) | (with_reducible refine Kd.C_drew ?_))); (case side2 => exact (Kd.R_reads' HO415.out).2.1); rintro e w53 ⟨rfl, hb⟩; refine ⟨_, rfl, ?_⟩; replace HO_3 := rB HO_3 hb; replace HO412 := rB HO412 hb; replace HO415 := rB HO415 hb; replace HB := sB hb; (try clear hb)) | (refine gl (some 29) Tryz.func12 #[.string t416] ?_; (with_reducible refine (newelref05_Parse.calls kj1 t416 t417 t418 _ (gS HG) A10.out).mono ?_); rintro e w54 ⟨v419, rfl, ho0, hb⟩; refine ⟨_, rfl, ?_⟩; have HO420 := Aside0.mk (Kd.R_lower (Kd.R_new' (Kd.R_new' (Kd.R_new' ho0 (Kd.R_lt (kR HO_3))) (Kd.R_lt (kR HO412))) (Kd.R_lt (kR HO415))) (below_size bE)); replace HO_3 := Aside0.mk (Kd.R_elder' (kR HO_3) (Kd.R_base ho0) hb); replace HO412 := Aside0.mk (Kd.R_elder' (kR HO412) (Kd.R_base ho0) hb); replace HO415 := Aside0.mk (Kd.R_elder' (kR HO415) (Kd.R_base ho0) hb); replace HB := sB hb; (try clear hb); (try clear ho0); have p421 : 0 ≤ (x4_1 : Int) := dA; have q421 : x4_1 < (l0.length : Int) := dA; obtain ⟨ad421, e421, hx421_0, hx421_1, hx421_2, hx421_3⟩ := at_T30 HR0.out x4_1 p421 q421; obtain rfl : ad409 = ad421 := (by injection e421); replace hx421_0 := (HB.out.cell (World.block_lt_of_cell? w _ hx421_0)).trans hx421_0; replace hx421_1 := (HB.out.cell (World.block_lt_of_cell? w _ hx421_1)).trans hx421_1; replace hx421_2 := (HB.out.cell (World.block_lt_of_cell? w _ hx421_2)).trans hx421_2; replace hx421_3 := (HB.out.cell (World.block_lt_of_cell? w _ hx421_3)).trans hx421_3; replace p421 := eq_true p421; replace q421 := eq_true q421) | (refine gl (some 36) Tryz.func14 #[.agg #[.string ((rd_T30 l0 x4_1).f0), .string ((rd_T30 l0 x4_1).f1), .bool ((rd_T30 l0 x4_1).f2), .bool ((rd_T30 l0 x4_1).f3)]] ?_; (with_reducible refine (newelref05_May.calls kj1 ((rd_T30 l0 x4_1).f0) ((rd_T30 l0 x4_1).f1) ((rd_T30 l0 x4_1).f2) ((rd_T30 l0 x4_1).f3) true _ (gS HG) A11.out).mono ?_); rintro e w55 ⟨rfl, hb⟩; refine ⟨_, rfl, ?_⟩; replace HO_3 := rB HO_3 hb; replace HO412 := rB HO412 hb; replace HO415 := rB HO415 hb; replace HO420 := rB HO420 hb; replace HB := sB hb; (try clear hb)))
    go_roundg kj1
    case measure => have := HK1.out; have := HJ1.out; omega
    case rel => exact ⟨(x3_1), (wrap64 (x4_1 + 1)), cA, H', ⟨by have := HK1.out; have := HJ1.out; omega⟩, ⟨by (with_reducible repeat (first | apply Kd.R_alloc | apply Kd.R_drewN | apply Kd.R_drew)); exact Kd.R_mono HO_3.out (fun _ hk => trivial)⟩, ⟨bE⟩⟩
   rw [if_pos c13] at H
   obtain ⟨c13b0, c13b1⟩ := eqT c13
   clear c13
   replace H := bi H
   obtain ⟨t423, A140, H⟩ := H
   try dsimp only at H
   have A14 := Aside0.mk A140
   clear A140
   by_cases c15 : t423 = true
   ·subst c15
    replace H : (newellaw07_right.l0 kj1 l0 y413 (wrap64 (x4_1 + 1))) = some r := by rw [if_pos rfl] at H; exact H
    have H' := Aside0.mk H
    clear H
    obtain ⟨Ao16, co16, eo16⟩ := Kd.R_slice HO_3.out
    subst eo16
    try go_wp2
    replace HO_3 := Aside0.mk (Kd.R_drew HO_3.out)
    replace HB := Aside0.mk (below_drew1 HB.out)
    have p409 : 0 ≤ (x4_1 : Int) := dA
    have q409 : x4_1 < (l0.length : Int) := dA
    obtain ⟨ad409, e409, hx409_0, hx409_1, hx409_2, hx409_3⟩ := at_T30 HR0.out x4_1 p409 q409
    have hw409_3 := hx409_3
    have hw409_2 := hx409_2
    have hw409_1 := hx409_1
    have hw409_0 := hx409_0
    cases e409
    replace hx409_0 := (HB.out.cell (World.block_lt_of_cell? w _ hx409_0)).trans hx409_0
    replace hx409_1 := (HB.out.cell (World.block_lt_of_cell? w _ hx409_1)).trans hx409_1
    replace hx409_2 := (HB.out.cell (World.block_lt_of_cell? w _ hx409_2)).trans hx409_2
    replace hx409_3 := (HB.out.cell (World.block_lt_of_cell? w _ hx409_3)).trans hx409_3
    replace p409 := eq_true p409
    replace q409 := eq_true q409
    refine start_ (n := 9) (S := fun w' => w'.cell? (ad409.add ((x4_1).toNat * 4)) = some (.string ((rd_T30 l0 x4_1).f0)) ∧ w'.cell? ⟨(ad409.add ((x4_1).toNat * 4)).block, (ad409.add ((x4_1).toNat * 4)).off + 1, none⟩ = some (.string ((rd_T30 l0 x4_1).f1)) ∧ w'.cell? ⟨(ad409.add ((x4_1).toNat * 4)).block, (ad409.add ((x4_1).toNat * 4)).off + 2, none⟩ = some (.bool ((rd_T30 l0 x4_1).f2)) ∧ w'.cell? ⟨(ad409.add ((x4_1).toNat * 4)).block, (ad409.add ((x4_1).toNat * 4)).off + 3, none⟩ = some (.bool ((rd_T30 l0 x4_1).f3))) (ds := []) #[false, false, false, false, false, false, false, false, false] (by kernel_rfl) rfl rfl ⟨((HB.out.cell (World.block_lt_of_cell? w _ hw409_0)).trans hw409_0), ((HB.out.cell (World.block_lt_of_cell? w _ hw409_1)).trans hw409_1), ((HB.out.cell (World.block_lt_of_cell? w _ hw409_2)).trans hw409_2), ((HB.out.cell (World.block_lt_of_cell? w _ hw409_3)).trans hw409_3)⟩ (fun hHeld => ?_); refine with_tabW newellaw07_right.tab5 newellaw07_right.bits5 (fun HT_ HW_ => ?_)
    generalize wc.drew = w17 at HO_3 HB hx409_0 hx409_1 hx409_2 hx409_3 hHeld ⊢
    refine pz 0 (some 18) HT_ ?_
    refine pz 2 (some 20) HT_ ?_
    refine pz 3 (some 21) HT_ ?_
    refine pz 4 (some 22) HT_ ?_
    refine tm 5 (some 23) HT_ HW_ hHeld ?_
    refine join_ (σ := Value × Value) 2 #[true, true, true, true, true, true, true, false, false] (fun s_ => [(19, s_.1), (24, s_.2)]) (fun s_ w' => (w'.cell? (ad409.add ((x4_1).toNat * 4)) = some (.string ((rd_T30 l0 x4_1).f0)) ∧ w'.cell? ⟨(ad409.add ((x4_1).toNat * 4)).block, (ad409.add ((x4_1).toNat * 4)).off + 1, none⟩ = some (.string ((rd_T30 l0 x4_1).f1)) ∧ w'.cell? ⟨(ad409.add ((x4_1).toNat * 4)).block, (ad409.add ((x4_1).toNat * 4)).off + 2, none⟩ = some (.bool ((rd_T30 l0 x4_1).f2)) ∧ w'.cell? ⟨(ad409.add ((x4_1).toNat * 4)).block, (ad409.add ((x4_1).toNat * 4)).off + 3, none⟩ = some (.bool ((rd_T30 l0 x4_1).f3))) ∧ (Kd.R k30 30 w' w.heap.size (fun k_ => some k_ ≠ (s_.2 : Value).ownBlock ∧ some k_ ≠ (.slice Ao16 x3_1.length co16 : Value).ownBlock) s_.1 y406) ∧ (Kd.R k30 30 w' w.heap.size (fun k_ => some k_ ≠ (s_.1 : Value).ownBlock ∧ some k_ ≠ (.slice Ao16 x3_1.length co16 : Value).ownBlock) s_.2 y410) ∧ (Kd.R k30 30 w' w.heap.size (fun k_ => some k_ ≠ (s_.1 : Value).ownBlock ∧ some k_ ≠ (s_.2 : Value).ownBlock) (.slice Ao16 x3_1.length co16) x3_1) ∧ (Below w.heap.size w w')) ?_ ?_
    rotate_left
    ·intro hCont
     refine two_ (i := 1) (j := 6) (Ni := some 19) (Nj := some 24) #[true, true, true, true, true, true, false, false, false] #[true, false, true, true, true, true, true, false, false] rfl rfl rfl rfl (two_of HT_.out (by kernel_rfl)) (by decide) (by decide) (fun K hK => ?_) (fun K hK => ?_)
     ·skip
      refine Kd.R_append_rows_step k30 (w0 := w) w.heap.size (by rfl) (.const (.slice none 0 0)) (.tmp 18) 22 30 (.agg #[(.string ⟨#[]⟩), (.string ⟨#[]⟩), (.bool false), (.bool false)]) 40 rfl Tryz.underlying22 info30 rfl (by decide) (by omega) (.slice none 0 0) ([] : List (S30)) x3_1 _ _ _ (fun k_ => some k_ ≠ (.slice Ao16 x3_1.length co16 : Value).ownBlock) (fun _ => False) rfl rfl ?aO ?aR (fun _ _ h => h) (fun _ h => h.elim) ?aF ?aB ?aS ?aL ?_
      (case aR => repeat (first | exact (Kd.R_reads' HO_3.out).2.2 | (with_reducible refine Kd.C_alloc ?_ _) | (with_reducible refine Kd.C_drewN ?_ _) | (with_reducible refine Kd.C_drew ?_)))
      (case aB => exact bE)
      (case aF => exact (fun k_ hk => Kd.fresh' (Kd.R_lt (kR HO_3)) k_ hk))
      (case aO => exact ((Kd.R_nil _ _ _ _ (fun k_ => some k_ ≠ (.slice Ao16 x3_1.length co16 : Value).ownBlock))))
      (case aS => exact (below_size bE))
      (case aL => have := LMc5.out; omega)
      intro v407 w18 ho hb hg hat
      rw [← Ny406.out] at ho
      replace HO_3 := Aside0.mk (Kd.R_after (Kd.R_apart_nil (kR HO_3)) hg hat)
      replace HB := Aside0.mk (hb)
      have HO408 := Aside0.mk (ho)
      clear ho hb hg hat
      refine hK.out _ _ ⟨((HB.out.cell (World.block_lt_of_cell? w _ hw409_0)).trans hw409_0), ((HB.out.cell (World.block_lt_of_cell? w _ hw409_1)).trans hw409_1), ((HB.out.cell (World.block_lt_of_cell? w _ hw409_2)).trans hw409_2), ((HB.out.cell (World.block_lt_of_cell? w _ hw409_3)).trans hw409_3)⟩ (fun hHeld => ?_)
      clear hK K
      refine nz (some 19) ?_
      refine on 6 (some 24) HT_ (fun K hK => ?_)
      refine Kd.R_lit_step k30 _ 30 ?hg (N := 24) ?hd (xs := ([(⟨(rd_T30 l0 x4_1).f0, (rd_T30 l0 x4_1).f1, (rd_T30 l0 x4_1).f2, (rd_T30 l0 x4_1).f3⟩ : S30)] : List (S30))) (inner := [.string ((rd_T30 l0 x4_1).f0), .string ((rd_T30 l0 x4_1).f1), .bool ((rd_T30 l0 x4_1).f2), .bool ((rd_T30 l0 x4_1).f3)]) (ok := fun _ => True) (okp := fun _ => True) ?hr ?hp (fun _ hk => hk) trivial (Below.refl _ _) (Nat.le_refl _) (by simp) ?_; (case hd => rfl); (case hg => rfl); (case hr => first | (go_simp; done) | (go_simp; rfl)); (case hp => exact (Reps.c4 (show Kd.M k30 _ _ _ (⟨(rd_T30 l0 x4_1).f0, (rd_T30 l0 x4_1).f1, (rd_T30 l0 x4_1).f2, (rd_T30 l0 x4_1).f3⟩ : S30) [.string ((rd_T30 l0 x4_1).f0), .string ((rd_T30 l0 x4_1).f1), .bool ((rd_T30 l0 x4_1).f2), .bool ((rd_T30 l0 x4_1).f3)] from (k30_mkM _ _ _ (⟨(rd_T30 l0 x4_1).f0, (rd_T30 l0 x4_1).f1, (rd_T30 l0 x4_1).f2, (rd_T30 l0 x4_1).f3⟩ : S30) )) (Reps.none _ _)))
      intro v411 w19 ho20 hb hg_ hnew_
      clear hg_ hnew_
      (first | rw [← Ny410.out] at ho20 | (simp only [Int.reduceToNat] at ho20; rw [← Ny410.out] at ho20))
      have HO412 := Aside0.mk (Kd.R_lower (Kd.R_new' (Kd.R_new' ho20 (Kd.R_lt (kR HO_3))) (Kd.R_lt (kR HO408))) (below_size bE))
      replace HO_3 := Aside0.mk (Kd.R_elder' (kR HO_3) (Kd.R_base ho20) hb)
      replace HO408 := Aside0.mk (Kd.R_elder' (kR HO408) (Kd.R_base ho20) hb)
      replace HB := sB hb
      clear hb ho20
      refine hK.out _ _ ⟨((HB.out.cell (World.block_lt_of_cell? w _ hw409_0)).trans hw409_0), ((HB.out.cell (World.block_lt_of_cell? w _ hw409_1)).trans hw409_1), ((HB.out.cell (World.block_lt_of_cell? w _ hw409_2)).trans hw409_2), ((HB.out.cell (World.block_lt_of_cell? w _ hw409_3)).trans hw409_3)⟩ (fun hHeld => ?_)
      clear hK K
      refine nz (some 24) ?_
      exact norm_ (by simp only [putAll, Act.put, List.setIfInBounds_toArray, List.set_cons_zero, List.set_cons_succ]) (hCont (v407, v411) _ ⟨hHeld, (by (with_reducible repeat (first | apply Kd.R_alloc | apply Kd.R_drewN | apply Kd.R_drew)); exact Kd.R_mono HO408.out (fun _ hk => ⟨hk.2, hk.1⟩)), (by (with_reducible repeat (first | apply Kd.R_alloc | apply Kd.R_drewN | apply Kd.R_drew)); exact Kd.R_mono HO412.out (fun _ hk => ⟨hk.2, hk.1.2⟩)), (by (with_reducible repeat (first | apply Kd.R_alloc | apply Kd.R_drewN | apply Kd.R_drew)); exact Kd.R_mono HO_3.out (fun _ hk => ⟨hk.1.2, hk.2⟩)), bE⟩)
     ·skip
      refine Kd.R_lit_step k30 _ 30 ?hg (N := 24) ?hd (xs := ([(⟨(rd_T30 l0 x4_1).f0, (rd_T30 l0 x4_1).f1, (rd_T30 l0 x4_1).f2, (rd_T30 l0 x4_1).f3⟩ : S30)] : List (S30))) (inner := [.string ((rd_T30 l0 x4_1).f0), .string ((rd_T30 l0 x4_1).f1), .bool ((rd_T30 l0 x4_1).f2), .bool ((rd_T30 l0 x4_1).f3)]) (ok := fun _ => True) (okp := fun _ => True) ?hr ?hp (fun _ hk => hk) trivial (Below.refl _ _) (Nat.le_refl _) (by simp) ?_; (case hd => rfl); (case hg => rfl); (case hr => first | (go_simp; done) | (go_simp; rfl)); (case hp => exact (Reps.c4 (show Kd.M k30 _ _ _ (⟨(rd_T30 l0 x4_1).f0, (rd_T30 l0 x4_1).f1, (rd_T30 l0 x4_1).f2, (rd_T30 l0 x4_1).f3⟩ : S30) [.string ((rd_T30 l0 x4_1).f0), .string ((rd_T30 l0 x4_1).f1), .bool ((rd_T30 l0 x4_1).f2), .bool ((rd_T30 l0 x4_1).f3)] from (k30_mkM _ _ _ (⟨(rd_T30 l0 x4_1).f0, (rd_T30 l0 x4_1).f1, (rd_T30 l0 x4_1).f2, (rd_T30 l0 x4_1).f3⟩ : S30) )) (Reps.none _ _)))
      intro v411 w18 ho19 hb hg_ hnew_
      clear hg_ hnew_
      (first | rw [← Ny410.out] at ho19 | (simp only [Int.reduceToNat] at ho19; rw [← Ny410.out] at ho19))
      have HO412 := Aside0.mk (Kd.R_lower (Kd.R_new' ho19 (Kd.R_lt (kR HO_3))) (below_size bE))
      replace HO_3 := Aside0.mk (Kd.R_elder' (kR HO_3) (Kd.R_base ho19) hb)
      replace HB := sB hb
      clear hb ho19
      refine hK.out _ _ ⟨((HB.out.cell (World.block_lt_of_cell? w _ hw409_0)).trans hw409_0), ((HB.out.cell (World.block_lt_of_cell? w _ hw409_1)).trans hw409_1), ((HB.out.cell (World.block_lt_of_cell? w _ hw409_2)).trans hw409_2), ((HB.out.cell (World.block_lt_of_cell? w _ hw409_3)).trans hw409_3)⟩ (fun hHeld => ?_)
      clear hK K
      refine nz (some 24) ?_
      refine on 1 (some 19) HT_ (fun K hK => ?_)
      refine Kd.R_append_rows_step k30 (w0 := w) w.heap.size (by rfl) (.const (.slice none 0 0)) (.tmp 18) 22 30 (.agg #[(.string ⟨#[]⟩), (.string ⟨#[]⟩), (.bool false), (.bool false)]) 40 rfl Tryz.underlying22 info30 rfl (by decide) (by omega) (.slice none 0 0) ([] : List (S30)) x3_1 _ _ _ (fun k_ => some k_ ≠ (.slice Ao16 x3_1.length co16 : Value).ownBlock ∧ some k_ ≠ (v411 : Value).ownBlock) (fun _ => False) rfl rfl ?aO ?aR (fun _ _ h => h) (fun _ h => h.elim) ?aF ?aB ?aS ?aL ?_
      (case aR => repeat (first | exact (Kd.R_reads' HO_3.out).2.2 | (with_reducible refine Kd.C_alloc ?_ _) | (with_reducible refine Kd.C_drewN ?_ _) | (with_reducible refine Kd.C_drew ?_)))
      (case aB => exact bE)
      (case aF => exact (fun k_ hk => ⟨Kd.fresh' (Kd.R_lt (kR HO_3)) k_ hk, Kd.fresh' (Kd.R_lt (kR HO412)) k_ hk⟩))
      (case aO => exact ((Kd.R_nil _ _ _ _ (fun k_ => some k_ ≠ (.slice Ao16 x3_1.length co16 : Value).ownBlock ∧ some k_ ≠ (v411 : Value).ownBlock))))
      (case aS => exact (below_size bE))
      (case aL => have := LMc5.out; omega)
      intro v407 w20 ho hb hg hat
      rw [← Ny406.out] at ho
      replace HO_3 := Aside0.mk (Kd.R_after (Kd.R_apart_nil (kR HO_3)) hg hat)
      replace HO412 := Aside0.mk (Kd.R_after (Kd.R_apart_nil (kR HO412)) hg hat)
      replace HB := Aside0.mk (hb)
      have HO408 := Aside0.mk (ho)
      clear ho hb hg hat
      refine hK.out _ _ ⟨((HB.out.cell (World.block_lt_of_cell? w _ hw409_0)).trans hw409_0), ((HB.out.cell (World.block_lt_of_cell? w _ hw409_1)).trans hw409_1), ((HB.out.cell (World.block_lt_of_cell? w _ hw409_2)).trans hw409_2), ((HB.out.cell (World.block_lt_of_cell? w _ hw409_3)).trans hw409_3)⟩ (fun hHeld => ?_)
      clear hK K
      refine nz (some 19) ?_
      exact norm_ (by simp only [putAll, Act.put, List.setIfInBounds_toArray, List.set_cons_zero, List.set_cons_succ]) (hCont (v407, v411) _ ⟨hHeld, (by (with_reducible repeat (first | apply Kd.R_alloc | apply Kd.R_drewN | apply Kd.R_drew)); exact Kd.R_mono HO408.out (fun _ hk => ⟨hk.2, hk.1⟩)), (by (with_reducible repeat (first | apply Kd.R_alloc | apply Kd.R_drewN | apply Kd.R_drew)); exact Kd.R_mono HO412.out (fun _ hk => ⟨hk.2, hk.1.2⟩)), (by (with_reducible repeat (first | apply Kd.R_alloc | apply Kd.R_drewN | apply Kd.R_drew)); exact Kd.R_mono HO_3.out (fun _ hk => ⟨hk.2, hk.1.2⟩)), bE⟩)
    rintro ⟨v407, v411⟩ w21 ⟨hS_, h0_, h1_, h2_, h3_⟩
    have HO408 : Aside0 (Kd.R k30 30 w21 w.heap.size (fun k_ => some k_ ≠ (v411 : Value).ownBlock ∧ some k_ ≠ (.slice Ao16 x3_1.length co16 : Value).ownBlock) v407 y406) := ⟨h0_⟩
    have HO412 : Aside0 (Kd.R k30 30 w21 w.heap.size (fun k_ => some k_ ≠ (v407 : Value).ownBlock ∧ some k_ ≠ (.slice Ao16 x3_1.length co16 : Value).ownBlock) v411 y410) := ⟨h1_⟩
    replace HO_3 : Aside0 (Kd.R k30 30 w21 w.heap.size (fun k_ => some k_ ≠ (v407 : Value).ownBlock ∧ some k_ ≠ (v411 : Value).ownBlock) (.slice Ao16 x3_1.length co16) x3_1) := ⟨h2_⟩
    replace HB : Aside0 (Below w.heap.size w w21) := ⟨h3_⟩
    clear h0_ h1_ h2_ h3_
    have hHeld : w21.cell? (ad409.add ((x4_1).toNat * 4)) = some (.string ((rd_T30 l0 x4_1).f0)) ∧ w21.cell? ⟨(ad409.add ((x4_1).toNat * 4)).block, (ad409.add ((x4_1).toNat * 4)).off + 1, none⟩ = some (.string ((rd_T30 l0 x4_1).f1)) ∧ w21.cell? ⟨(ad409.add ((x4_1).toNat * 4)).block, (ad409.add ((x4_1).toNat * 4)).off + 2, none⟩ = some (.bool ((rd_T30 l0 x4_1).f2)) ∧ w21.cell? ⟨(ad409.add ((x4_1).toNat * 4)).block, (ad409.add ((x4_1).toNat * 4)).off + 3, none⟩ = some (.bool ((rd_T30 l0 x4_1).f3)) := hS_
    obtain ⟨Ao23, co23, eo23⟩ := Kd.R_slice HO412.out
    (first | subst eo23 | (injection eo23 with f1_ f2_ f3_; have f4_ := f1_.symm; have f5_ := f3_.symm; clear f1_ f2_ f3_; subst f4_; subst f5_))
    refine norm_ (a' := ?_) ?_ ?_
    rotate_left
    ·simp only [putAll, Act.put, List.setIfInBounds_toArray, List.set_cons_zero, List.set_cons_succ]
     rfl
    refine on 7 (some 25) HT_ (fun K hK => ?_)
    refine Kd.R_append_rows_step k30 (w0 := w) w.heap.size (by rfl) (.tmp 19) (.tmp 24) 22 30 (.agg #[(.string ⟨#[]⟩), (.string ⟨#[]⟩), (.bool false), (.bool false)]) 40 rfl Tryz.underlying22 info30 rfl (by decide) (by omega) v407 y406 y410 _ _ _ (fun k_ => some k_ ≠ (.slice Ao16 x3_1.length co16 : Value).ownBlock ∧ some k_ ≠ (.slice Ao23 y410.length co23 : Value).ownBlock) (fun _ => False) rfl rfl ?aO ?aR (fun _ _ h => h) (fun _ h => h.elim) ?aF ?aB ?aS ?aL ?_
    (case aR => repeat (first | exact (Kd.R_reads' HO412.out).2.2 | (with_reducible refine Kd.C_alloc ?_ _) | (with_reducible refine Kd.C_drewN ?_ _) | (with_reducible refine Kd.C_drew ?_)))
    (case aB => exact bE)
    (case aF => exact (fun k_ hk => ⟨Kd.fresh' (Kd.R_lt (kR HO_3)) k_ hk, Kd.fresh' (Kd.R_lt (kR HO412)) k_ hk⟩))
    (case aO => exact (by (with_reducible repeat (first | apply Kd.R_alloc | apply Kd.R_drewN | apply Kd.R_drew)); exact Kd.R_mono HO408.out (fun _ hk => ⟨hk.2, hk.1⟩)))
    (case aS => exact (below_size bE))
    (case aL => have := LMc8.out; omega)
    intro v414 w22 ho hb hg hat
    rw [← Ny413.out] at ho
    replace HO_3 := Aside0.mk (Kd.R_after (ok := (fun k_ => some k_ ≠ (.slice Ao23 y410.length co23 : Value).ownBlock)) (by (with_reducible repeat (first | apply Kd.R_alloc | apply Kd.R_drewN | apply Kd.R_drew)); exact Kd.R_mono HO_3.out (fun _ hk => ⟨hk.2, hk.1⟩)) hg hat)
    replace HO412 := Aside0.mk (Kd.R_after (ok := (fun k_ => some k_ ≠ (.slice Ao16 x3_1.length co16 : Value).ownBlock)) (by (with_reducible repeat (first | apply Kd.R_alloc | apply Kd.R_drewN | apply Kd.R_drew)); exact Kd.R_mono HO412.out (fun _ hk => ⟨hk.2, hk.1⟩)) hg hat)
    replace HB := Aside0.mk (hb)
    have HO415 := Aside0.mk (ho)
    clear HO408
    clear ho hb hg hat
    refine hK.out _ _ ⟨((HB.out.cell (World.block_lt_of_cell? w _ hw409_0)).trans hw409_0), ((HB.out.cell (World.block_lt_of_cell? w _ hw409_1)).trans hw409_1), ((HB.out.cell (World.block_lt_of_cell? w _ hw409_2)).trans hw409_2), ((HB.out.cell (World.block_lt_of_cell? w _ hw409_3)).trans hw409_3)⟩ (fun hHeld => ?_)
    clear hK K
    refine nz (some 25) ?_
    refine pz 8 (some 5) HT_ ?_
    refine done_ (done_of HT_.out (by kernel_rfl)) ?_
    obtain ⟨Ao24, co24, eo24⟩ := Kd.R_slice HO415.out
    subst eo24
    try go_wp2_with (first | (refine gl (some 28) Tryz.func13 #[.slice Ao24 y413.length co24] ?_; (with_reducible refine (newelref05_Text.calls kj1 _ _ y413 t416 _ ?side1 ?side2 (gS HG) A9.out).mono ?_); (case side1 => repeat (first | exact (Kd.R_reads' HO415.out).2.2 | (with_reducible refine Kd.C_alloc ?_ _) | (with_reducible refine Kd.C_drewN ?_ _) | (with_reducible refine Kd.C_drew ?_))); (case side2 => exact (Kd.R_reads' HO415.out).2.1); rintro e w25 ⟨rfl, hb⟩; refine ⟨_, rfl, ?_⟩; replace HO_3 := rB HO_3 hb; replace HO412 := rB HO412 hb; replace HO415 := rB HO415 hb; replace HB := sB hb; (try clear hb)) | (refine gl (some 29) Tryz.func12 #[.string t416] ?_; (with_reducible refine (newelref05_Parse.calls kj1 t416 t417 t418 _ (gS HG) A10.out).mono ?_); rintro e w26 ⟨v419, rfl, ho0, hb⟩; refine ⟨_, rfl, ?_⟩; have HO420 := Aside0.mk (Kd.R_lower (Kd.R_new' (Kd.R_new' (Kd.R_new' ho0 (Kd.R_lt (kR HO_3))) (Kd.R_lt (kR HO412))) (Kd.R_lt (kR HO415))) (below_size bE)); replace HO_3 := Aside0.mk (Kd.R_elder' (kR HO_3) (Kd.R_base ho0) hb); replace HO412 := Aside0.mk (Kd.R_elder' (kR HO412) (Kd.R_base ho0) hb); replace HO415 := Aside0.mk (Kd.R_elder' (kR HO415) (Kd.R_base ho0) hb); replace HB := sB hb; (try clear hb); (try clear ho0); have p421 : 0 ≤ (x4_1 : Int) := dA; have q421 : x4_1 < (l0.length : Int) := dA; obtain ⟨ad421, e421, hx421_0, hx421_1, hx421_2, hx421_3⟩ := at_T30 HR0.out x4_1 p421 q421; obtain rfl : ad409 = ad421 := (by injection e421); replace hx421_0 := (HB.out.cell (World.block_lt_of_cell? w _ hx421_0)).trans hx421_0; replace hx421_1 := (HB.out.cell (World.block_lt_of_cell? w _ hx421_1)).trans hx421_1; replace hx421_2 := (HB.out.cell (World.block_lt_of_cell? w _ hx421_2)).trans hx421_2; replace hx421_3 := (HB.out.cell (World.block_lt_of_cell? w _ hx421_3)).trans hx421_3; replace p421 := eq_true p421; replace q421 := eq_true q421) | (refine gl (some 36) Tryz.func14 #[.agg #[.string ((rd_T30 l0 x4_1).f0), .string ((rd_T30 l0 x4_1).f1), .bool ((rd_T30 l0 x4_1).f2), .bool ((rd_T30 l0 x4_1).f3)]] ?_; (with_reducible refine (newelref05_May.calls kj1 ((rd_T30 l0 x4_1).f0) ((rd_T30 l0 x4_1).f1) ((rd_T30 l0 x4_1).f2) ((rd_T30 l0 x4_1).f3) true _ (gS HG) A11.out).mono ?_); rintro e w27 ⟨rfl, hb⟩; refine ⟨_, rfl, ?_⟩; replace HO_3 := rB HO_3 hb; replace HO412 := rB HO412 hb; replace HO415 := rB HO415 hb; replace HO420 := rB HO420 hb; replace HB := sB hb; (try clear hb); obtain ⟨Ao28, co28, eo28⟩ := Kd.R_slice HO420.out; subst eo28) | (go_at_call 15; (with_reducible refine (api_Span_15.calls kj1 _ _ t417 _ _ y413 true _ ?side1 ?side2 ?side3 ?side4 (gS HG) A14.out).mono ?_); (case side1 => repeat (first | exact (Kd.R_reads' HO420.out).2.2 | (with_reducible refine Kd.C_alloc ?_ _) | (with_reducible refine Kd.C_drewN ?_ _) | (with_reducible refine Kd.C_drew ?_))); (case side2 => exact (Kd.R_reads' HO420.out).2.1); (case side3 => repeat (first | exact (Kd.R_reads' HO415.out).2.2 | (with_reducible refine Kd.C_alloc ?_ _) | (with_reducible refine Kd.C_drewN ?_ _) | (with_reducible refine Kd.C_drew ?_))); (case side4 => exact (Kd.R_reads' HO415.out).2.1); rintro e w29 ⟨rfl, hb⟩; replace HO_3 := rB HO_3 hb; replace HO412 := rB HO412 hb; replace HO415 := rB HO415 hb; replace HO420 := rB HO420 hb; replace HB := sB hb; (try clear hb)))
    go_roundg kj1
    case measure => have := HK1.out; have := HJ1.out; omega
    case rel => exact ⟨(y413), (wrap64 (x4_1 + 1)), cA, H', ⟨by have := HK1.out; have := HJ1.out; omega⟩, ⟨by (with_reducible repeat (first | apply Kd.R_alloc | apply Kd.R_drewN | apply Kd.R_drew)); exact Kd.R_mono HO415.out (fun _ hk => trivial)⟩, ⟨bE⟩⟩
   replace c15 := Bool.eq_false_iff.mpr c15
   subst c15
   replace H : (newellaw07_right.l0 kj1 l0 x3_1 (wrap64 (x4_1 + 1))) = some r := by rw [if_neg nF] at H; exact H
   have H' := Aside0.mk H
   clear H
   obtain ⟨Ao30, co30, eo30⟩ := Kd.R_slice HO_3.out
   subst eo30
   try go_wp2
   replace HO_3 := Aside0.mk (Kd.R_drew HO_3.out)
   replace HB := Aside0.mk (below_drew1 HB.out)
   have p409 : 0 ≤ (x4_1 : Int) := dA
   have q409 : x4_1 < (l0.length : Int) := dA
   obtain ⟨ad409, e409, hx409_0, hx409_1, hx409_2, hx409_3⟩ := at_T30 HR0.out x4_1 p409 q409
   have hw409_3 := hx409_3
   have hw409_2 := hx409_2
   have hw409_1 := hx409_1
   have hw409_0 := hx409_0
   cases e409
   replace hx409_0 := (HB.out.cell (World.block_lt_of_cell? w _ hx409_0)).trans hx409_0
   replace hx409_1 := (HB.out.cell (World.block_lt_of_cell? w _ hx409_1)).trans hx409_1
   replace hx409_2 := (HB.out.cell (World.block_lt_of_cell? w _ hx409_2)).trans hx409_2
   replace hx409_3 := (HB.out.cell (World.block_lt_of_cell? w _ hx409_3)).trans hx409_3
   replace p409 := eq_true p409
   replace q409 := eq_true q409
   refine start_ (n := 9) (S := fun w' => w'.cell? (ad409.add ((x4_1).toNat * 4)) = some (.string ((rd_T30 l0 x4_1).f0)) ∧ w'.cell? ⟨(ad409.add ((x4_1).toNat * 4)).block, (ad409.add ((x4_1).toNat * 4)).off + 1, none⟩ = some (.string ((rd_T30 l0 x4_1).f1)) ∧ w'.cell? ⟨(ad409.add ((x4_1).toNat * 4)).block, (ad409.add ((x4_1).toNat * 4)).off + 2, none⟩ = some (.bool ((rd_T30 l0 x4_1).f2)) ∧ w'.cell? ⟨(ad409.add ((x4_1).toNat * 4)).block, (ad409.add ((x4_1).toNat * 4)).off + 3, none⟩ = some (.bool ((rd_T30 l0 x4_1).f3))) (ds := []) #[false, false, false, false, false, false, false, false, false] (by kernel_rfl) rfl rfl ⟨((HB.out.cell (World.block_lt_of_cell? w _ hw409_0)).trans hw409_0), ((HB.out.cell (World.block_lt_of_cell? w _ hw409_1)).trans hw409_1), ((HB.out.cell (World.block_lt_of_cell? w _ hw409_2)).trans hw409_2), ((HB.out.cell (World.block_lt_of_cell? w _ hw409_3)).trans hw409_3)⟩ (fun hHeld => ?_); refine with_tabW newellaw07_right.tab5 newellaw07_right.bits5 (fun HT_ HW_ => ?_)
   generalize wc.drew = w31 at HO_3 HB hx409_0 hx409_1 hx409_2 hx409_3 hHeld ⊢
   refine pz 0 (some 18) HT_ ?_
   refine pz 2 (some 20) HT_ ?_
   refine pz 3 (some 21) HT_ ?_
   refine pz 4 (some 22) HT_ ?_
   refine tm 5 (some 23) HT_ HW_ hHeld ?_
   refine join_ (σ := Value × Value) 2 #[true, true, true, true, true, true, true, false, false] (fun s_ => [(19, s_.1), (24, s_.2)]) (fun s_ w' => (w'.cell? (ad409.add ((x4_1).toNat * 4)) = some (.string ((rd_T30 l0 x4_1).f0)) ∧ w'.cell? ⟨(ad409.add ((x4_1).toNat * 4)).block, (ad409.add ((x4_1).toNat * 4)).off + 1, none⟩ = some (.string ((rd_T30 l0 x4_1).f1)) ∧ w'.cell? ⟨(ad409.add ((x4_1).toNat * 4)).block, (ad409.add ((x4_1).toNat * 4)).off + 2, none⟩ = some (.bool ((rd_T30 l0 x4_1).f2)) ∧ w'.cell? ⟨(ad409.add ((x4_1).toNat * 4)).block, (ad409.add ((x4_1).toNat * 4)).off + 3, none⟩ = some (.bool ((rd_T30 l0 x4_1).f3))) ∧ (Kd.R k30 30 w' w.heap.size (fun k_ => some k_ ≠ (s_.2 : Value).ownBlock ∧ some k_ ≠ (.slice Ao30 x3_1.length co30 : Value).ownBlock) s_.1 y406) ∧ (Kd.R k30 30 w' w.heap.size (fun k_ => some k_ ≠ (s_.1 : Value).ownBlock ∧ some k_ ≠ (.slice Ao30 x3_1.length co30 : Value).ownBlock) s_.2 y410) ∧ (Kd.R k30 30 w' w.heap.size (fun k_ => some k_ ≠ (s_.1 : Value).ownBlock ∧ some k_ ≠ (s_.2 : Value).ownBlock) (.slice Ao30 x3_1.length co30) x3_1) ∧ (Below w.heap.size w w')) ?_ ?_
   rotate_left
   ·intro hCont
    refine two_ (i := 1) (j := 6) (Ni := some 19) (Nj := some 24) #[true, true, true, true, true, true, false, false, false] #[true, false, true, true, true, true, true, false, false] rfl rfl rfl rfl (two_of HT_.out (by kernel_rfl)) (by decide) (by decide) (fun K hK => ?_) (fun K hK => ?_)
    ·skip
     refine Kd.R_append_rows_step k30 (w0 := w) w.heap.size (by rfl) (.const (.slice none 0 0)) (.tmp 18) 22 30 (.agg #[(.string ⟨#[]⟩), (.string ⟨#[]⟩), (.bool false), (.bool false)]) 40 rfl Tryz.underlying22 info30 rfl (by decide) (by omega) (.slice none 0 0) ([] : List (S30)) x3_1 _ _ _ (fun k_ => some k_ ≠ (.slice Ao30 x3_1.length co30 : Value).ownBlock) (fun _ => False) rfl rfl ?aO ?aR (fun _ _ h => h) (fun _ h => h.elim) ?aF ?aB ?aS ?aL ?_
     (case aR => repeat (first | exact (Kd.R_reads' HO_3.out).2.2 | (with_reducible refine Kd.C_alloc ?_ _) | (with_reducible refine Kd.C_drewN ?_ _) | (with_reducible refine Kd.C_drew ?_)))
     (case aB => exact bE)
     (case aF => exact (fun k_ hk => Kd.fresh' (Kd.R_lt (kR HO_3)) k_ hk))
     (case aO => exact ((Kd.R_nil _ _ _ _ (fun k_ => some k_ ≠ (.slice Ao30 x3_1.length co30 : Value).ownBlock))))
     (case aS => exact (below_size bE))
     (case aL => have := LMc5.out; omega)
     intro v407 w32 ho hb hg hat
     rw [← Ny406.out] at ho
     replace HO_3 := Aside0.mk (Kd.R_after (Kd.R_apart_nil (kR HO_3)) hg hat)
     replace HB := Aside0.mk (hb)
     have HO408 := Aside0.mk (ho)
     clear ho hb hg hat
     refine hK.out _ _ ⟨((HB.out.cell (World.block_lt_of_cell? w _ hw409_0)).trans hw409_0), ((HB.out.cell (World.block_lt_of_cell? w _ hw409_1)).trans hw409_1), ((HB.out.cell (World.block_lt_of_cell? w _ hw409_2)).trans hw409_2), ((HB.out.cell (World.block_lt_of_cell? w _ hw409_3)).trans hw409_3)⟩ (fun hHeld => ?_)
     clear hK K
     refine nz (some 19) ?_
     refine on 6 (some 24) HT_ (fun K hK => ?_)
     refine Kd.R_lit_step k30 _ 30 ?hg (N := 24) ?hd (xs := ([(⟨(rd_T30 l0 x4_1).f0, (rd_T30 l0 x4_1).f1, (rd_T30 l0 x4_1).f2, (rd_T30 l0 x4_1).f3⟩ : S30)] : List (S30))) (inner := [.string ((rd_T30 l0 x4_1).f0), .string ((rd_T30 l0 x4_1).f1), .bool ((rd_T30 l0 x4_1).f2), .bool ((rd_T30 l0 x4_1).f3)]) (ok := fun _ => True) (okp := fun _ => True) ?hr ?hp (fun _ hk => hk) trivial (Below.refl _ _) (Nat.le_refl _) (by simp) ?_; (case hd => rfl); (case hg => rfl); (case hr => first | (go_simp; done) | (go_simp; rfl)); (case hp => exact (Reps.c4 (show Kd.M k30 _ _ _ (⟨(rd_T30 l0 x4_1).f0, (rd_T30 l0 x4_1).f1, (rd_T30 l0 x4_1).f2, (rd_T30 l0 x4_1).f3⟩ : S30) [.string ((rd_T30 l0 x4_1).f0), .string ((rd_T30 l0 x4_1).f1), .bool ((rd_T30 l0 x4_1).f2), .bool ((rd_T30 l0 x4_1).f3)] from (k30_mkM _ _ _ (⟨(rd_T30 l0 x4_1).f0, (rd_T30 l0 x4_1).f1, (rd_T30 l0 x4_1).f2, (rd_T30 l0 x4_1).f3⟩ : S30) )) (Reps.none _ _)))
     intro v411 w33 ho34 hb hg_ hnew_
     clear hg_ hnew_
     (first | rw [← Ny410.out] at ho34 | (simp only [Int.reduceToNat] at ho34; rw [← Ny410.out] at ho34))
     have HO412 := Aside0.mk (Kd.R_lower (Kd.R_new' (Kd.R_new' ho34 (Kd.R_lt (kR HO_3))) (Kd.R_lt (kR HO408))) (below_size bE))
     replace HO_3 := Aside0.mk (Kd.R_elder' (kR HO_3) (Kd.R_base ho34) hb)
     replace HO408 := Aside0.mk (Kd.R_elder' (kR HO408) (Kd.R_base ho34) hb)
     replace HB := sB hb
     clear hb ho34
     refine hK.out _ _ ⟨((HB.out.cell (World.block_lt_of_cell? w _ hw409_0)).trans hw409_0), ((HB.out.cell (World.block_lt_of_cell? w _ hw409_1)).trans hw409_1), ((HB.out.cell (World.block_lt_of_cell? w _ hw409_2)).trans hw409_2), ((HB.out.cell (World.block_lt_of_cell? w _ hw409_3)).trans hw409_3)⟩ (fun hHeld => ?_)
     clear hK K
     refine nz (some 24) ?_
     exact norm_ (by simp only [putAll, Act.put, List.setIfInBounds_toArray, List.set_cons_zero, List.set_cons_succ]) (hCont (v407, v411) _ ⟨hHeld, (by (with_reducible repeat (first | apply Kd.R_alloc | apply Kd.R_drewN | apply Kd.R_drew)); exact Kd.R_mono HO408.out (fun _ hk => ⟨hk.2, hk.1⟩)), (by (with_reducible repeat (first | apply Kd.R_alloc | apply Kd.R_drewN | apply Kd.R_drew)); exact Kd.R_mono HO412.out (fun _ hk => ⟨hk.2, hk.1.2⟩)), (by (with_reducible repeat (first | apply Kd.R_alloc | apply Kd.R_drewN | apply Kd.R_drew)); exact Kd.R_mono HO_3.out (fun _ hk => ⟨hk.1.2, hk.2⟩)), bE⟩)
    ·skip
     refine Kd.R_lit_step k30 _ 30 ?hg (N := 24) ?hd (xs := ([(⟨(rd_T30 l0 x4_1).f0, (rd_T30 l0 x4_1).f1, (rd_T30 l0 x4_1).f2, (rd_T30 l0 x4_1).f3⟩ : S30)] : List (S30))) (inner := [.string ((rd_T30 l0 x4_1).f0), .string ((rd_T30 l0 x4_1).f1), .bool ((rd_T30 l0 x4_1).f2), .bool ((rd_T30 l0 x4_1).f3)]) (ok := fun _ => True) (okp := fun _ => True) ?hr ?hp (fun _ hk => hk) trivial (Below.refl _ _) (Nat.le_refl _) (by simp) ?_; (case hd => rfl); (case hg => rfl); (case hr => first | (go_simp; done) | (go_simp; rfl)); (case hp => exact (Reps.c4 (show Kd.M k30 _ _ _ (⟨(rd_T30 l0 x4_1).f0, (rd_T30 l0 x4_1).f1, (rd_T30 l0 x4_1).f2, (rd_T30 l0 x4_1).f3⟩ : S30) [.string ((rd_T30 l0 x4_1).f0), .string ((rd_T30 l0 x4_1).f1), .bool ((rd_T30 l0 x4_1).f2), .bool ((rd_T30 l0 x4_1).f3)] from (k30_mkM _ _ _ (⟨(rd_T30 l0 x4_1).f0, (rd_T30 l0 x4_1).f1, (rd_T30 l0 x4_1).f2, (rd_T30 l0 x4_1).f3⟩ : S30) )) (Reps.none _ _)))
     intro v411 w32 ho33 hb hg_ hnew_
     clear hg_ hnew_
     (first | rw [← Ny410.out] at ho33 | (simp only [Int.reduceToNat] at ho33; rw [← Ny410.out] at ho33))
     have HO412 := Aside0.mk (Kd.R_lower (Kd.R_new' ho33 (Kd.R_lt (kR HO_3))) (below_size bE))
     replace HO_3 := Aside0.mk (Kd.R_elder' (kR HO_3) (Kd.R_base ho33) hb)
     replace HB := sB hb
     clear hb ho33
     refine hK.out _ _ ⟨((HB.out.cell (World.block_lt_of_cell? w _ hw409_0)).trans hw409_0), ((HB.out.cell (World.block_lt_of_cell? w _ hw409_1)).trans hw409_1), ((HB.out.cell (World.block_lt_of_cell? w _ hw409_2)).trans hw409_2), ((HB.out.cell (World.block_lt_of_cell? w _ hw409_3)).trans hw409_3)⟩ (fun hHeld => ?_)
     clear hK K
     refine nz (some 24) ?_
     refine on 1 (some 19) HT_ (fun K hK => ?_)
     refine Kd.R_append_rows_step k30 (w0 := w) w.heap.size (by rfl) (.const (.slice none 0 0)) (.tmp 18) 22 30 (.agg #[(.string ⟨#[]⟩), (.string ⟨#[]⟩), (.bool false), (.bool false)]) 40 rfl Tryz.underlying22 info30 rfl (by decide) (by omega) (.slice none 0 0) ([] : List (S30)) x3_1 _ _ _ (fun k_ => some k_ ≠ (.slice Ao30 x3_1.length co30 : Value).ownBlock ∧ some k_ ≠ (v411 : Value).ownBlock) (fun _ => False) rfl rfl ?aO ?aR (fun _ _ h => h) (fun _ h => h.elim) ?aF ?aB ?aS ?aL ?_
     (case aR => repeat (first | exact (Kd.R_reads' HO_3.out).2.2 | (with_reducible refine Kd.C_alloc ?_ _) | (with_reducible refine Kd.C_drewN ?_ _) | (with_reducible refine Kd.C_drew ?_)))
     (case aB => exact bE)
     (case aF => exact (fun k_ hk => ⟨Kd.fresh' (Kd.R_lt (kR HO_3)) k_ hk, Kd.fresh' (Kd.R_lt (kR HO412)) k_ hk⟩))
     (case aO => exact ((Kd.R_nil _ _ _ _ (fun k_ => some k_ ≠ (.slice Ao30 x3_1.length co30 : Value).ownBlock ∧ some k_ ≠ (v411 : Value).ownBlock))))
     (case aS => exact (below_size bE))
     (case aL => have := LMc5.out; omega)
     intro v407 w34 ho hb hg hat
     rw [← Ny406.out] at ho
     replace HO_3 := Aside0.mk (Kd.R_after (Kd.R_apart_nil (kR HO_3)) hg hat)
     replace HO412 := Aside0.mk (Kd.R_after (Kd.R_apart_nil (kR HO412)) hg hat)
     replace HB := Aside0.mk (hb)
     have HO408 := Aside0.mk (ho)
     clear ho hb hg hat
     refine hK.out _ _ ⟨((HB.out.cell (World.block_lt_of_cell? w _ hw409_0)).trans hw409_0), ((HB.out.cell (World.block_lt_of_cell? w _ hw409_1)).trans hw409_1), ((HB.out.cell (World.block_lt_of_cell? w _ hw409_2)).trans hw409_2), ((HB.out.cell (World.block_lt_of_cell? w _ hw409_3)).trans hw409_3)⟩ (fun hHeld => ?_)
     clear hK K
     refine nz (some 19) ?_
     exact norm_ (by simp only [putAll, Act.put, List.setIfInBounds_toArray, List.set_cons_zero, List.set_cons_succ]) (hCont (v407, v411) _ ⟨hHeld, (by (with_reducible repeat (first | apply Kd.R_alloc | apply Kd.R_drewN | apply Kd.R_drew)); exact Kd.R_mono HO408.out (fun _ hk => ⟨hk.2, hk.1⟩)), (by (with_reducible repeat (first | apply Kd.R_alloc | apply Kd.R_drewN | apply Kd.R_drew)); exact Kd.R_mono HO412.out (fun _ hk => ⟨hk.2, hk.1.2⟩)), (by (with_reducible repeat (first | apply Kd.R_alloc | apply Kd.R_drewN | apply Kd.R_drew)); exact Kd.R_mono HO_3.out (fun _ hk => ⟨hk.2, hk.1.2⟩)), bE⟩)
   rintro ⟨v407, v411⟩ w35 ⟨hS_, h0_, h1_, h2_, h3_⟩
   have HO408 : Aside0 (Kd.R k30 30 w35 w.heap.size (fun k_ => some k_ ≠ (v411 : Value).ownBlock ∧ some k_ ≠ (.slice Ao30 x3_1.length co30 : Value).ownBlock) v407 y406) := ⟨h0_⟩
   have HO412 : Aside0 (Kd.R k30 30 w35 w.heap.size (fun k_ => some k_ ≠ (v407 : Value).ownBlock ∧ some k_ ≠ (.slice Ao30 x3_1.length co30 : Value).ownBlock) v411 y410) := ⟨h1_⟩
   replace HO_3 : Aside0 (Kd.R k30 30 w35 w.heap.size (fun k_ => some k_ ≠ (v407 : Value).ownBlock ∧ some k_ ≠ (v411 : Value).ownBlock) (.slice Ao30 x3_1.length co30) x3_1) := ⟨h2_⟩
   replace HB : Aside0 (Below w.heap.size w w35) := ⟨h3_⟩
   clear h0_ h1_ h2_ h3_
   have hHeld : w35.cell? (ad409.add ((x4_1).toNat * 4)) = some (.string ((rd_T30 l0 x4_1).f0)) ∧ w35.cell? ⟨(ad409.add ((x4_1).toNat * 4)).block, (ad409.add ((x4_1).toNat * 4)).off + 1, none⟩ = some (.string ((rd_T30 l0 x4_1).f1)) ∧ w35.cell? ⟨(ad409.add ((x4_1).toNat * 4)).block, (ad409.add ((x4_1).toNat * 4)).off + 2, none⟩ = some (.bool ((rd_T30 l0 x4_1).f2)) ∧ w35.cell? ⟨(ad409.add ((x4_1).toNat * 4)).block, (ad409.add ((x4_1).toNat * 4)).off + 3, none⟩ = some (.bool ((rd_T30 l0 x4_1).f3)) := hS_
   obtain ⟨Ao37, co37, eo37⟩ := Kd.R_slice HO412.out
   (first | subst eo37 | (injection eo37 with f1_ f2_ f3_; have f4_ := f1_.symm; have f5_ := f3_.symm; clear f1_ f2_ f3_; subst f4_; subst f5_))
   refine norm_ (a' := ?_) ?_ ?_
   rotate_left
   ·simp only [putAll, Act.put, List.setIfInBounds_toArray, List.set_cons_zero, List.set_cons_succ]
    rfl
   refine on 7 (some 25) HT_ (fun K hK => ?_)
   refine Kd.R_append_rows_step k30 (w0 := w) w.heap.size (by rfl) (.tmp 19) (.tmp 24) 22 30 (.agg #[(.string ⟨#[]⟩), (.string ⟨#[]⟩), (.bool false), (.bool false)]) 40 rfl Tryz.underlying22 info30 rfl (by decide) (by omega) v407 y406 y410 _ _ _ (fun k_ => some k_ ≠ (.slice Ao30 x3_1.length co30 : Value).ownBlock ∧ some k_ ≠ (.slice Ao37 y410.length co37 : Value).ownBlock) (fun _ => False) rfl rfl ?aO ?aR (fun _ _ h => h) (fun _ h => h.elim) ?aF ?aB ?aS ?aL ?_
   (case aR => repeat (first | exact (Kd.R_reads' HO412.out).2.2 | (with_reducible refine Kd.C_alloc ?_ _) | (with_reducible refine Kd.C_drewN ?_ _) | (with_reducible refine Kd.C_drew ?_)))
   (case aB => exact bE)
   (case aF => exact (fun k_ hk => ⟨Kd.fresh' (Kd.R_lt (kR HO_3)) k_ hk, Kd.fresh' (Kd.R_lt (kR HO412)) k_ hk⟩))
   (case aO => exact (by (with_reducible repeat (first | apply Kd.R_alloc | apply Kd.R_drewN | apply Kd.R_drew)); exact Kd.R_mono HO408.out (fun _ hk => ⟨hk.2, hk.1⟩)))
   (case aS => exact (below_size bE))
   (case aL => have := LMc8.out; omega)
   intro v414 w36 ho hb hg hat
   rw [← Ny413.out] at ho
   replace HO_3 := Aside0.mk (Kd.R_after (ok := (fun k_ => some k_ ≠ (.slice Ao37 y410.length co37 : Value).ownBlock)) (by (with_reducible repeat (first | apply Kd.R_alloc | apply Kd.R_drewN | apply Kd.R_drew)); exact Kd.R_mono HO_3.out (fun _ hk => ⟨hk.2, hk.1⟩)) hg hat)
   replace HO412 := Aside0.mk (Kd.R_after (ok := (fun k_ => some k_ ≠ (.slice Ao30 x3_1.length co30 : Value).ownBlock)) (by (with_reducible repeat (first | apply Kd.R_alloc | apply Kd.R_drewN | apply Kd.R_drew)); exact Kd.R_mono HO412.out (fun _ hk => ⟨hk.2, hk.1⟩)) hg hat)
   replace HB := Aside0.mk (hb)
   have HO415 := Aside0.mk (ho)
   clear HO408
   clear ho hb hg hat
   refine hK.out _ _ ⟨((HB.out.cell (World.block_lt_of_cell? w _ hw409_0)).trans hw409_0), ((HB.out.cell (World.block_lt_of_cell? w _ hw409_1)).trans hw409_1), ((HB.out.cell (World.block_lt_of_cell? w _ hw409_2)).trans hw409_2), ((HB.out.cell (World.block_lt_of_cell? w _ hw409_3)).trans hw409_3)⟩ (fun hHeld => ?_)
   clear hK K
   refine nz (some 25) ?_
   refine pz 8 (some 5) HT_ ?_
   refine done_ (done_of HT_.out (by kernel_rfl)) ?_
   obtain ⟨Ao38, co38, eo38⟩ := Kd.R_slice HO415.out
   subst eo38
   try go_wp2_with (first | (refine gl (some 28) Tryz.func13 #[.slice Ao38 y413.length co38] ?_; (with_reducible refine (newelref05_Text.calls kj1 _ _ y413 t416 _ ?side1 ?side2 (gS HG) A9.out).mono ?_); (case side1 => repeat (first | exact (Kd.R_reads' HO415.out).2.2 | (with_reducible refine Kd.C_alloc ?_ _) | (with_reducible refine Kd.C_drewN ?_ _) | (with_reducible refine Kd.C_drew ?_))); (case side2 => exact (Kd.R_reads' HO415.out).2.1); rintro e w39 ⟨rfl, hb⟩; refine ⟨_, rfl, ?_⟩; replace HO_3 := rB HO_3 hb; replace HO412 := rB HO412 hb; replace HO415 := rB HO415 hb; replace HB := sB hb; (try clear hb)) | (refine gl (some 29) Tryz.func12 #[.string t416] ?_; (with_reducible refine (newelref05_Parse.calls kj1 t416 t417 t418 _ (gS HG) A10.out).mono ?_); rintro e w40 ⟨v419, rfl, ho0, hb⟩; refine ⟨_, rfl, ?_⟩; have HO420 := Aside0.mk (Kd.R_lower (Kd.R_new' (Kd.R_new' (Kd.R_new' ho0 (Kd.R_lt (kR HO_3))) (Kd.R_lt (kR HO412))) (Kd.R_lt (kR HO415))) (below_size bE)); replace HO_3 := Aside0.mk (Kd.R_elder' (kR HO_3) (Kd.R_base ho0) hb); replace HO412 := Aside0.mk (Kd.R_elder' (kR HO412) (Kd.R_base ho0) hb); replace HO415 := Aside0.mk (Kd.R_elder' (kR HO415) (Kd.R_base ho0) hb); replace HB := sB hb; (try clear hb); (try clear ho0); have p421 : 0 ≤ (x4_1 : Int) := dA; have q421 : x4_1 < (l0.length : Int) := dA; obtain ⟨ad421, e421, hx421_0, hx421_1, hx421_2, hx421_3⟩ := at_T30 HR0.out x4_1 p421 q421; obtain rfl : ad409 = ad421 := (by injection e421); replace hx421_0 := (HB.out.cell (World.block_lt_of_cell? w _ hx421_0)).trans hx421_0; replace hx421_1 := (HB.out.cell (World.block_lt_of_cell? w _ hx421_1)).trans hx421_1; replace hx421_2 := (HB.out.cell (World.block_lt_of_cell? w _ hx421_2)).trans hx421_2; replace hx421_3 := (HB.out.cell (World.block_lt_of_cell? w _ hx421_3)).trans hx421_3; replace p421 := eq_true p421; replace q421 := eq_true q421) | (refine gl (some 36) Tryz.func14 #[.agg #[.string ((rd_T30 l0 x4_1).f0), .string ((rd_T30 l0 x4_1).f1), .bool ((rd_T30 l0 x4_1).f2), .bool ((rd_T30 l0 x4_1).f3)]] ?_; (with_reducible refine (newelref05_May.calls kj1 ((rd_T30 l0 x4_1).f0) ((rd_T30 l0 x4_1).f1) ((rd_T30 l0 x4_1).f2) ((rd_T30 l0 x4_1).f3) true _ (gS HG) A11.out).mono ?_); rintro e w41 ⟨rfl, hb⟩; refine ⟨_, rfl, ?_⟩; replace HO_3 := rB HO_3 hb; replace HO412 := rB HO412 hb; replace HO415 := rB HO415 hb; replace HO420 := rB HO420 hb; replace HB := sB hb; (try clear hb); obtain ⟨Ao42, co42, eo42⟩ := Kd.R_slice HO420.out; subst eo42) | (go_at_call 15; (with_reducible refine (api_Span_15.calls kj1 _ _ t417 _ _ y413 false _ ?side1 ?side2 ?side3 ?side4 (gS HG) A14.out).mono ?_); (case side1 => repeat (first | exact (Kd.R_reads' HO420.out).2.2 | (with_reducible refine Kd.C_alloc ?_ _) | (with_reducible refine Kd.C_drewN ?_ _) | (with_reducible refine Kd.C_drew ?_))); (case side2 => exact (Kd.R_reads' HO420.out).2.1); (case side3 => repeat (first | exact (Kd.R_reads' HO415.out).2.2 | (with_reducible refine Kd.C_alloc ?_ _) | (with_reducible refine Kd.C_drewN ?_ _) | (with_reducible refine Kd.C_drew ?_))); (case side4 => exact (Kd.R_reads' HO415.out).2.1); rintro e w43 ⟨rfl, hb⟩; replace HO_3 := rB HO_3 hb; replace HO412 := rB HO412 hb; replace HO415 := rB HO415 hb; replace HO420 := rB HO420 hb; replace HB := sB hb; (try clear hb)))
   go_roundg kj1
   case measure => have := HK1.out; have := HJ1.out; omega
   case rel => exact ⟨(x3_1), (wrap64 (x4_1 + 1)), cA, H', ⟨by have := HK1.out; have := HJ1.out; omega⟩, ⟨by (with_reducible repeat (first | apply Kd.R_alloc | apply Kd.R_drewN | apply Kd.R_drew)); exact Kd.R_mono HO_3.out (fun _ hk => trivial)⟩, ⟨bE⟩⟩
def span_closer.f (k : Nat) (a0 : ByteArray) (a1 : Bool) (a2 : ByteArray) (a3 : Bool) (a4 : Int) : Option (ByteArray × Bool) := if a0.toList = ([] : List UInt8) then (some (a2, a3)) else (if a2.toList = ([] : List UInt8) then (some (a0, a1)) else ((order_Compare.f k a0 a2).bind fun t424 => (if (wrap64 (a4 * t424)) > 0 then (some (a0, a1)) else (if (wrap64 (a4 * t424)) < 0 then (some (a2, a3)) else (if a1 = true then (some (a0, a3)) else (some (a0, false)))))))
theorem span_closer.mono : ∀ a0 a1 a2 a3 a4 k, LeO (span_closer.f k a0 a1 a2 a3 a4) (span_closer.f (k + 1) a0 a1 a2 a3 a4) := by
 intro a0 a1 a2 a3 a4 k
 unfold span_closer.f
 have m0 := @order_Compare.mono
 exact mo
theorem span_closer.calls (k : Nat) (a0 : ByteArray) (a1 : Bool) (a2 : ByteArray) (a3 : Bool) (a4 : Int) (r1 : ByteArray) (r2 : Bool) (w : World) (hG : Glob w) (h : span_closer.f k a0 a1 a2 a3 a4 = some (r1, r2)) :
 Calls Tryz.prog 16 #[.string a0, .bool a1, .string a2, .bool a3, .int .i64 a4] w fun e w' => e = .returned (.tuple #[.string r1, .bool r2]) ∧ Below w.heap.size w w' := by
 have HG := Aside0.mk hG
 clear hG
 have HB := Aside0.mk (Below.refl w.heap.size w)
 have H : (if a0.toList = ([] : List UInt8) then (some (a2, a3)) else (if a2.toList = ([] : List UInt8) then (some (a0, a1)) else ((order_Compare.f k a0 a2).bind fun t424 => (if (wrap64 (a4 * t424)) > 0 then (some (a0, a1)) else (if (wrap64 (a4 * t424)) < 0 then (some (a2, a3)) else (if a1 = true then (some (a0, a3)) else (some (a0, false)))))))) = some (r1, r2) := h
 clear h
 by_cases c6 : a0.toList = ([] : List UInt8)
 ·rw [if_pos c6] at H
  obtain ⟨c6b0, c6b1⟩ := eqT c6
  (try (have c6b2 : a0.toList.isEmpty = true := by simpa using c6))
  clear c6
  simp only [Option.some.injEq, Prod.mk.injEq] at H
  obtain ⟨rfl, rfl⟩ := H
  go_enter Tryz.func16, Tryz.ntmps16
  go_wp2
  go_ret2
  exact ⟨eA, bE⟩
 rw [if_neg c6] at H
 obtain ⟨c6b0, c6b1⟩ := eqF c6
 (try (have c6b2 : a0.toList.isEmpty = false := by simpa using c6))
 by_cases c7 : a2.toList = ([] : List UInt8)
 ·rw [if_pos c7] at H
  obtain ⟨c7b0, c7b1⟩ := eqT c7
  (try (have c7b2 : a2.toList.isEmpty = true := by simpa using c7))
  clear c7
  simp only [Option.some.injEq, Prod.mk.injEq] at H
  obtain ⟨rfl, rfl⟩ := H
  go_enter Tryz.func16, Tryz.ntmps16
  go_wp2
  go_ret2
  exact ⟨eA, bE⟩
 rw [if_neg c7] at H
 obtain ⟨c7b0, c7b1⟩ := eqF c7
 (try (have c7b2 : a2.toList.isEmpty = false := by simpa using c7))
 replace H := bi H
 obtain ⟨t424, A80, H⟩ := H
 try dsimp only at H
 have A8 := Aside0.mk A80
 clear A80
 by_cases c9 : (wrap64 (a4 * t424)) > 0
 ·rw [if_pos c9] at H
  have c9b0 := dT c9
  clear c9
  simp only [Option.some.injEq, Prod.mk.injEq] at H
  obtain ⟨rfl, rfl⟩ := H
  go_enter Tryz.func16, Tryz.ntmps16
  go_wp2_with (first | (refine gl (some 26) Tryz.func34 #[.string a0, .string a2] ?_; (with_reducible refine (order_Compare.calls k a0 a2 t424 _ (gS HG) A8.out).mono ?_); rintro e w10 ⟨rfl, hb⟩; refine ⟨_, rfl, ?_⟩; replace HB := sB hb; (try clear hb)))
  go_ret2
  exact ⟨eA, bE⟩
 rw [if_neg c9] at H
 have c9b0 := dF c9
 clear c9
 by_cases c11 : (wrap64 (a4 * t424)) < 0
 ·rw [if_pos c11] at H
  have c11b0 := dT c11
  clear c11
  simp only [Option.some.injEq, Prod.mk.injEq] at H
  obtain ⟨rfl, rfl⟩ := H
  go_enter Tryz.func16, Tryz.ntmps16
  go_wp2_with (first | (refine gl (some 26) Tryz.func34 #[.string a0, .string a2] ?_; (with_reducible refine (order_Compare.calls k a0 a2 t424 _ (gS HG) A8.out).mono ?_); rintro e w12 ⟨rfl, hb⟩; refine ⟨_, rfl, ?_⟩; replace HB := sB hb; (try clear hb)))
  go_ret2
  exact ⟨eA, bE⟩
 rw [if_neg c11] at H
 have c11b0 := dF c11
 clear c11
 by_cases c13 : a1 = true
 ·subst c13
  replace H : (some (a0, a3)) = some (r1, r2) := by rw [if_pos rfl] at H; exact H
  simp only [Option.some.injEq, Prod.mk.injEq] at H
  obtain ⟨rfl, rfl⟩ := H
  go_enter Tryz.func16, Tryz.ntmps16
  go_wp2_with (first | (refine gl (some 26) Tryz.func34 #[.string a0, .string a2] ?_; (with_reducible refine (order_Compare.calls k a0 a2 t424 _ (gS HG) A8.out).mono ?_); rintro e w14 ⟨rfl, hb⟩; refine ⟨_, rfl, ?_⟩; replace HB := sB hb; (try clear hb)))
  go_ret2
  exact ⟨eA, bE⟩
 replace c13 := Bool.eq_false_iff.mpr c13
 subst c13
 replace H : (some (a0, false)) = some (r1, r2) := by rw [if_neg nF] at H; exact H
 simp only [Option.some.injEq, Prod.mk.injEq] at H
 obtain ⟨rfl, rfl⟩ := H
 go_enter Tryz.func16, Tryz.ntmps16
 go_wp2_with (first | (refine gl (some 26) Tryz.func34 #[.string a0, .string a2] ?_; (with_reducible refine (order_Compare.calls k a0 a2 t424 _ (gS HG) A8.out).mono ?_); rintro e w15 ⟨rfl, hb⟩; refine ⟨_, rfl, ?_⟩; replace HB := sB hb; (try clear hb)))
 go_ret2
 exact ⟨eA, bE⟩
mutual
def span_Both.l0 : Nat → List (S30) → List (S30) → List (S30) → Int → Int → Option ((List (S30)))
 | 0, _, _, _, _, _ => none
 | k + 1, x1, x5, x11, x12, x13 => if x13 < x12 then (if 0 ≤ x13 then (if x13 < (x11.length : Int) then (span_Both.l1 k x1 x5 x11 x12 x13 x1 (x1.length : Int) 0 ((rd_T30 x11 x13).f0) ((rd_T30 x11 x13).f1) ((rd_T30 x11 x13).f2) ((rd_T30 x11 x13).f3)) else (none)) else (none)) else (some x5)
def span_Both.l1 : Nat → List (S30) → List (S30) → List (S30) → Int → Int → List (S30) → Int → Int → ByteArray → ByteArray → Bool → Bool → Option ((List (S30)))
 | 0, _, _, _, _, _, _, _, _, _, _, _, _ => none
 | k + 1, x1, x5, x11, x12, x13, x17, x18, x19, x427000, x427001, x427002, x427003 => if x19 < x18 then (if 0 ≤ x19 then (if x19 < (x17.length : Int) then ((span_closer.f k x427000 x427002 ((rd_T30 x17 x19).f0) ((rd_T30 x17 x19).f2) 1).bind fun bt430 => ((span_closer.f k x427001 x427003 ((rd_T30 x17 x19).f1) ((rd_T30 x17 x19).f3) (-1)).bind fun bt432 => ((span_may.f k bt430.1 bt432.1 bt430.2 bt432.2).bind fun t434 => (if t434 = true then (if x5.length < 3518437208883 then (span_Both.l1 k x1 (x5 ++ [(⟨bt430.1, bt432.1, bt430.2, bt432.2⟩ : S30)]) x11 x12 x13 x17 x18 (wrap64 (x19 + 1)) x427000 x427001 x427002 x427003) else (none)) else (span_Both.l1 k x1 x5 x11 x12 x13 x17 x18 (wrap64 (x19 + 1)) x427000 x427001 x427002 x427003))))) else (none)) else (none)) else (span_Both.l0 k x1 x5 x11 x12 (wrap64 (x13 + 1)))
end
def span_Both.f (k : Nat) (l0 : List (S30)) (l1 : List (S30)) : Option ((List (S30))) := span_Both.l0 k l1 ([] : List (S30)) l0 (l0.length : Int) 0
theorem span_Both.mono_l : ∀ k, (∀ y0 y1 y2 y3 y4, LeO (span_Both.l0 k y0 y1 y2 y3 y4) (span_Both.l0 (k + 1) y0 y1 y2 y3 y4)) ∧ (∀ y0 y1 y2 y3 y4 y5 y6 y7 y8 y9 y10 y11, LeO (span_Both.l1 k y0 y1 y2 y3 y4 y5 y6 y7 y8 y9 y10 y11) (span_Both.l1 (k + 1) y0 y1 y2 y3 y4 y5 y6 y7 y8 y9 y10 y11))
 | 0 => ⟨fun _ _ _ _ _ r h => by simp [span_Both.l0] at h, fun _ _ _ _ _ _ _ _ _ _ _ _ r h => by simp [span_Both.l1] at h⟩
 | k + 1 => by
  obtain ⟨ih0, ih1⟩ := span_Both.mono_l k
  refine ⟨?_, ?_⟩
  ·intro y0 y1 y2 y3 y4
   unfold span_Both.l0
   have m0 := @span_closer.mono
   have m1 := @span_may.mono
   exact mo
  ·intro y0 y1 y2 y3 y4 y5 y6 y7 y8 y9 y10 y11
   unfold span_Both.l1
   have m0 := @span_closer.mono
   have m1 := @span_may.mono
   exact mo
theorem span_Both.mono : ∀ a0 a1 k, LeO (span_Both.f k a0 a1) (span_Both.f (k + 1) a0 a1) := by
 intro a0 a1 k
 obtain ⟨ih0, ih1⟩ := span_Both.mono_l k
 unfold span_Both.f
 have m0 := @span_closer.mono
 have m1 := @span_may.mono
 exact mo
theorem span_Both.calls (k : Nat) (A0 : Option Addr) (c0 : Nat) (l0 : List (S30)) (A1 : Option Addr) (c1 : Nat) (l1 : List (S30)) (r : List (S30)) (w : World) (hr0 : Kd.C k30 w A0 l0.length l0) (hc0 : l0.length ≤ c0) (hr1 : Kd.C k30 w A1 l1.length l1) (hc1 : l1.length ≤ c1) (hG : Glob w) (h : span_Both.f k l0 l1 = some r) :
 Calls Tryz.prog 7 #[.slice A0 l0.length c0, .slice A1 l1.length c1] w fun e w' => ∃ v0_ : Value, e = .returned (v0_) ∧ Kd.R k30 30 w' w.heap.size (fun _ => True) v0_ r ∧ Below w.heap.size w w' := by
 have hu30 := Tryz.underlying30
 have HG := Aside0.mk hG
 clear hG
 have HR0 := Aside0.mk hr0
 have HC0 := Aside0.mk hc0
 clear hr0 hc0
 have HR1 := Aside0.mk hr1
 have HC1 := Aside0.mk hc1
 clear hr1 hc1
 have HB := Aside0.mk (Below.refl w.heap.size w)
 have H : (span_Both.l0 k l1 ([] : List (S30)) l0 (l0.length : Int) 0) = some r := h
 clear h
 have H' := Aside0.mk H
 clear H
 go_enter Tryz.func7, Tryz.ntmps7
 go_wp2
 go_loopg [5, 13] k (fun kq v5 v13 w' => ∃ (x5_1 : List (S30)) (x13_1 : Int), v13 = .int .i64 x13_1 ∧ Aside0 (span_Both.l0 kq l1 x5_1 l0 (l0.length : Int) x13_1 = some r) ∧ Aside0 (kq ≤ k) ∧ Aside0 (Kd.R k30 30 w' w.heap.size (fun _ => True) v5 x5_1) ∧ Aside0 (Below w.heap.size w w'))
 case atStart => exact ⟨(([] : List (S30))), (0), cA, H', ⟨Nat.le_refl _⟩, ⟨by first | exact Kd.R_nil _ _ _ _ _ | exact Kd.N_nil _ _ _ _ _ | exact Kd.V_nil _ _ _ _ _ | exact Kd.Q_nil _ _ _ _ _ | exact Kd.S_nil _ _ _ _ _⟩, ⟨bE⟩⟩
 clear H'
 try clear c1
 try clear p2
 obtain ⟨x5_1, x13_1, rfl, HA, HK1, HO_5, HB⟩ := hrel
 cases gk with
 | zero => exact absurd HA.out (by simp [span_Both.l0])
 | succ k1 =>
  have H := HA.out
  clear HA
  simp only [span_Both.l0] at H
  by_cases c3 : x13_1 < (l0.length : Int)
  rotate_left
  ·rw [if_neg c3] at H
   have c3b0 := dF c3
   clear c3
   obtain rfl := Option.some.inj H
   go_wp2
   go_ret
   exact ⟨_, by first | rfl | (simp [errW_none, errW_some] <;> rfl) | (simp [*, errW_none, errW_some] <;> rfl), by (with_reducible repeat (first | apply Kd.R_alloc | apply Kd.R_drewN | apply Kd.R_drew)); exact HO_5.out, bE⟩
  rw [if_pos c3] at H
  have c3b0 := dT c3
  clear c3
  obtain ⟨c4, H⟩ := gp H
  have c4b0 := dT c4
  clear c4
  obtain ⟨c5, H⟩ := gp H
  have c5b0 := dT c5
  clear c5
  have H' := Aside0.mk H
  clear H
  have p425 : 0 ≤ (x13_1 : Int) := dA
  have q425 : x13_1 < (l0.length : Int) := dA
  obtain ⟨ad425, e425, hx425_0, hx425_1, hx425_2, hx425_3⟩ := at_T30 HR0.out x13_1 p425 q425
  cases e425
  replace hx425_0 := (HB.out.cell (World.block_lt_of_cell? w _ hx425_0)).trans hx425_0
  replace hx425_1 := (HB.out.cell (World.block_lt_of_cell? w _ hx425_1)).trans hx425_1
  replace hx425_2 := (HB.out.cell (World.block_lt_of_cell? w _ hx425_2)).trans hx425_2
  replace hx425_3 := (HB.out.cell (World.block_lt_of_cell? w _ hx425_3)).trans hx425_3
  replace p425 := eq_true p425
  replace q425 := eq_true q425
  go_wp2_with (first | (refine be 7 #[.string (⟨#[]⟩ : ByteArray), .string (⟨#[]⟩ : ByteArray), .bool false, .bool false] 30 ?_; intro gb426 hg w6 hbox hb; replace HO_5 := Aside0.mk (Kd.R_below (Kd.R_elderB (kR HO_5) gb426 (Nat.le_of_eq hg.symm)) hb); have BK426 := Aside0.mk (hbox); have GW426 := gW hg; have GE426 := gW hg; replace HB := sB hb; clear hb hbox hg; have hcz7_0 : w6.cell? ⟨gb426, 0, none⟩ = some (.string (⟨#[]⟩ : ByteArray)) := (blk_cell BK426.out 0).trans rfl; have hcz7_1 : w6.cell? ⟨gb426, 1, none⟩ = some (.string (⟨#[]⟩ : ByteArray)) := (blk_cell BK426.out 1).trans rfl; have hcz7_2 : w6.cell? ⟨gb426, 2, none⟩ = some (.bool false) := (blk_cell BK426.out 2).trans rfl; have hcz7_3 : w6.cell? ⟨gb426, 3, none⟩ = some (.bool false) := (blk_cell BK426.out 3).trans rfl; have hfz7_0 := blk_frozen BK426.out 0; have hfz7_1 := blk_frozen BK426.out 1; have hfz7_2 := blk_frozen BK426.out 2; have hfz7_3 := blk_frozen BK426.out 3))
  (try simp only [Act.put, List.setIfInBounds_toArray, List.set_cons_zero, List.set_cons_succ])
  go_loopg [5, 19] k1 (fun kq v5 v19 w' => ∃ (x5_2 : List (S30)) (x19_2 : Int), v19 = .int .i64 x19_2 ∧ Aside0 (span_Both.l1 kq l1 x5_2 l0 (l0.length : Int) x13_1 l1 (l1.length : Int) x19_2 ((rd_T30 l0 x13_1).f0) ((rd_T30 l0 x13_1).f1) ((rd_T30 l0 x13_1).f2) ((rd_T30 l0 x13_1).f3) = some r) ∧ Aside0 (kq ≤ k1) ∧ Aside0 (Kd.R k30 30 w' w.heap.size (fun k_ => k_ ≠ gb426) v5 x5_2) ∧ Aside0 (w'.heap[gb426]? = some (.cells #[.string ((rd_T30 l0 x13_1).f0), .string ((rd_T30 l0 x13_1).f1), .bool ((rd_T30 l0 x13_1).f2), .bool ((rd_T30 l0 x13_1).f3)] 30 (0, 0))) ∧ Aside0 (Below w.heap.size w w'))
  case atStart => exact ⟨(x5_1), (0), cA, H', ⟨Nat.le_refl _⟩, ⟨by (with_reducible repeat (first | apply Kd.R_alloc | apply Kd.R_drewN | apply Kd.R_drew)); exact Kd.R_mono (Kd.R_far (p := ⟨gb426, 3, none⟩) (Kd.R_far (p := ⟨gb426, 2, none⟩) (Kd.R_far (p := ⟨gb426, 1, none⟩) (Kd.R_far (p := ⟨gb426, 0, none⟩) (Kd.R_mono HO_5.out (fun k_ hk => (⟨hk, hk.2⟩ : _ ∧ k_ ≠ gb426))) (fun _ hk => hk.2) (.string ((rd_T30 l0 x13_1).f0))) (fun _ hk => hk.2) (.string ((rd_T30 l0 x13_1).f1))) (fun _ hk => hk.2) (.bool ((rd_T30 l0 x13_1).f2))) (fun _ hk => hk.2) (.bool ((rd_T30 l0 x13_1).f3))) (fun _ hk => hk.1.2)⟩, ⟨bP BK426⟩, ⟨bG⟩⟩
  clear H'
  try clear c1
  try clear p2
  try clear c3
  try clear c3b0
  try clear c4
  try clear c4b0
  try clear p4
  try clear q4
  try clear hx4
  try clear c5
  try clear c5b0
  try clear c7
  try clear hcz7_0
  try clear hcz7_1
  try clear hcz7_2
  try clear hcz7_3
  try clear hfz7_0
  try clear hfz7_1
  try clear hfz7_2
  try clear hfz7_3
  try clear hx425_0
  try clear hx425_1
  try clear hx425_2
  try clear hx425_3
  try clear p2
  try clear p425
  try clear q425
  obtain ⟨x5_2, x19_2, rfl, HA, HK2, HO_5, BK426, HB⟩ := hrel
  cases gk with
  | zero => exact absurd HA.out (by simp [span_Both.l1])
  | succ k2 =>
   have H := HA.out
   clear HA
   simp only [span_Both.l1] at H
   by_cases c8 : x19_2 < (l1.length : Int)
   rotate_left
   ·rw [if_neg c8] at H
    have c8b0 := dF c8
    clear c8
    have H' := Aside0.mk H
    clear H
    go_wp2
    go_roundg k2
    case measure => have := HK1.out; have := HK2.out; omega
    case rel => exact ⟨(x5_2), (wrap64 (x13_1 + 1)), cA, H', ⟨by have := HK1.out; have := HK2.out; omega⟩, ⟨by (with_reducible repeat (first | apply Kd.R_alloc | apply Kd.R_drewN | apply Kd.R_drew)); exact Kd.R_mono HO_5.out (fun _ hk => trivial)⟩, ⟨bG⟩⟩
   rw [if_pos c8] at H
   have c8b0 := dT c8
   clear c8
   obtain ⟨c9, H⟩ := gp H
   have c9b0 := dT c9
   clear c9
   obtain ⟨c10, H⟩ := gp H
   have c10b0 := dT c10
   clear c10
   replace H := bi H
   obtain ⟨⟨t430, t431⟩, A110, H⟩ := H
   try dsimp only at H
   have A11 := Aside0.mk A110
   clear A110
   replace H := bi H
   obtain ⟨⟨t432, t433⟩, A120, H⟩ := H
   try dsimp only at H
   have A12 := Aside0.mk A120
   clear A120
   replace H := bi H
   obtain ⟨t434, A130, H⟩ := H
   try dsimp only at H
   have A13 := Aside0.mk A130
   clear A130
   by_cases c14 : t434 = true
   rotate_left
   ·replace c14 := Bool.eq_false_iff.mpr c14
    subst c14
    replace H : (span_Both.l1 k2 l1 x5_2 l0 (l0.length : Int) x13_1 l1 (l1.length : Int) (wrap64 (x19_2 + 1)) ((rd_T30 l0 x13_1).f0) ((rd_T30 l0 x13_1).f1) ((rd_T30 l0 x13_1).f2) ((rd_T30 l0 x13_1).f3)) = some r := by rw [if_neg nF] at H; exact H
    have H' := Aside0.mk H
    clear H
    have p427 : 0 ≤ (x19_2 : Int) := dA
    have q427 : x19_2 < (l1.length : Int) := dA
    obtain ⟨ad427, e427, hx427_0, hx427_1, hx427_2, hx427_3⟩ := at_T30 HR1.out x19_2 p427 q427
    cases e427
    replace hx427_0 := (HB.out.cell (World.block_lt_of_cell? w _ hx427_0)).trans hx427_0
    replace hx427_1 := (HB.out.cell (World.block_lt_of_cell? w _ hx427_1)).trans hx427_1
    replace hx427_2 := (HB.out.cell (World.block_lt_of_cell? w _ hx427_2)).trans hx427_2
    replace hx427_3 := (HB.out.cell (World.block_lt_of_cell? w _ hx427_3)).trans hx427_3
    replace p427 := eq_true p427
    replace q427 := eq_true q427
    go_wp2_with (first | (refine be 9 #[.string (⟨#[]⟩ : ByteArray), .string (⟨#[]⟩ : ByteArray), .bool false, .bool false] 30 ?_; intro gb428 hg w33 hbox hb; replace HO_5 := Aside0.mk (Kd.R_below (Kd.R_elderB (kR HO_5) gb428 (Nat.le_of_eq hg.symm)) hb); have BK428 := Aside0.mk (hbox); have GW428 := gW hg; have GE428 := gW hg; replace HB := sB hb; have NB426_428 := nL BK426 hg; have NB428_426 := nG BK426 hg; replace BK426 := kB BK426 hb; clear hb hbox hg; have hnb34 := NB428_426.out; have hnc34 := NB426_428.out; have hcz35_0 : w33.cell? ⟨gb428, 0, none⟩ = some (.string (⟨#[]⟩ : ByteArray)) := (blk_cell BK428.out 0).trans rfl; have hcz35_1 : w33.cell? ⟨gb428, 1, none⟩ = some (.string (⟨#[]⟩ : ByteArray)) := (blk_cell BK428.out 1).trans rfl; have hcz35_2 : w33.cell? ⟨gb428, 2, none⟩ = some (.bool false) := (blk_cell BK428.out 2).trans rfl; have hcz35_3 : w33.cell? ⟨gb428, 3, none⟩ = some (.bool false) := (blk_cell BK428.out 3).trans rfl; have hfz35_0 := blk_frozen BK428.out 0; have hfz35_1 := blk_frozen BK428.out 1; have hfz35_2 := blk_frozen BK428.out 2; have hfz35_3 := blk_frozen BK428.out 3) | (refine be 10 #[.string (⟨#[]⟩ : ByteArray), .string (⟨#[]⟩ : ByteArray), .bool false, .bool false] 30 ?_; intro gb429 hg w36 hbox hb; replace HO_5 := Aside0.mk (Kd.R_below (Kd.R_elderB (by (with_reducible repeat (first | apply Kd.R_alloc | apply Kd.R_drewN | apply Kd.R_drew)); exact (Kd.R_mono (Kd.R_far (p := ⟨gb428, 3, none⟩) (Kd.R_far (p := ⟨gb428, 2, none⟩) (Kd.R_far (p := ⟨gb428, 1, none⟩) (Kd.R_far (p := ⟨gb428, 0, none⟩) (Kd.R_mono HO_5.out (fun k_ hk => (⟨hk, hk.2⟩ : _ ∧ k_ ≠ gb428))) (fun _ hk => hk.2) (.string ((rd_T30 l1 x19_2).f0))) (fun _ hk => hk.2) (.string ((rd_T30 l1 x19_2).f1))) (fun _ hk => hk.2) (.bool ((rd_T30 l1 x19_2).f2))) (fun _ hk => hk.2) (.bool ((rd_T30 l1 x19_2).f3))) (fun _ h_ => h_.1))) gb429 (Nat.le_of_eq hg.symm)) hb); have BK429 := Aside0.mk (hbox); have GW429 := gW hg; have GE429 := gW hg; replace HB := sB hb; have NB426_429 := Aside0.mk ((by rw [hg]; exact Nat.ne_of_lt (blk_lt (g := gb426) (o := .cells #[.string ((rd_T30 l0 x13_1).f0), .string ((rd_T30 l0 x13_1).f1), .bool ((rd_T30 l0 x13_1).f2), .bool ((rd_T30 l0 x13_1).f3)] 30 (0, 0)) (by (with_reducible repeat (first | refine blk_drewN ?_ _ | refine blk_drew ?_ | refine blk_alloc ?_ _)); refine blk_far ?_ NB426_428.out _; (with_reducible repeat (first | refine blk_drewN ?_ _ | refine blk_drew ?_ | refine blk_alloc ?_ _)); refine blk_far ?_ NB426_428.out _; (with_reducible repeat (first | refine blk_drewN ?_ _ | refine blk_drew ?_ | refine blk_alloc ?_ _)); refine blk_far ?_ NB426_428.out _; (with_reducible repeat (first | refine blk_drewN ?_ _ | refine blk_drew ?_ | refine blk_alloc ?_ _)); refine blk_far ?_ NB426_428.out _; (with_reducible repeat (first | refine blk_drewN ?_ _ | refine blk_drew ?_ | refine blk_alloc ?_ _)); exact BK426.out)) : gb426 ≠ gb429)); have NB429_426 := Aside0.mk ((by rw [hg]; exact Nat.ne_of_gt (blk_lt (g := gb426) (o := .cells #[.string ((rd_T30 l0 x13_1).f0), .string ((rd_T30 l0 x13_1).f1), .bool ((rd_T30 l0 x13_1).f2), .bool ((rd_T30 l0 x13_1).f3)] 30 (0, 0)) (by (with_reducible repeat (first | refine blk_drewN ?_ _ | refine blk_drew ?_ | refine blk_alloc ?_ _)); refine blk_far ?_ NB426_428.out _; (with_reducible repeat (first | refine blk_drewN ?_ _ | refine blk_drew ?_ | refine blk_alloc ?_ _)); refine blk_far ?_ NB426_428.out _; (with_reducible repeat (first | refine blk_drewN ?_ _ | refine blk_drew ?_ | refine blk_alloc ?_ _)); refine blk_far ?_ NB426_428.out _; (with_reducible repeat (first | refine blk_drewN ?_ _ | refine blk_drew ?_ | refine blk_alloc ?_ _)); refine blk_far ?_ NB426_428.out _; (with_reducible repeat (first | refine blk_drewN ?_ _ | refine blk_drew ?_ | refine blk_alloc ?_ _)); exact BK426.out)) : gb429 ≠ gb426)); replace BK426 := Aside0.mk (blk_below (g := gb426) (o := .cells #[.string ((rd_T30 l0 x13_1).f0), .string ((rd_T30 l0 x13_1).f1), .bool ((rd_T30 l0 x13_1).f2), .bool ((rd_T30 l0 x13_1).f3)] 30 (0, 0)) (by (with_reducible repeat (first | refine blk_drewN ?_ _ | refine blk_drew ?_ | refine blk_alloc ?_ _)); refine blk_far ?_ NB426_428.out _; (with_reducible repeat (first | refine blk_drewN ?_ _ | refine blk_drew ?_ | refine blk_alloc ?_ _)); refine blk_far ?_ NB426_428.out _; (with_reducible repeat (first | refine blk_drewN ?_ _ | refine blk_drew ?_ | refine blk_alloc ?_ _)); refine blk_far ?_ NB426_428.out _; (with_reducible repeat (first | refine blk_drewN ?_ _ | refine blk_drew ?_ | refine blk_alloc ?_ _)); refine blk_far ?_ NB426_428.out _; (with_reducible repeat (first | refine blk_drewN ?_ _ | refine blk_drew ?_ | refine blk_alloc ?_ _)); exact BK426.out) hb); have NB428_429 := Aside0.mk ((by rw [hg]; exact Nat.ne_of_lt (blk_lt (g := gb428) (o := .cells #[.string ((rd_T30 l1 x19_2).f0), .string ((rd_T30 l1 x19_2).f1), .bool ((rd_T30 l1 x19_2).f2), .bool ((rd_T30 l1 x19_2).f3)] 30 (0, 0)) (bP BK428)) : gb428 ≠ gb429)); have NB429_428 := Aside0.mk ((by rw [hg]; exact Nat.ne_of_gt (blk_lt (g := gb428) (o := .cells #[.string ((rd_T30 l1 x19_2).f0), .string ((rd_T30 l1 x19_2).f1), .bool ((rd_T30 l1 x19_2).f2), .bool ((rd_T30 l1 x19_2).f3)] 30 (0, 0)) (bP BK428)) : gb429 ≠ gb428)); replace BK428 := Aside0.mk (blk_below (g := gb428) (o := .cells #[.string ((rd_T30 l1 x19_2).f0), .string ((rd_T30 l1 x19_2).f1), .bool ((rd_T30 l1 x19_2).f2), .bool ((rd_T30 l1 x19_2).f3)] 30 (0, 0)) (bP BK428) hb); clear hb hbox hg; have hnb37 := NB426_429.out; have hnc37 := NB429_426.out; have hcz38_0 : w36.cell? ⟨gb426, 0, none⟩ = some (.string ((rd_T30 l0 x13_1).f0)) := (blk_cell BK426.out 0).trans rfl; have hcz38_1 : w36.cell? ⟨gb426, 1, none⟩ = some (.string ((rd_T30 l0 x13_1).f1)) := (blk_cell BK426.out 1).trans rfl; have hcz38_2 : w36.cell? ⟨gb426, 2, none⟩ = some (.bool ((rd_T30 l0 x13_1).f2)) := (blk_cell BK426.out 2).trans rfl; have hcz38_3 : w36.cell? ⟨gb426, 3, none⟩ = some (.bool ((rd_T30 l0 x13_1).f3)) := (blk_cell BK426.out 3).trans rfl; have hfz38_0 := blk_frozen BK426.out 0; have hfz38_1 := blk_frozen BK426.out 1; have hfz38_2 := blk_frozen BK426.out 2; have hfz38_3 := blk_frozen BK426.out 3; have hnb39 := NB428_429.out; have hnc39 := NB429_428.out; have hcz40_0 : w36.cell? ⟨gb428, 0, none⟩ = some (.string ((rd_T30 l1 x19_2).f0)) := (blk_cell BK428.out 0).trans rfl; have hcz40_1 : w36.cell? ⟨gb428, 1, none⟩ = some (.string ((rd_T30 l1 x19_2).f1)) := (blk_cell BK428.out 1).trans rfl; have hcz40_2 : w36.cell? ⟨gb428, 2, none⟩ = some (.bool ((rd_T30 l1 x19_2).f2)) := (blk_cell BK428.out 2).trans rfl; have hcz40_3 : w36.cell? ⟨gb428, 3, none⟩ = some (.bool ((rd_T30 l1 x19_2).f3)) := (blk_cell BK428.out 3).trans rfl; have hfz40_0 := blk_frozen BK428.out 0; have hfz40_1 := blk_frozen BK428.out 1; have hfz40_2 := blk_frozen BK428.out 2; have hfz40_3 := blk_frozen BK428.out 3) | (refine gl (some 32) Tryz.func16 #[.string ((rd_T30 l0 x13_1).f0), .bool ((rd_T30 l0 x13_1).f2), .string ((rd_T30 l1 x19_2).f0), .bool ((rd_T30 l1 x19_2).f2), .int .i64 1] ?_; (with_reducible refine (span_closer.calls k2 ((rd_T30 l0 x13_1).f0) ((rd_T30 l0 x13_1).f2) ((rd_T30 l1 x19_2).f0) ((rd_T30 l1 x19_2).f2) 1 t430 t431 _ (gS HG) A11.out).mono ?_); rintro e w41 ⟨rfl, hb⟩; refine ⟨_, rfl, ?_⟩; replace HO_5 := rB HO_5 hb; replace BK426 := kB BK426 hb; replace BK428 := kB BK428 hb; replace BK429 := kB BK429 hb; replace HB := sB hb; (try clear hb); have hcz42_0 : w41.cell? ⟨gb429, 0, none⟩ = some (.string (⟨#[]⟩ : ByteArray)) := (blk_cell BK429.out 0).trans rfl; have hcz42_1 : w41.cell? ⟨gb429, 1, none⟩ = some (.string (⟨#[]⟩ : ByteArray)) := (blk_cell BK429.out 1).trans rfl; have hcz42_2 : w41.cell? ⟨gb429, 2, none⟩ = some (.bool false) := (blk_cell BK429.out 2).trans rfl; have hcz42_3 : w41.cell? ⟨gb429, 3, none⟩ = some (.bool false) := (blk_cell BK429.out 3).trans rfl; have hfz42_0 := blk_frozen BK429.out 0; have hfz42_1 := blk_frozen BK429.out 1; have hfz42_2 := blk_frozen BK429.out 2; have hfz42_3 := blk_frozen BK429.out 3; have hcz43_0 : w41.cell? ⟨gb426, 0, none⟩ = some (.string ((rd_T30 l0 x13_1).f0)) := (blk_cell BK426.out 0).trans rfl; have hcz43_1 : w41.cell? ⟨gb426, 1, none⟩ = some (.string ((rd_T30 l0 x13_1).f1)) := (blk_cell BK426.out 1).trans rfl; have hcz43_2 : w41.cell? ⟨gb426, 2, none⟩ = some (.bool ((rd_T30 l0 x13_1).f2)) := (blk_cell BK426.out 2).trans rfl; have hcz43_3 : w41.cell? ⟨gb426, 3, none⟩ = some (.bool ((rd_T30 l0 x13_1).f3)) := (blk_cell BK426.out 3).trans rfl; have hfz43_0 := blk_frozen BK426.out 0; have hfz43_1 := blk_frozen BK426.out 1; have hfz43_2 := blk_frozen BK426.out 2; have hfz43_3 := blk_frozen BK426.out 3; have hcz44_0 : w41.cell? ⟨gb428, 0, none⟩ = some (.string ((rd_T30 l1 x19_2).f0)) := (blk_cell BK428.out 0).trans rfl; have hcz44_1 : w41.cell? ⟨gb428, 1, none⟩ = some (.string ((rd_T30 l1 x19_2).f1)) := (blk_cell BK428.out 1).trans rfl; have hcz44_2 : w41.cell? ⟨gb428, 2, none⟩ = some (.bool ((rd_T30 l1 x19_2).f2)) := (blk_cell BK428.out 2).trans rfl; have hcz44_3 : w41.cell? ⟨gb428, 3, none⟩ = some (.bool ((rd_T30 l1 x19_2).f3)) := (blk_cell BK428.out 3).trans rfl; have hfz44_0 := blk_frozen BK428.out 0; have hfz44_1 := blk_frozen BK428.out 1; have hfz44_2 := blk_frozen BK428.out 2; have hfz44_3 := blk_frozen BK428.out 3) | (refine gl (some 46) Tryz.func16 #[.string ((rd_T30 l0 x13_1).f1), .bool ((rd_T30 l0 x13_1).f3), .string ((rd_T30 l1 x19_2).f1), .bool ((rd_T30 l1 x19_2).f3), .int .i64 (-1)] ?_; (with_reducible refine (span_closer.calls k2 ((rd_T30 l0 x13_1).f1) ((rd_T30 l0 x13_1).f3) ((rd_T30 l1 x19_2).f1) ((rd_T30 l1 x19_2).f3) (-1) t432 t433 _ (gS HG) A12.out).mono ?_); rintro e w45 ⟨rfl, hb⟩; refine ⟨_, rfl, ?_⟩; replace HO_5 := Aside0.mk (Kd.R_below (by (with_reducible repeat (first | apply Kd.R_alloc | apply Kd.R_drewN | apply Kd.R_drew)); exact (Kd.R_mono (Kd.R_far (p := ⟨gb429, 2, none⟩) (Kd.R_far (p := ⟨gb429, 0, none⟩) (Kd.R_mono HO_5.out (fun k_ hk => (⟨hk, hk.2⟩ : _ ∧ k_ ≠ gb429))) (fun _ hk => hk.2) (.string t430)) (fun _ hk => hk.2) (.bool t431)) (fun _ h_ => h_.1))) hb); replace BK426 := Aside0.mk (blk_below (g := gb426) (o := .cells #[.string ((rd_T30 l0 x13_1).f0), .string ((rd_T30 l0 x13_1).f1), .bool ((rd_T30 l0 x13_1).f2), .bool ((rd_T30 l0 x13_1).f3)] 30 (0, 0)) (by (with_reducible repeat (first | refine blk_drewN ?_ _ | refine blk_drew ?_ | refine blk_alloc ?_ _)); refine blk_far ?_ NB426_429.out _; (with_reducible repeat (first | refine blk_drewN ?_ _ | refine blk_drew ?_ | refine blk_alloc ?_ _)); refine blk_far ?_ NB426_429.out _; (with_reducible repeat (first | refine blk_drewN ?_ _ | refine blk_drew ?_ | refine blk_alloc ?_ _)); exact BK426.out) hb); replace BK428 := Aside0.mk (blk_below (g := gb428) (o := .cells #[.string ((rd_T30 l1 x19_2).f0), .string ((rd_T30 l1 x19_2).f1), .bool ((rd_T30 l1 x19_2).f2), .bool ((rd_T30 l1 x19_2).f3)] 30 (0, 0)) (by (with_reducible repeat (first | refine blk_drewN ?_ _ | refine blk_drew ?_ | refine blk_alloc ?_ _)); refine blk_far ?_ NB428_429.out _; (with_reducible repeat (first | refine blk_drewN ?_ _ | refine blk_drew ?_ | refine blk_alloc ?_ _)); refine blk_far ?_ NB428_429.out _; (with_reducible repeat (first | refine blk_drewN ?_ _ | refine blk_drew ?_ | refine blk_alloc ?_ _)); exact BK428.out) hb); replace BK429 := Aside0.mk (blk_below (g := gb429) (o := .cells #[.string t430, .string (⟨#[]⟩ : ByteArray), .bool t431, .bool false] 30 (0, 0)) (bP BK429) hb); replace HB := sB hb; (try clear hb); have hcz46_0 : w45.cell? ⟨gb429, 0, none⟩ = some (.string t430) := (blk_cell BK429.out 0).trans rfl; have hcz46_1 : w45.cell? ⟨gb429, 1, none⟩ = some (.string (⟨#[]⟩ : ByteArray)) := (blk_cell BK429.out 1).trans rfl; have hcz46_2 : w45.cell? ⟨gb429, 2, none⟩ = some (.bool t431) := (blk_cell BK429.out 2).trans rfl; have hcz46_3 : w45.cell? ⟨gb429, 3, none⟩ = some (.bool false) := (blk_cell BK429.out 3).trans rfl; have hfz46_0 := blk_frozen BK429.out 0; have hfz46_1 := blk_frozen BK429.out 1; have hfz46_2 := blk_frozen BK429.out 2; have hfz46_3 := blk_frozen BK429.out 3) | (refine gl (some 52) Tryz.func17 #[.agg #[.string t430, .string t432, .bool t431, .bool t433]] ?_; (with_reducible refine (span_may.calls k2 t430 t432 t431 t433 false _ (gS HG) A13.out).mono ?_); rintro e w47 ⟨rfl, hb⟩; refine ⟨_, rfl, ?_⟩; replace HO_5 := Aside0.mk (Kd.R_below (by (with_reducible repeat (first | apply Kd.R_alloc | apply Kd.R_drewN | apply Kd.R_drew)); exact (Kd.R_mono (Kd.R_far (p := ⟨gb429, 3, none⟩) (Kd.R_far (p := ⟨gb429, 1, none⟩) (Kd.R_mono HO_5.out (fun k_ hk => (⟨hk, hk.2⟩ : _ ∧ k_ ≠ gb429))) (fun _ hk => hk.2) (.string t432)) (fun _ hk => hk.2) (.bool t433)) (fun _ h_ => h_.1))) hb); replace BK426 := Aside0.mk (blk_below (g := gb426) (o := .cells #[.string ((rd_T30 l0 x13_1).f0), .string ((rd_T30 l0 x13_1).f1), .bool ((rd_T30 l0 x13_1).f2), .bool ((rd_T30 l0 x13_1).f3)] 30 (0, 0)) (by (with_reducible repeat (first | refine blk_drewN ?_ _ | refine blk_drew ?_ | refine blk_alloc ?_ _)); refine blk_far ?_ NB426_429.out _; (with_reducible repeat (first | refine blk_drewN ?_ _ | refine blk_drew ?_ | refine blk_alloc ?_ _)); refine blk_far ?_ NB426_429.out _; (with_reducible repeat (first | refine blk_drewN ?_ _ | refine blk_drew ?_ | refine blk_alloc ?_ _)); exact BK426.out) hb); replace BK428 := Aside0.mk (blk_below (g := gb428) (o := .cells #[.string ((rd_T30 l1 x19_2).f0), .string ((rd_T30 l1 x19_2).f1), .bool ((rd_T30 l1 x19_2).f2), .bool ((rd_T30 l1 x19_2).f3)] 30 (0, 0)) (by (with_reducible repeat (first | refine blk_drewN ?_ _ | refine blk_drew ?_ | refine blk_alloc ?_ _)); refine blk_far ?_ NB428_429.out _; (with_reducible repeat (first | refine blk_drewN ?_ _ | refine blk_drew ?_ | refine blk_alloc ?_ _)); refine blk_far ?_ NB428_429.out _; (with_reducible repeat (first | refine blk_drewN ?_ _ | refine blk_drew ?_ | refine blk_alloc ?_ _)); exact BK428.out) hb); replace BK429 := Aside0.mk (blk_below (g := gb429) (o := .cells #[.string t430, .string t432, .bool t431, .bool t433] 30 (0, 0)) (bP BK429) hb); replace HB := sB hb; (try clear hb)))
    go_roundg k2
    case measure => have := HK1.out; have := HK2.out; omega
    case rel => exact ⟨(x5_2), (wrap64 (x19_2 + 1)), cA, H', ⟨by have := HK1.out; have := HK2.out; omega⟩, ⟨by (with_reducible repeat (first | apply Kd.R_alloc | apply Kd.R_drewN | apply Kd.R_drew)); exact Kd.R_mono HO_5.out (fun _ hk => hk.1.1)⟩, ⟨bK BK426⟩, ⟨bG⟩⟩
   subst c14
   replace H : (if x5_2.length < 3518437208883 then (span_Both.l1 k2 l1 (x5_2 ++ [(⟨t430, t432, t431, t433⟩ : S30)]) l0 (l0.length : Int) x13_1 l1 (l1.length : Int) (wrap64 (x19_2 + 1)) ((rd_T30 l0 x13_1).f0) ((rd_T30 l0 x13_1).f1) ((rd_T30 l0 x13_1).f2) ((rd_T30 l0 x13_1).f3)) else (none)) = some r := by rw [if_pos rfl] at H; exact H
   obtain ⟨c15, H⟩ := gp H
   have LMc15 := Aside0.mk c15
   clear c15
   obtain ⟨y435, hy435⟩ : ∃ y_ : List (S30), y_ = (x5_2 ++ [(⟨t430, t432, t431, t433⟩ : S30)]) := ⟨_, rfl⟩
   replace H : (span_Both.l1 k2 l1 y435 l0 (l0.length : Int) x13_1 l1 (l1.length : Int) (wrap64 (x19_2 + 1)) ((rd_T30 l0 x13_1).f0) ((rd_T30 l0 x13_1).f1) ((rd_T30 l0 x13_1).f2) ((rd_T30 l0 x13_1).f3)) = some r := by first | (rw [hy435]; with_reducible exact H) | (have H2_ := (Option.bind_some _ _).symm.trans H; rw [hy435]; with_reducible exact H2_) | (have H2_ := (Option.bind_some _ _).symm.trans H; with_reducible exact H2_) | with_reducible exact H | (rw [hy435]; exact H) | exact H
   have Ny435 := Aside0.mk hy435
   clear hy435
   have H' := Aside0.mk H
   clear H
   have p427 : 0 ≤ (x19_2 : Int) := dA
   have q427 : x19_2 < (l1.length : Int) := dA
   obtain ⟨ad427, e427, hx427_0, hx427_1, hx427_2, hx427_3⟩ := at_T30 HR1.out x19_2 p427 q427
   cases e427
   replace hx427_0 := (HB.out.cell (World.block_lt_of_cell? w _ hx427_0)).trans hx427_0
   replace hx427_1 := (HB.out.cell (World.block_lt_of_cell? w _ hx427_1)).trans hx427_1
   replace hx427_2 := (HB.out.cell (World.block_lt_of_cell? w _ hx427_2)).trans hx427_2
   replace hx427_3 := (HB.out.cell (World.block_lt_of_cell? w _ hx427_3)).trans hx427_3
   replace p427 := eq_true p427
   replace q427 := eq_true q427
   go_wp2_with (first | (refine be 9 #[.string (⟨#[]⟩ : ByteArray), .string (⟨#[]⟩ : ByteArray), .bool false, .bool false] 30 ?_; intro gb428 hg w16 hbox hb; replace HO_5 := Aside0.mk (Kd.R_below (Kd.R_elderB (kR HO_5) gb428 (Nat.le_of_eq hg.symm)) hb); have BK428 := Aside0.mk (hbox); have GW428 := gW hg; have GE428 := gW hg; replace HB := sB hb; have NB426_428 := nL BK426 hg; have NB428_426 := nG BK426 hg; replace BK426 := kB BK426 hb; clear hb hbox hg; have hnb17 := NB428_426.out; have hnc17 := NB426_428.out; have hcz18_0 : w16.cell? ⟨gb428, 0, none⟩ = some (.string (⟨#[]⟩ : ByteArray)) := (blk_cell BK428.out 0).trans rfl; have hcz18_1 : w16.cell? ⟨gb428, 1, none⟩ = some (.string (⟨#[]⟩ : ByteArray)) := (blk_cell BK428.out 1).trans rfl; have hcz18_2 : w16.cell? ⟨gb428, 2, none⟩ = some (.bool false) := (blk_cell BK428.out 2).trans rfl; have hcz18_3 : w16.cell? ⟨gb428, 3, none⟩ = some (.bool false) := (blk_cell BK428.out 3).trans rfl; have hfz18_0 := blk_frozen BK428.out 0; have hfz18_1 := blk_frozen BK428.out 1; have hfz18_2 := blk_frozen BK428.out 2; have hfz18_3 := blk_frozen BK428.out 3) | (refine be 10 #[.string (⟨#[]⟩ : ByteArray), .string (⟨#[]⟩ : ByteArray), .bool false, .bool false] 30 ?_; intro gb429 hg w19 hbox hb; replace HO_5 := Aside0.mk (Kd.R_below (Kd.R_elderB (by (with_reducible repeat (first | apply Kd.R_alloc | apply Kd.R_drewN | apply Kd.R_drew)); exact (Kd.R_mono (Kd.R_far (p := ⟨gb428, 3, none⟩) (Kd.R_far (p := ⟨gb428, 2, none⟩) (Kd.R_far (p := ⟨gb428, 1, none⟩) (Kd.R_far (p := ⟨gb428, 0, none⟩) (Kd.R_mono HO_5.out (fun k_ hk => (⟨hk, hk.2⟩ : _ ∧ k_ ≠ gb428))) (fun _ hk => hk.2) (.string ((rd_T30 l1 x19_2).f0))) (fun _ hk => hk.2) (.string ((rd_T30 l1 x19_2).f1))) (fun _ hk => hk.2) (.bool ((rd_T30 l1 x19_2).f2))) (fun _ hk => hk.2) (.bool ((rd_T30 l1 x19_2).f3))) (fun _ h_ => h_.1))) gb429 (Nat.le_of_eq hg.symm)) hb); have BK429 := Aside0.mk (hbox); have GW429 := gW hg; have GE429 := gW hg; replace HB := sB hb; have NB426_429 := Aside0.mk ((by rw [hg]; exact Nat.ne_of_lt (blk_lt (g := gb426) (o := .cells #[.string ((rd_T30 l0 x13_1).f0), .string ((rd_T30 l0 x13_1).f1), .bool ((rd_T30 l0 x13_1).f2), .bool ((rd_T30 l0 x13_1).f3)] 30 (0, 0)) (by (with_reducible repeat (first | refine blk_drewN ?_ _ | refine blk_drew ?_ | refine blk_alloc ?_ _)); refine blk_far ?_ NB426_428.out _; (with_reducible repeat (first | refine blk_drewN ?_ _ | refine blk_drew ?_ | refine blk_alloc ?_ _)); refine blk_far ?_ NB426_428.out _; (with_reducible repeat (first | refine blk_drewN ?_ _ | refine blk_drew ?_ | refine blk_alloc ?_ _)); refine blk_far ?_ NB426_428.out _; (with_reducible repeat (first | refine blk_drewN ?_ _ | refine blk_drew ?_ | refine blk_alloc ?_ _)); refine blk_far ?_ NB426_428.out _; (with_reducible repeat (first | refine blk_drewN ?_ _ | refine blk_drew ?_ | refine blk_alloc ?_ _)); exact BK426.out)) : gb426 ≠ gb429)); have NB429_426 := Aside0.mk ((by rw [hg]; exact Nat.ne_of_gt (blk_lt (g := gb426) (o := .cells #[.string ((rd_T30 l0 x13_1).f0), .string ((rd_T30 l0 x13_1).f1), .bool ((rd_T30 l0 x13_1).f2), .bool ((rd_T30 l0 x13_1).f3)] 30 (0, 0)) (by (with_reducible repeat (first | refine blk_drewN ?_ _ | refine blk_drew ?_ | refine blk_alloc ?_ _)); refine blk_far ?_ NB426_428.out _; (with_reducible repeat (first | refine blk_drewN ?_ _ | refine blk_drew ?_ | refine blk_alloc ?_ _)); refine blk_far ?_ NB426_428.out _; (with_reducible repeat (first | refine blk_drewN ?_ _ | refine blk_drew ?_ | refine blk_alloc ?_ _)); refine blk_far ?_ NB426_428.out _; (with_reducible repeat (first | refine blk_drewN ?_ _ | refine blk_drew ?_ | refine blk_alloc ?_ _)); refine blk_far ?_ NB426_428.out _; (with_reducible repeat (first | refine blk_drewN ?_ _ | refine blk_drew ?_ | refine blk_alloc ?_ _)); exact BK426.out)) : gb429 ≠ gb426)); replace BK426 := Aside0.mk (blk_below (g := gb426) (o := .cells #[.string ((rd_T30 l0 x13_1).f0), .string ((rd_T30 l0 x13_1).f1), .bool ((rd_T30 l0 x13_1).f2), .bool ((rd_T30 l0 x13_1).f3)] 30 (0, 0)) (by (with_reducible repeat (first | refine blk_drewN ?_ _ | refine blk_drew ?_ | refine blk_alloc ?_ _)); refine blk_far ?_ NB426_428.out _; (with_reducible repeat (first | refine blk_drewN ?_ _ | refine blk_drew ?_ | refine blk_alloc ?_ _)); refine blk_far ?_ NB426_428.out _; (with_reducible repeat (first | refine blk_drewN ?_ _ | refine blk_drew ?_ | refine blk_alloc ?_ _)); refine blk_far ?_ NB426_428.out _; (with_reducible repeat (first | refine blk_drewN ?_ _ | refine blk_drew ?_ | refine blk_alloc ?_ _)); refine blk_far ?_ NB426_428.out _; (with_reducible repeat (first | refine blk_drewN ?_ _ | refine blk_drew ?_ | refine blk_alloc ?_ _)); exact BK426.out) hb); have NB428_429 := Aside0.mk ((by rw [hg]; exact Nat.ne_of_lt (blk_lt (g := gb428) (o := .cells #[.string ((rd_T30 l1 x19_2).f0), .string ((rd_T30 l1 x19_2).f1), .bool ((rd_T30 l1 x19_2).f2), .bool ((rd_T30 l1 x19_2).f3)] 30 (0, 0)) (bP BK428)) : gb428 ≠ gb429)); have NB429_428 := Aside0.mk ((by rw [hg]; exact Nat.ne_of_gt (blk_lt (g := gb428) (o := .cells #[.string ((rd_T30 l1 x19_2).f0), .string ((rd_T30 l1 x19_2).f1), .bool ((rd_T30 l1 x19_2).f2), .bool ((rd_T30 l1 x19_2).f3)] 30 (0, 0)) (bP BK428)) : gb429 ≠ gb428)); replace BK428 := Aside0.mk (blk_below (g := gb428) (o := .cells #[.string ((rd_T30 l1 x19_2).f0), .string ((rd_T30 l1 x19_2).f1), .bool ((rd_T30 l1 x19_2).f2), .bool ((rd_T30 l1 x19_2).f3)] 30 (0, 0)) (bP BK428) hb); clear hb hbox hg; have hnb20 := NB426_429.out; have hnc20 := NB429_426.out; have hcz21_0 : w19.cell? ⟨gb426, 0, none⟩ = some (.string ((rd_T30 l0 x13_1).f0)) := (blk_cell BK426.out 0).trans rfl; have hcz21_1 : w19.cell? ⟨gb426, 1, none⟩ = some (.string ((rd_T30 l0 x13_1).f1)) := (blk_cell BK426.out 1).trans rfl; have hcz21_2 : w19.cell? ⟨gb426, 2, none⟩ = some (.bool ((rd_T30 l0 x13_1).f2)) := (blk_cell BK426.out 2).trans rfl; have hcz21_3 : w19.cell? ⟨gb426, 3, none⟩ = some (.bool ((rd_T30 l0 x13_1).f3)) := (blk_cell BK426.out 3).trans rfl; have hfz21_0 := blk_frozen BK426.out 0; have hfz21_1 := blk_frozen BK426.out 1; have hfz21_2 := blk_frozen BK426.out 2; have hfz21_3 := blk_frozen BK426.out 3; have hnb22 := NB428_429.out; have hnc22 := NB429_428.out; have hcz23_0 : w19.cell? ⟨gb428, 0, none⟩ = some (.string ((rd_T30 l1 x19_2).f0)) := (blk_cell BK428.out 0).trans rfl; have hcz23_1 : w19.cell? ⟨gb428, 1, none⟩ = some (.string ((rd_T30 l1 x19_2).f1)) := (blk_cell BK428.out 1).trans rfl; have hcz23_2 : w19.cell? ⟨gb428, 2, none⟩ = some (.bool ((rd_T30 l1 x19_2).f2)) := (blk_cell BK428.out 2).trans rfl; have hcz23_3 : w19.cell? ⟨gb428, 3, none⟩ = some (.bool ((rd_T30 l1 x19_2).f3)) := (blk_cell BK428.out 3).trans rfl; have hfz23_0 := blk_frozen BK428.out 0; have hfz23_1 := blk_frozen BK428.out 1; have hfz23_2 := blk_frozen BK428.out 2; have hfz23_3 := blk_frozen BK428.out 3) | (refine gl (some 32) Tryz.func16 #[.string ((rd_T30 l0 x13_1).f0), .bool ((rd_T30 l0 x13_1).f2), .string ((rd_T30 l1 x19_2).f0), .bool ((rd_T30 l1 x19_2).f2), .int .i64 1] ?_; (with_reducible refine (span_closer.calls k2 ((rd_T30 l0 x13_1).f0) ((rd_T30 l0 x13_1).f2) ((rd_T30 l1 x19_2).f0) ((rd_T30 l1 x19_2).f2) 1 t430 t431 _ (gS HG) A11.out).mono ?_); rintro e w24 ⟨rfl, hb⟩; refine ⟨_, rfl, ?_⟩; replace HO_5 := rB HO_5 hb; replace BK426 := kB BK426 hb; replace BK428 := kB BK428 hb; replace BK429 := kB BK429 hb; replace HB := sB hb; (try clear hb); have hcz25_0 : w24.cell? ⟨gb429, 0, none⟩ = some (.string (⟨#[]⟩ : ByteArray)) := (blk_cell BK429.out 0).trans rfl; have hcz25_1 : w24.cell? ⟨gb429, 1, none⟩ = some (.string (⟨#[]⟩ : ByteArray)) := (blk_cell BK429.out 1).trans rfl; have hcz25_2 : w24.cell? ⟨gb429, 2, none⟩ = some (.bool false) := (blk_cell BK429.out 2).trans rfl; have hcz25_3 : w24.cell? ⟨gb429, 3, none⟩ = some (.bool false) := (blk_cell BK429.out 3).trans rfl; have hfz25_0 := blk_frozen BK429.out 0; have hfz25_1 := blk_frozen BK429.out 1; have hfz25_2 := blk_frozen BK429.out 2; have hfz25_3 := blk_frozen BK429.out 3; have hcz26_0 : w24.cell? ⟨gb426, 0, none⟩ = some (.string ((rd_T30 l0 x13_1).f0)) := (blk_cell BK426.out 0).trans rfl; have hcz26_1 : w24.cell? ⟨gb426, 1, none⟩ = some (.string ((rd_T30 l0 x13_1).f1)) := (blk_cell BK426.out 1).trans rfl; have hcz26_2 : w24.cell? ⟨gb426, 2, none⟩ = some (.bool ((rd_T30 l0 x13_1).f2)) := (blk_cell BK426.out 2).trans rfl; have hcz26_3 : w24.cell? ⟨gb426, 3, none⟩ = some (.bool ((rd_T30 l0 x13_1).f3)) := (blk_cell BK426.out 3).trans rfl; have hfz26_0 := blk_frozen BK426.out 0; have hfz26_1 := blk_frozen BK426.out 1; have hfz26_2 := blk_frozen BK426.out 2; have hfz26_3 := blk_frozen BK426.out 3; have hcz27_0 : w24.cell? ⟨gb428, 0, none⟩ = some (.string ((rd_T30 l1 x19_2).f0)) := (blk_cell BK428.out 0).trans rfl; have hcz27_1 : w24.cell? ⟨gb428, 1, none⟩ = some (.string ((rd_T30 l1 x19_2).f1)) := (blk_cell BK428.out 1).trans rfl; have hcz27_2 : w24.cell? ⟨gb428, 2, none⟩ = some (.bool ((rd_T30 l1 x19_2).f2)) := (blk_cell BK428.out 2).trans rfl; have hcz27_3 : w24.cell? ⟨gb428, 3, none⟩ = some (.bool ((rd_T30 l1 x19_2).f3)) := (blk_cell BK428.out 3).trans rfl; have hfz27_0 := blk_frozen BK428.out 0; have hfz27_1 := blk_frozen BK428.out 1; have hfz27_2 := blk_frozen BK428.out 2; have hfz27_3 := blk_frozen BK428.out 3) | (refine gl (some 46) Tryz.func16 #[.string ((rd_T30 l0 x13_1).f1), .bool ((rd_T30 l0 x13_1).f3), .string ((rd_T30 l1 x19_2).f1), .bool ((rd_T30 l1 x19_2).f3), .int .i64 (-1)] ?_; (with_reducible refine (span_closer.calls k2 ((rd_T30 l0 x13_1).f1) ((rd_T30 l0 x13_1).f3) ((rd_T30 l1 x19_2).f1) ((rd_T30 l1 x19_2).f3) (-1) t432 t433 _ (gS HG) A12.out).mono ?_); rintro e w28 ⟨rfl, hb⟩; refine ⟨_, rfl, ?_⟩; replace HO_5 := Aside0.mk (Kd.R_below (by (with_reducible repeat (first | apply Kd.R_alloc | apply Kd.R_drewN | apply Kd.R_drew)); exact (Kd.R_mono (Kd.R_far (p := ⟨gb429, 2, none⟩) (Kd.R_far (p := ⟨gb429, 0, none⟩) (Kd.R_mono HO_5.out (fun k_ hk => (⟨hk, hk.2⟩ : _ ∧ k_ ≠ gb429))) (fun _ hk => hk.2) (.string t430)) (fun _ hk => hk.2) (.bool t431)) (fun _ h_ => h_.1))) hb); replace BK426 := Aside0.mk (blk_below (g := gb426) (o := .cells #[.string ((rd_T30 l0 x13_1).f0), .string ((rd_T30 l0 x13_1).f1), .bool ((rd_T30 l0 x13_1).f2), .bool ((rd_T30 l0 x13_1).f3)] 30 (0, 0)) (by (with_reducible repeat (first | refine blk_drewN ?_ _ | refine blk_drew ?_ | refine blk_alloc ?_ _)); refine blk_far ?_ NB426_429.out _; (with_reducible repeat (first | refine blk_drewN ?_ _ | refine blk_drew ?_ | refine blk_alloc ?_ _)); refine blk_far ?_ NB426_429.out _; (with_reducible repeat (first | refine blk_drewN ?_ _ | refine blk_drew ?_ | refine blk_alloc ?_ _)); exact BK426.out) hb); replace BK428 := Aside0.mk (blk_below (g := gb428) (o := .cells #[.string ((rd_T30 l1 x19_2).f0), .string ((rd_T30 l1 x19_2).f1), .bool ((rd_T30 l1 x19_2).f2), .bool ((rd_T30 l1 x19_2).f3)] 30 (0, 0)) (by (with_reducible repeat (first | refine blk_drewN ?_ _ | refine blk_drew ?_ | refine blk_alloc ?_ _)); refine blk_far ?_ NB428_429.out _; (with_reducible repeat (first | refine blk_drewN ?_ _ | refine blk_drew ?_ | refine blk_alloc ?_ _)); refine blk_far ?_ NB428_429.out _; (with_reducible repeat (first | refine blk_drewN ?_ _ | refine blk_drew ?_ | refine blk_alloc ?_ _)); exact BK428.out) hb); replace BK429 := Aside0.mk (blk_below (g := gb429) (o := .cells #[.string t430, .string (⟨#[]⟩ : ByteArray), .bool t431, .bool false] 30 (0, 0)) (bP BK429) hb); replace HB := sB hb; (try clear hb); have hcz29_0 : w28.cell? ⟨gb429, 0, none⟩ = some (.string t430) := (blk_cell BK429.out 0).trans rfl; have hcz29_1 : w28.cell? ⟨gb429, 1, none⟩ = some (.string (⟨#[]⟩ : ByteArray)) := (blk_cell BK429.out 1).trans rfl; have hcz29_2 : w28.cell? ⟨gb429, 2, none⟩ = some (.bool t431) := (blk_cell BK429.out 2).trans rfl; have hcz29_3 : w28.cell? ⟨gb429, 3, none⟩ = some (.bool false) := (blk_cell BK429.out 3).trans rfl; have hfz29_0 := blk_frozen BK429.out 0; have hfz29_1 := blk_frozen BK429.out 1; have hfz29_2 := blk_frozen BK429.out 2; have hfz29_3 := blk_frozen BK429.out 3) | (refine gl (some 52) Tryz.func17 #[.agg #[.string t430, .string t432, .bool t431, .bool t433]] ?_; (with_reducible refine (span_may.calls k2 t430 t432 t431 t433 true _ (gS HG) A13.out).mono ?_); rintro e w30 ⟨rfl, hb⟩; refine ⟨_, rfl, ?_⟩; replace HO_5 := Aside0.mk (Kd.R_below (by (with_reducible repeat (first | apply Kd.R_alloc | apply Kd.R_drewN | apply Kd.R_drew)); exact (Kd.R_mono (Kd.R_far (p := ⟨gb429, 3, none⟩) (Kd.R_far (p := ⟨gb429, 1, none⟩) (Kd.R_mono HO_5.out (fun k_ hk => (⟨hk, hk.2⟩ : _ ∧ k_ ≠ gb429))) (fun _ hk => hk.2) (.string t432)) (fun _ hk => hk.2) (.bool t433)) (fun _ h_ => h_.1))) hb); replace BK426 := Aside0.mk (blk_below (g := gb426) (o := .cells #[.string ((rd_T30 l0 x13_1).f0), .string ((rd_T30 l0 x13_1).f1), .bool ((rd_T30 l0 x13_1).f2), .bool ((rd_T30 l0 x13_1).f3)] 30 (0, 0)) (by (with_reducible repeat (first | refine blk_drewN ?_ _ | refine blk_drew ?_ | refine blk_alloc ?_ _)); refine blk_far ?_ NB426_429.out _; (with_reducible repeat (first | refine blk_drewN ?_ _ | refine blk_drew ?_ | refine blk_alloc ?_ _)); refine blk_far ?_ NB426_429.out _; (with_reducible repeat (first | refine blk_drewN ?_ _ | refine blk_drew ?_ | refine blk_alloc ?_ _)); exact BK426.out) hb); replace BK428 := Aside0.mk (blk_below (g := gb428) (o := .cells #[.string ((rd_T30 l1 x19_2).f0), .string ((rd_T30 l1 x19_2).f1), .bool ((rd_T30 l1 x19_2).f2), .bool ((rd_T30 l1 x19_2).f3)] 30 (0, 0)) (by (with_reducible repeat (first | refine blk_drewN ?_ _ | refine blk_drew ?_ | refine blk_alloc ?_ _)); refine blk_far ?_ NB428_429.out _; (with_reducible repeat (first | refine blk_drewN ?_ _ | refine blk_drew ?_ | refine blk_alloc ?_ _)); refine blk_far ?_ NB428_429.out _; (with_reducible repeat (first | refine blk_drewN ?_ _ | refine blk_drew ?_ | refine blk_alloc ?_ _)); exact BK428.out) hb); replace BK429 := Aside0.mk (blk_below (g := gb429) (o := .cells #[.string t430, .string t432, .bool t431, .bool t433] 30 (0, 0)) (bP BK429) hb); replace HB := sB hb; (try clear hb); have hcz31_0 : w30.cell? ⟨gb429, 0, none⟩ = some (.string t430) := (blk_cell BK429.out 0).trans rfl; have hcz31_1 : w30.cell? ⟨gb429, 1, none⟩ = some (.string t432) := (blk_cell BK429.out 1).trans rfl; have hcz31_2 : w30.cell? ⟨gb429, 2, none⟩ = some (.bool t431) := (blk_cell BK429.out 2).trans rfl; have hcz31_3 : w30.cell? ⟨gb429, 3, none⟩ = some (.bool t433) := (blk_cell BK429.out 3).trans rfl; have hfz31_0 := blk_frozen BK429.out 0; have hfz31_1 := blk_frozen BK429.out 1; have hfz31_2 := blk_frozen BK429.out 2; have hfz31_3 := blk_frozen BK429.out 3) | ((with_reducible refine gate_builtin (b := .append) (xs := #[.tmp 53, .tmp 55]) rfl ?_); at_builtin; refine Kd.R_append k30 (w0 := w) w.heap.size rfl (.tmp 53) (.tmp 55) 22 30 (.agg #[(.string ⟨#[]⟩), (.string ⟨#[]⟩), (.bool false), (.bool false)]) 40 rfl Tryz.underlying22 info30 rfl (by decide) (by omega) u5 x5_2 (⟨t430, t432, t431, t433⟩ : S30) [.string t430, .string t432, .bool t431, .bool t433] (fun k_ => k_ ≠ gb426 ∧ k_ ≠ gb428 ∧ k_ ≠ gb429) (fun _ => False) rfl rfl ?aP (fun _ hk => hk.elim) ?aF ?aO ?aB ?aS ?aL ?_; (case aP => exact k30_mkM _ _ _ (⟨t430, t432, t431, t433⟩ : S30)); (case aB => exact bG); (case aF => exact (fun k_ hk => ⟨Kd.freshB (g := gb426) (o := .cells #[.string ((rd_T30 l0 x13_1).f0), .string ((rd_T30 l0 x13_1).f1), .bool ((rd_T30 l0 x13_1).f2), .bool ((rd_T30 l0 x13_1).f3)] 30 (0, 0)) (bK BK426) k_ hk, Kd.freshB (g := gb428) (o := .cells #[.string ((rd_T30 l1 x19_2).f0), .string ((rd_T30 l1 x19_2).f1), .bool ((rd_T30 l1 x19_2).f2), .bool ((rd_T30 l1 x19_2).f3)] 30 (0, 0)) (bK BK428) k_ hk, Kd.freshB (g := gb429) (o := .cells #[.string t430, .string t432, .bool t431, .bool t433] 30 (0, 0)) (bK BK429) k_ hk⟩)); (case aO => exact (by (with_reducible repeat (first | apply Kd.R_alloc | apply Kd.R_drewN | apply Kd.R_drew)); exact Kd.R_mono HO_5.out (fun _ hk => ⟨hk.1.1, ⟨hk.1.2, hk.2⟩⟩))); (case aS => exact (below_size bG)); (case aL => have := LMc15.out; omega); intro v436 w32 ho hb hg hat; rw [← Ny435.out] at ho; replace BK426 := Aside0.mk (blk_grown (g := gb426) (o := .cells #[.string ((rd_T30 l0 x13_1).f0), .string ((rd_T30 l0 x13_1).f1), .bool ((rd_T30 l0 x13_1).f2), .bool ((rd_T30 l0 x13_1).f3)] 30 (0, 0)) (bK BK426) hg (Kd.R_away HO_5.out (fun _ hk => hk.1.1))); replace BK428 := Aside0.mk (blk_grown (g := gb428) (o := .cells #[.string ((rd_T30 l1 x19_2).f0), .string ((rd_T30 l1 x19_2).f1), .bool ((rd_T30 l1 x19_2).f2), .bool ((rd_T30 l1 x19_2).f3)] 30 (0, 0)) (bK BK428) hg (Kd.R_away HO_5.out (fun _ hk => hk.1.2))); replace BK429 := Aside0.mk (blk_grown (g := gb429) (o := .cells #[.string t430, .string t432, .bool t431, .bool t433] 30 (0, 0)) (bK BK429) hg (Kd.R_away HO_5.out (fun _ hk => hk.2))); replace HB := Aside0.mk (hb); have HO437 := Aside0.mk (ho); clear HO_5; clear ho hb hg hat))
   go_roundg k2
   case measure => have := HK1.out; have := HK2.out; omega
   case rel => exact ⟨(y435), (wrap64 (x19_2 + 1)), cA, H', ⟨by have := HK1.out; have := HK2.out; omega⟩, ⟨by (with_reducible repeat (first | apply Kd.R_alloc | apply Kd.R_drewN | apply Kd.R_drew)); exact Kd.R_mono HO437.out (fun _ hk => hk.1)⟩, ⟨bK BK426⟩, ⟨bG⟩⟩
def newellaw07_SpanBoth.j0 : Nat → List (S30) → List (S30) → ByteArray → Bool → Option (Bool)
 | 0, _, _, _, _ => none
 | k + 1, x0, x1, x2, x22 => if x22 = true then ((newellaw07_awake.f k).bind fun t440 => (some t440)) else ((newellaw07_right.f k x0).bind fun t441 => ((newellaw07_right.f k x1).bind fun t444 => ((span_Both.f k t441 t444).bind fun t447 => ((newellaw07_awake.f k).bind fun t450 => (if t450 = true then ((span_Holds.f k t447 x2).bind fun t451 => ((span_Holds.f k t441 x2).bind fun t452 => (if t452 = true then ((span_Holds.f k t444 x2).bind fun t453 => (if (t451 == t453) = true then ((span_Both.f k t444 t441).bind fun t454 => ((span_Holds.f k t454 x2).bind fun t457 => ((span_Holds.f k t447 x2).bind fun t458 => (if (t457 == t458) = true then ((span_Both.f k t441 t441).bind fun t459 => ((span_Holds.f k t459 x2).bind fun t462 => ((span_Holds.f k t441 x2).bind fun t463 => (if (t462 == t463) = true then ((span_Both.f k t441 ([] : List (S30))).bind fun t464 => (some ((t464.length : Int) == 0))) else (some false))))) else (some false))))) else (some false))) else (if (t451 == false) = true then ((span_Both.f k t444 t441).bind fun t467 => ((span_Holds.f k t467 x2).bind fun t470 => ((span_Holds.f k t447 x2).bind fun t471 => (if (t470 == t471) = true then ((span_Both.f k t441 t441).bind fun t472 => ((span_Holds.f k t472 x2).bind fun t475 => ((span_Holds.f k t441 x2).bind fun t476 => (if (t475 == t476) = true then ((span_Both.f k t441 ([] : List (S30))).bind fun t477 => (some ((t477.length : Int) == 0))) else (some false))))) else (some false))))) else (some false))))) else (some false))))))
def newellaw07_SpanBoth.f (k : Nat) (l0 : List (S30)) (l1 : List (S30)) (a2 : ByteArray) : Option (Bool) := (newellaw07_few.f k l0).bind fun t438 => (if t438 = true then ((newellaw07_few.f k l1).bind fun t439 => (if t439 = true then (newellaw07_SpanBoth.j0 k l0 l1 a2 (decide ((a2.size : Int) > 100))) else (newellaw07_SpanBoth.j0 k l0 l1 a2 true))) else (newellaw07_SpanBoth.j0 k l0 l1 a2 true))
theorem newellaw07_SpanBoth.mono_l : ∀ k, (∀ y0 y1 y2 y3, LeO (newellaw07_SpanBoth.j0 k y0 y1 y2 y3) (newellaw07_SpanBoth.j0 (k + 1) y0 y1 y2 y3))
 | 0 => fun _ _ _ _ r h => by simp [newellaw07_SpanBoth.j0] at h
 | k + 1 => by
  have ih0 := newellaw07_SpanBoth.mono_l k
  ·intro y0 y1 y2 y3
   unfold newellaw07_SpanBoth.j0
   have m0 := @newellaw07_awake.mono
   have m1 := @newellaw07_few.mono
   have m2 := @newellaw07_right.mono
   have m3 := @span_Both.mono
   have m4 := @span_Holds.mono
   exact mo
theorem newellaw07_SpanBoth.calls (k : Nat) (A0 : Option Addr) (c0 : Nat) (l0 : List (S30)) (A1 : Option Addr) (c1 : Nat) (l1 : List (S30)) (a2 : ByteArray) (r : Bool) (w : World) (hr0 : Kd.C k30 w A0 l0.length l0) (hc0 : l0.length ≤ c0) (hr1 : Kd.C k30 w A1 l1.length l1) (hc1 : l1.length ≤ c1) (hG : Glob w) (h : newellaw07_SpanBoth.f k l0 l1 a2 = some r) (hr_ : r = true) :
 Calls Tryz.prog 3 #[.slice A0 l0.length c0, .slice A1 l1.length c1, .string a2] w fun e w' => e = .returned (.bool r) ∧ Below w.heap.size w w' := by
 have HG := Aside0.mk hG
 clear hG
 have HR0 := Aside0.mk hr0
 have HC0 := Aside0.mk hc0
 clear hr0 hc0
 have HR1 := Aside0.mk hr1
 have HC1 := Aside0.mk hc1
 clear hr1 hc1
 have HB := Aside0.mk (Below.refl w.heap.size w)
 have H : ((newellaw07_few.f k l0).bind fun t438 => (if t438 = true then ((newellaw07_few.f k l1).bind fun t439 => (if t439 = true then (newellaw07_SpanBoth.j0 k l0 l1 a2 (decide ((a2.size : Int) > 100))) else (newellaw07_SpanBoth.j0 k l0 l1 a2 true))) else (newellaw07_SpanBoth.j0 k l0 l1 a2 true))) = some r := h
 clear h
 have HC4 := Aside0.mk H
 clear H
 go_enter Tryz.func3, Tryz.ntmps3
 go_upto_region 1 with (fail)
 go_cut [22] (fun v22 wc => ∃ (kq : Nat) (x22_3 : Bool), v22 = .bool x22_3 ∧ Aside0 (newellaw07_SpanBoth.j0 kq l0 l1 a2 x22_3 = some r) ∧ Aside0 (kq ≤ k) ∧ Aside0 (Below w.heap.size w wc))
 case first =>
  have H := HC4.out
  clear HC4
  replace H := bi H
  obtain ⟨t438, A50, H⟩ := H
  try dsimp only at H
  have A5 := Aside0.mk A50
  clear A50
  by_cases c6 : t438 = true
  rotate_left
  ·replace c6 := Bool.eq_false_iff.mpr c6
   subst c6
   replace H : (newellaw07_SpanBoth.j0 k l0 l1 a2 true) = some r := by rw [if_neg nF] at H; exact H
   have H' := Aside0.mk H
   clear H
   go_wp2_with (first | (refine gl (some 11) Tryz.func4 #[.slice A0 l0.length c0] ?_; (with_reducible refine (newellaw07_few.calls k _ _ l0 false _ ?side1 ?side2 (gS HG) A5.out).mono ?_); (case side1 => repeat (first | exact (Kd.C_below HR0.out HB.out) | (with_reducible refine Kd.C_alloc ?_ _) | (with_reducible refine Kd.C_drewN ?_ _) | (with_reducible refine Kd.C_drew ?_))); (case side2 => exact HC0.out); rintro e w' ⟨rfl, ⟨nd, rfl⟩⟩; refine ⟨_, rfl, ?_⟩))
   go_meet
   case rel => exact ⟨_, (true), cA, H', ⟨by first | omega | exact Nat.le_refl _⟩, ⟨bE⟩⟩
  subst c6
  replace H : ((newellaw07_few.f k l1).bind fun t439 => (if t439 = true then (newellaw07_SpanBoth.j0 k l0 l1 a2 (decide ((a2.size : Int) > 100))) else (newellaw07_SpanBoth.j0 k l0 l1 a2 true))) = some r := by rw [if_pos rfl] at H; exact H
  replace H := bi H
  obtain ⟨t439, A70, H⟩ := H
  try dsimp only at H
  have A7 := Aside0.mk A70
  clear A70
  by_cases c8 : t439 = true
  ·subst c8
   replace H : (newellaw07_SpanBoth.j0 k l0 l1 a2 (decide ((a2.size : Int) > 100))) = some r := by rw [if_pos rfl] at H; exact H
   have H' := Aside0.mk H
   clear H
   go_wp2_with (first | (refine gl (some 11) Tryz.func4 #[.slice A0 l0.length c0] ?_; (with_reducible refine (newellaw07_few.calls k _ _ l0 true _ ?side1 ?side2 (gS HG) A5.out).mono ?_); (case side1 => repeat (first | exact (Kd.C_below HR0.out HB.out) | (with_reducible refine Kd.C_alloc ?_ _) | (with_reducible refine Kd.C_drewN ?_ _) | (with_reducible refine Kd.C_drew ?_))); (case side2 => exact HC0.out); rintro e w' ⟨rfl, ⟨nd, rfl⟩⟩; refine ⟨_, rfl, ?_⟩) | (go_at_call 4; (with_reducible refine (newellaw07_few.calls k _ _ l1 true _ ?side1 ?side2 (gS HG) A7.out).mono ?_); (case side1 => repeat (first | exact (Kd.C_below HR1.out bE) | (with_reducible refine Kd.C_alloc ?_ _) | (with_reducible refine Kd.C_drewN ?_ _) | (with_reducible refine Kd.C_drew ?_))); (case side2 => exact HC1.out); rintro e w' ⟨rfl, ⟨nd, rfl⟩⟩))
   go_meet
   case rel => exact ⟨_, (decide ((a2.size : Int) > 100)), cA, H', ⟨by first | omega | exact Nat.le_refl _⟩, ⟨bE⟩⟩
  replace c8 := Bool.eq_false_iff.mpr c8
  subst c8
  replace H : (newellaw07_SpanBoth.j0 k l0 l1 a2 true) = some r := by rw [if_neg nF] at H; exact H
  have H' := Aside0.mk H
  clear H
  go_wp2_with (first | (refine gl (some 11) Tryz.func4 #[.slice A0 l0.length c0] ?_; (with_reducible refine (newellaw07_few.calls k _ _ l0 true _ ?side1 ?side2 (gS HG) A5.out).mono ?_); (case side1 => repeat (first | exact (Kd.C_below HR0.out HB.out) | (with_reducible refine Kd.C_alloc ?_ _) | (with_reducible refine Kd.C_drewN ?_ _) | (with_reducible refine Kd.C_drew ?_))); (case side2 => exact HC0.out); rintro e w' ⟨rfl, ⟨nd, rfl⟩⟩; refine ⟨_, rfl, ?_⟩) | (go_at_call 4; (with_reducible refine (newellaw07_few.calls k _ _ l1 false _ ?side1 ?side2 (gS HG) A7.out).mono ?_); (case side1 => repeat (first | exact (Kd.C_below HR1.out bE) | (with_reducible refine Kd.C_alloc ?_ _) | (with_reducible refine Kd.C_drewN ?_ _) | (with_reducible refine Kd.C_drew ?_))); (case side2 => exact HC1.out); rintro e w' ⟨rfl, ⟨nd, rfl⟩⟩))
  go_meet
  case rel => exact ⟨_, (true), cA, H', ⟨by first | omega | exact Nat.le_refl _⟩, ⟨bE⟩⟩
 clear HC4
 try clear c1
 try clear p2
 try clear c3
 try clear c4
 try clear c6
 try clear c8
 obtain ⟨kq, x22_3, rfl, HA, HJ3, HB⟩ := hcut
 cases kq with
 | zero => exact absurd HA.out (by simp [newellaw07_SpanBoth.j0])
 | succ kj3 =>
  have H := HA.out
  clear HA
  simp only [newellaw07_SpanBoth.j0] at H
  by_cases c9 : x22_3 = true
  ·subst c9
   replace H : ((newellaw07_awake.f kj3).bind fun t440 => (some t440)) = some r := by rw [if_pos rfl] at H; exact H
   replace H := bi H
   obtain ⟨t440, A100, H⟩ := H
   try dsimp only at H
   have A10 := Aside0.mk A100
   clear A100
   obtain rfl := Option.some.inj H
   go_wp2_with (first | (refine gl (some 23) Tryz.func5 #[] ?_; (with_reducible refine (newellaw07_awake.calls kj3  t440 _ (gS HG) A10.out).mono ?_); rintro e w11 ⟨rfl, hb⟩; refine ⟨_, rfl, ?_⟩; replace HB := sB hb; (try clear hb)))
   go_ret
   exact ⟨eA, bE⟩
  replace c9 := Bool.eq_false_iff.mpr c9
  subst c9
  replace H : ((newellaw07_right.f kj3 l0).bind fun t441 => ((newellaw07_right.f kj3 l1).bind fun t444 => ((span_Both.f kj3 t441 t444).bind fun t447 => ((newellaw07_awake.f kj3).bind fun t450 => (if t450 = true then ((span_Holds.f kj3 t447 a2).bind fun t451 => ((span_Holds.f kj3 t441 a2).bind fun t452 => (if t452 = true then ((span_Holds.f kj3 t444 a2).bind fun t453 => (if (t451 == t453) = true then ((span_Both.f kj3 t444 t441).bind fun t454 => ((span_Holds.f kj3 t454 a2).bind fun t457 => ((span_Holds.f kj3 t447 a2).bind fun t458 => (if (t457 == t458) = true then ((span_Both.f kj3 t441 t441).bind fun t459 => ((span_Holds.f kj3 t459 a2).bind fun t462 => ((span_Holds.f kj3 t441 a2).bind fun t463 => (if (t462 == t463) = true then ((span_Both.f kj3 t441 ([] : List (S30))).bind fun t464 => (some ((t464.length : Int) == 0))) else (some false))))) else (some false))))) else (some false))) else (if (t451 == false) = true then ((span_Both.f kj3 t444 t441).bind fun t467 => ((span_Holds.f kj3 t467 a2).bind fun t470 => ((span_Holds.f kj3 t447 a2).bind fun t471 => (if (t470 == t471) = true then ((span_Both.f kj3 t441 t441).bind fun t472 => ((span_Holds.f kj3 t472 a2).bind fun t475 => ((span_Holds.f kj3 t441 a2).bind fun t476 => (if (t475 == t476) = true then ((span_Both.f kj3 t441 ([] : List (S30))).bind fun t477 => (some ((t477.length : Int) == 0))) else (some false))))) else (some false))))) else (some false))))) else (some false)))))) = some r := by rw [if_neg nF] at H; exact H
  replace H := bi H
  obtain ⟨t441, A120, H⟩ := H
  try dsimp only at H
  have A12 := Aside0.mk A120
  clear A120
  replace H := bi H
  obtain ⟨t444, A130, H⟩ := H
  try dsimp only at H
  have A13 := Aside0.mk A130
  clear A130
  replace H := bi H
  obtain ⟨t447, A140, H⟩ := H
  try dsimp only at H
  have A14 := Aside0.mk A140
  clear A140
  replace H := bi H
  obtain ⟨t450, A150, H⟩ := H
  try dsimp only at H
  have A15 := Aside0.mk A150
  clear A150
  by_cases c16 : t450 = true
  rotate_left
  ·replace c16 := Bool.eq_false_iff.mpr c16
   subst c16
   replace H : (some false) = some r := by rw [if_neg nF] at H; exact H
   exfalso
   obtain rfl := Option.some.inj H
   exact absurd hr_ (by decide)
  subst c16
  replace H : ((span_Holds.f kj3 t447 a2).bind fun t451 => ((span_Holds.f kj3 t441 a2).bind fun t452 => (if t452 = true then ((span_Holds.f kj3 t444 a2).bind fun t453 => (if (t451 == t453) = true then ((span_Both.f kj3 t444 t441).bind fun t454 => ((span_Holds.f kj3 t454 a2).bind fun t457 => ((span_Holds.f kj3 t447 a2).bind fun t458 => (if (t457 == t458) = true then ((span_Both.f kj3 t441 t441).bind fun t459 => ((span_Holds.f kj3 t459 a2).bind fun t462 => ((span_Holds.f kj3 t441 a2).bind fun t463 => (if (t462 == t463) = true then ((span_Both.f kj3 t441 ([] : List (S30))).bind fun t464 => (some ((t464.length : Int) == 0))) else (some false))))) else (some false))))) else (some false))) else (if (t451 == false) = true then ((span_Both.f kj3 t444 t441).bind fun t467 => ((span_Holds.f kj3 t467 a2).bind fun t470 => ((span_Holds.f kj3 t447 a2).bind fun t471 => (if (t470 == t471) = true then ((span_Both.f kj3 t441 t441).bind fun t472 => ((span_Holds.f kj3 t472 a2).bind fun t475 => ((span_Holds.f kj3 t441 a2).bind fun t476 => (if (t475 == t476) = true then ((span_Both.f kj3 t441 ([] : List (S30))).bind fun t477 => (some ((t477.length : Int) == 0))) else (some false))))) else (some false))))) else (some false))))) = some r := by rw [if_pos rfl] at H; exact H
  replace H := bi H
  obtain ⟨t451, A170, H⟩ := H
  try dsimp only at H
  have A17 := Aside0.mk A170
  clear A170
  replace H := bi H
  obtain ⟨t452, A180, H⟩ := H
  try dsimp only at H
  have A18 := Aside0.mk A180
  clear A180
  by_cases c19 : t452 = true
  rotate_left
  ·replace c19 := Bool.eq_false_iff.mpr c19
   subst c19
   replace H : (if (t451 == false) = true then ((span_Both.f kj3 t444 t441).bind fun t467 => ((span_Holds.f kj3 t467 a2).bind fun t470 => ((span_Holds.f kj3 t447 a2).bind fun t471 => (if (t470 == t471) = true then ((span_Both.f kj3 t441 t441).bind fun t472 => ((span_Holds.f kj3 t472 a2).bind fun t475 => ((span_Holds.f kj3 t441 a2).bind fun t476 => (if (t475 == t476) = true then ((span_Both.f kj3 t441 ([] : List (S30))).bind fun t477 => (some ((t477.length : Int) == 0))) else (some false))))) else (some false))))) else (some false)) = some r := by rw [if_neg nF] at H; exact H
   by_cases c51 : (t451 == false) = true
   rotate_left
   ·rw [if_neg c51] at H
    have c51b0 : (t451 == false) = false := by simpa using c51
    (try (have c51b1 : decide (t451 = false) = false := by simpa using c51))
    (try (have c51b2 : (t451 == false) = false := by simpa using c51))
    (try (have c51b3 : ¬ (t451 = false) := by simpa using c51))
    clear c51
    exfalso
    obtain rfl := Option.some.inj H
    exact absurd hr_ (by decide)
   rw [if_pos c51] at H
   have c51b0 : (t451 == false) = true := c51
   (try (have c51b1 : decide (t451 = false) = true := by simpa using c51))
   (try (have c51b2 : (t451 == false) = true := by simpa using c51))
   clear c51
   replace H := bi H
   obtain ⟨t467, A520, H⟩ := H
   try dsimp only at H
   have A52 := Aside0.mk A520
   clear A520
   replace H := bi H
   obtain ⟨t470, A530, H⟩ := H
   try dsimp only at H
   have A53 := Aside0.mk A530
   clear A530
   replace H := bi H
   obtain ⟨t471, A540, H⟩ := H
   try dsimp only at H
   have A54 := Aside0.mk A540
   clear A540
   by_cases c55 : (t470 == t471) = true
   rotate_left
   ·rw [if_neg c55] at H
    have c55b0 : (t470 == t471) = false := by simpa using c55
    (try (have c55b1 : decide (t470 = t471) = false := by simpa using c55))
    (try (have c55b2 : (t470 == t471) = false := by simpa using c55))
    (try (have c55b3 : ¬ (t470 = t471) := by simpa using c55))
    clear c55
    exfalso
    obtain rfl := Option.some.inj H
    exact absurd hr_ (by decide)
   rw [if_pos c55] at H
   have c55b0 : (t470 == t471) = true := c55
   (try (have c55b1 : decide (t470 = t471) = true := by simpa using c55))
   (try (have c55b2 : (t470 == t471) = true := by simpa using c55))
   clear c55
   replace H := bi H
   obtain ⟨t472, A560, H⟩ := H
   try dsimp only at H
   have A56 := Aside0.mk A560
   clear A560
   replace H := bi H
   obtain ⟨t475, A570, H⟩ := H
   try dsimp only at H
   have A57 := Aside0.mk A570
   clear A570
   replace H := bi H
   obtain ⟨t476, A580, H⟩ := H
   try dsimp only at H
   have A58 := Aside0.mk A580
   clear A580
   by_cases c59 : (t475 == t476) = true
   rotate_left
   ·rw [if_neg c59] at H
    have c59b0 : (t475 == t476) = false := by simpa using c59
    (try (have c59b1 : decide (t475 = t476) = false := by simpa using c59))
    (try (have c59b2 : (t475 == t476) = false := by simpa using c59))
    (try (have c59b3 : ¬ (t475 = t476) := by simpa using c59))
    clear c59
    exfalso
    obtain rfl := Option.some.inj H
    exact absurd hr_ (by decide)
   rw [if_pos c59] at H
   have c59b0 : (t475 == t476) = true := c59
   (try (have c59b1 : decide (t475 = t476) = true := by simpa using c59))
   (try (have c59b2 : (t475 == t476) = true := by simpa using c59))
   clear c59
   replace H := bi H
   obtain ⟨t477, A600, H⟩ := H
   try dsimp only at H
   have A60 := Aside0.mk A600
   clear A600
   obtain rfl := Option.some.inj H
   go_wp2_with (first | (refine gl (some 25) Tryz.func6 #[.slice A0 l0.length c0] ?_; (with_reducible refine (newellaw07_right.calls kj3 _ _ l0 t441 _ ?side1 ?side2 (gS HG) A12.out).mono ?_); (case side1 => repeat (first | exact (Kd.C_below HR0.out HB.out) | (with_reducible refine Kd.C_alloc ?_ _) | (with_reducible refine Kd.C_drewN ?_ _) | (with_reducible refine Kd.C_drew ?_))); (case side2 => exact HC0.out); rintro e w61 ⟨v442, rfl, ho0, hb⟩; refine ⟨_, rfl, ?_⟩; have HO443 := Aside0.mk (Kd.R_lower ho0 (below_size bE)); replace HB := sB hb; (try clear hb); (try clear ho0)) | (refine gl (some 27) Tryz.func6 #[.slice A1 l1.length c1] ?_; (with_reducible refine (newellaw07_right.calls kj3 _ _ l1 t444 _ ?side1 ?side2 (gS HG) A13.out).mono ?_); (case side1 => repeat (first | exact (Kd.C_below HR1.out HB.out) | (with_reducible refine Kd.C_alloc ?_ _) | (with_reducible refine Kd.C_drewN ?_ _) | (with_reducible refine Kd.C_drew ?_))); (case side2 => exact HC1.out); rintro e w62 ⟨v445, rfl, ho0, hb⟩; refine ⟨_, rfl, ?_⟩; have HO446 := Aside0.mk (Kd.R_lower (Kd.R_new' ho0 (Kd.R_lt (kR HO443))) (below_size bE)); replace HO443 := Aside0.mk (Kd.R_elder' (kR HO443) (Kd.R_base ho0) hb); replace HB := sB hb; (try clear hb); (try clear ho0); obtain ⟨Ao63, co63, eo63⟩ := Kd.R_slice HO443.out; subst eo63; obtain ⟨Ao64, co64, eo64⟩ := Kd.R_slice HO446.out; subst eo64) | (refine gl (some 30) Tryz.func7 #[.slice Ao63 t441.length co63, .slice Ao64 t444.length co64] ?_; (with_reducible refine (span_Both.calls kj3 _ _ t441 _ _ t444 t447 _ ?side1 ?side2 ?side3 ?side4 (gS HG) A14.out).mono ?_); (case side1 => repeat (first | exact (Kd.R_reads' HO443.out).2.2 | (with_reducible refine Kd.C_alloc ?_ _) | (with_reducible refine Kd.C_drewN ?_ _) | (with_reducible refine Kd.C_drew ?_))); (case side2 => exact (Kd.R_reads' HO443.out).2.1); (case side3 => repeat (first | exact (Kd.R_reads' HO446.out).2.2 | (with_reducible refine Kd.C_alloc ?_ _) | (with_reducible refine Kd.C_drewN ?_ _) | (with_reducible refine Kd.C_drew ?_))); (case side4 => exact (Kd.R_reads' HO446.out).2.1); rintro e w65 ⟨v448, rfl, ho0, hb⟩; refine ⟨_, rfl, ?_⟩; have HO449 := Aside0.mk (Kd.R_lower (Kd.R_new' (Kd.R_new' ho0 (Kd.R_lt (kR HO443))) (Kd.R_lt (kR HO446))) (below_size bE)); replace HO443 := Aside0.mk (Kd.R_elder' (kR HO443) (Kd.R_base ho0) hb); replace HO446 := Aside0.mk (Kd.R_elder' (kR HO446) (Kd.R_base ho0) hb); replace HB := sB hb; (try clear hb); (try clear ho0); clear A14) | (refine gl (some 31) Tryz.func5 #[] ?_; (with_reducible refine (newellaw07_awake.calls kj3  true _ (gS HG) A15.out).mono ?_); rintro e w66 ⟨rfl, hb⟩; refine ⟨_, rfl, ?_⟩; replace HO443 := rB HO443 hb; replace HO446 := rB HO446 hb; replace HO449 := rB HO449 hb; replace HB := sB hb; (try clear hb); obtain ⟨Ao67, co67, eo67⟩ := Kd.R_slice HO449.out; subst eo67) | (go_at_call 8; (with_reducible refine (span_Holds.calls kj3 _ _ t447 a2 t451 _ ?side1 ?side2 (gS HG) A17.out).mono ?_); (case side1 => repeat (first | exact (Kd.R_reads' HO449.out).2.2 | (with_reducible refine Kd.C_alloc ?_ _) | (with_reducible refine Kd.C_drewN ?_ _) | (with_reducible refine Kd.C_drew ?_))); (case side2 => exact (Kd.R_reads' HO449.out).2.1); rintro e w68 ⟨rfl, hb⟩; replace HO443 := rB HO443 hb; replace HO446 := rB HO446 hb; replace HO449 := rB HO449 hb; replace HB := sB hb; (try clear hb); clear A17) | (go_at_call 8; (with_reducible refine (span_Holds.calls kj3 _ _ t441 a2 false _ ?side1 ?side2 (gS HG) A18.out).mono ?_); (case side1 => repeat (first | exact (Kd.R_reads' HO443.out).2.2 | (with_reducible refine Kd.C_alloc ?_ _) | (with_reducible refine Kd.C_drewN ?_ _) | (with_reducible refine Kd.C_drew ?_))); (case side2 => exact (Kd.R_reads' HO443.out).2.1); rintro e w69 ⟨rfl, hb⟩; replace HO443 := rB HO443 hb; replace HO446 := rB HO446 hb; replace HO449 := rB HO449 hb; replace HB := sB hb; (try clear hb); clear A18) | (go_at_call 7; (with_reducible refine (span_Both.calls kj3 _ _ t444 _ _ t441 t467 _ ?side1 ?side2 ?side3 ?side4 (gS HG) A52.out).mono ?_); (case side1 => repeat (first | exact (Kd.R_reads' HO446.out).2.2 | (with_reducible refine Kd.C_alloc ?_ _) | (with_reducible refine Kd.C_drewN ?_ _) | (with_reducible refine Kd.C_drew ?_))); (case side2 => exact (Kd.R_reads' HO446.out).2.1); (case side3 => repeat (first | exact (Kd.R_reads' HO443.out).2.2 | (with_reducible refine Kd.C_alloc ?_ _) | (with_reducible refine Kd.C_drewN ?_ _) | (with_reducible refine Kd.C_drew ?_))); (case side4 => exact (Kd.R_reads' HO443.out).2.1); rintro e w70 ⟨v468, rfl, ho0, hb⟩; have HO469 := Aside0.mk (Kd.R_lower (Kd.R_new' (Kd.R_new' (Kd.R_new' ho0 (Kd.R_lt (kR HO443))) (Kd.R_lt (kR HO446))) (Kd.R_lt (kR HO449))) (below_size bE)); replace HO443 := Aside0.mk (Kd.R_elder' (kR HO443) (Kd.R_base ho0) hb); replace HO446 := Aside0.mk (Kd.R_elder' (kR HO446) (Kd.R_base ho0) hb); replace HO449 := Aside0.mk (Kd.R_elder' (kR HO449) (Kd.R_base ho0) hb); replace HB := sB hb; (try clear hb); (try clear ho0); obtain ⟨Ao71, co71, eo71⟩ := Kd.R_slice HO469.out; subst eo71) | (go_at_call 8; (with_reducible refine (span_Holds.calls kj3 _ _ t467 a2 t470 _ ?side1 ?side2 (gS HG) A53.out).mono ?_); (case side1 => repeat (first | exact (Kd.R_reads' HO469.out).2.2 | (with_reducible refine Kd.C_alloc ?_ _) | (with_reducible refine Kd.C_drewN ?_ _) | (with_reducible refine Kd.C_drew ?_))); (case side2 => exact (Kd.R_reads' HO469.out).2.1); rintro e w72 ⟨rfl, hb⟩; replace HO443 := rB HO443 hb; replace HO446 := rB HO446 hb; replace HO449 := rB HO449 hb; replace HO469 := rB HO469 hb; replace HB := sB hb; (try clear hb)) | (go_at_call 8; (with_reducible refine (span_Holds.calls kj3 _ _ t447 a2 t471 _ ?side1 ?side2 (gS HG) A54.out).mono ?_); (case side1 => repeat (first | exact (Kd.R_reads' HO449.out).2.2 | (with_reducible refine Kd.C_alloc ?_ _) | (with_reducible refine Kd.C_drewN ?_ _) | (with_reducible refine Kd.C_drew ?_))); (case side2 => exact (Kd.R_reads' HO449.out).2.1); rintro e w73 ⟨rfl, hb⟩; replace HO443 := rB HO443 hb; replace HO446 := rB HO446 hb; replace HO449 := rB HO449 hb; replace HO469 := rB HO469 hb; replace HB := sB hb; (try clear hb)) | (go_at_call 7; (with_reducible refine (span_Both.calls kj3 _ _ t441 _ _ t441 t472 _ ?side1 ?side2 ?side3 ?side4 (gS HG) A56.out).mono ?_); (case side1 => repeat (first | exact (Kd.R_reads' HO443.out).2.2 | (with_reducible refine Kd.C_alloc ?_ _) | (with_reducible refine Kd.C_drewN ?_ _) | (with_reducible refine Kd.C_drew ?_))); (case side2 => exact (Kd.R_reads' HO443.out).2.1); (case side3 => repeat (first | exact (Kd.R_reads' HO443.out).2.2 | (with_reducible refine Kd.C_alloc ?_ _) | (with_reducible refine Kd.C_drewN ?_ _) | (with_reducible refine Kd.C_drew ?_))); (case side4 => exact (Kd.R_reads' HO443.out).2.1); rintro e w74 ⟨v473, rfl, ho0, hb⟩; have HO474 := Aside0.mk (Kd.R_lower (Kd.R_new' (Kd.R_new' (Kd.R_new' (Kd.R_new' ho0 (Kd.R_lt (kR HO443))) (Kd.R_lt (kR HO446))) (Kd.R_lt (kR HO449))) (Kd.R_lt (kR HO469))) (below_size bE)); replace HO443 := Aside0.mk (Kd.R_elder' (kR HO443) (Kd.R_base ho0) hb); replace HO446 := Aside0.mk (Kd.R_elder' (kR HO446) (Kd.R_base ho0) hb); replace HO449 := Aside0.mk (Kd.R_elder' (kR HO449) (Kd.R_base ho0) hb); replace HO469 := Aside0.mk (Kd.R_elder' (kR HO469) (Kd.R_base ho0) hb); replace HB := sB hb; (try clear hb); (try clear ho0); obtain ⟨Ao75, co75, eo75⟩ := Kd.R_slice HO474.out; subst eo75) | (go_at_call 8; (with_reducible refine (span_Holds.calls kj3 _ _ t472 a2 t475 _ ?side1 ?side2 (gS HG) A57.out).mono ?_); (case side1 => repeat (first | exact (Kd.R_reads' HO474.out).2.2 | (with_reducible refine Kd.C_alloc ?_ _) | (with_reducible refine Kd.C_drewN ?_ _) | (with_reducible refine Kd.C_drew ?_))); (case side2 => exact (Kd.R_reads' HO474.out).2.1); rintro e w76 ⟨rfl, hb⟩; replace HO443 := rB HO443 hb; replace HO446 := rB HO446 hb; replace HO449 := rB HO449 hb; replace HO469 := rB HO469 hb; replace HO474 := rB HO474 hb; replace HB := sB hb; (try clear hb)) | (go_at_call 8; (with_reducible refine (span_Holds.calls kj3 _ _ t441 a2 t476 _ ?side1 ?side2 (gS HG) A58.out).mono ?_); (case side1 => repeat (first | exact (Kd.R_reads' HO443.out).2.2 | (with_reducible refine Kd.C_alloc ?_ _) | (with_reducible refine Kd.C_drewN ?_ _) | (with_reducible refine Kd.C_drew ?_))); (case side2 => exact (Kd.R_reads' HO443.out).2.1); rintro e w77 ⟨rfl, hb⟩; replace HO443 := rB HO443 hb; replace HO446 := rB HO446 hb; replace HO449 := rB HO449 hb; replace HO469 := rB HO469 hb; replace HO474 := rB HO474 hb; replace HB := sB hb; (try clear hb)) | (go_at_call 7; (refine (span_Both.calls kj3 _ _ t441 _ _ ([] : List (S30)) t477 _ ?side1 ?side2 ?side3 ?side4 (gS HG) A60.out).mono ?_); (case side1 => repeat (first | exact (Kd.R_reads' HO443.out).2.2 | (with_reducible refine Kd.C_alloc ?_ _) | (with_reducible refine Kd.C_drewN ?_ _) | (with_reducible refine Kd.C_drew ?_))); (case side2 => exact (Kd.R_reads' HO443.out).2.1); (case side3 => exact Kd.C_nil _ _); (case side4 => exact Nat.le_refl _); rintro e w78 ⟨v478, rfl, ho0, hb⟩; have HO479 := Aside0.mk (Kd.R_lower (Kd.R_new' (Kd.R_new' (Kd.R_new' (Kd.R_new' (Kd.R_new' ho0 (Kd.R_lt (kR HO443))) (Kd.R_lt (kR HO446))) (Kd.R_lt (kR HO449))) (Kd.R_lt (kR HO469))) (Kd.R_lt (kR HO474))) (below_size bE)); replace HO443 := Aside0.mk (Kd.R_elder' (kR HO443) (Kd.R_base ho0) hb); replace HO446 := Aside0.mk (Kd.R_elder' (kR HO446) (Kd.R_base ho0) hb); replace HO449 := Aside0.mk (Kd.R_elder' (kR HO449) (Kd.R_base ho0) hb); replace HO469 := Aside0.mk (Kd.R_elder' (kR HO469) (Kd.R_base ho0) hb); replace HO474 := Aside0.mk (Kd.R_elder' (kR HO474) (Kd.R_base ho0) hb); replace HB := sB hb; (try clear hb); (try clear ho0); obtain ⟨Ao79, co79, eo79⟩ := Kd.R_slice HO479.out; subst eo79))
   go_ret
   exact ⟨eA, bE⟩
  subst c19
  replace H : ((span_Holds.f kj3 t444 a2).bind fun t453 => (if (t451 == t453) = true then ((span_Both.f kj3 t444 t441).bind fun t454 => ((span_Holds.f kj3 t454 a2).bind fun t457 => ((span_Holds.f kj3 t447 a2).bind fun t458 => (if (t457 == t458) = true then ((span_Both.f kj3 t441 t441).bind fun t459 => ((span_Holds.f kj3 t459 a2).bind fun t462 => ((span_Holds.f kj3 t441 a2).bind fun t463 => (if (t462 == t463) = true then ((span_Both.f kj3 t441 ([] : List (S30))).bind fun t464 => (some ((t464.length : Int) == 0))) else (some false))))) else (some false))))) else (some false))) = some r := by rw [if_pos rfl] at H; exact H
  replace H := bi H
  obtain ⟨t453, A200, H⟩ := H
  try dsimp only at H
  have A20 := Aside0.mk A200
  clear A200
  by_cases c21 : (t451 == t453) = true
  rotate_left
  ·rw [if_neg c21] at H
   have c21b0 : (t451 == t453) = false := by simpa using c21
   (try (have c21b1 : decide (t451 = t453) = false := by simpa using c21))
   (try (have c21b2 : (t451 == t453) = false := by simpa using c21))
   (try (have c21b3 : ¬ (t451 = t453) := by simpa using c21))
   clear c21
   exfalso
   obtain rfl := Option.some.inj H
   exact absurd hr_ (by decide)
  rw [if_pos c21] at H
  have c21b0 : (t451 == t453) = true := c21
  (try (have c21b1 : decide (t451 = t453) = true := by simpa using c21))
  (try (have c21b2 : (t451 == t453) = true := by simpa using c21))
  clear c21
  replace H := bi H
  obtain ⟨t454, A220, H⟩ := H
  try dsimp only at H
  have A22 := Aside0.mk A220
  clear A220
  replace H := bi H
  obtain ⟨t457, A230, H⟩ := H
  try dsimp only at H
  have A23 := Aside0.mk A230
  clear A230
  replace H := bi H
  obtain ⟨t458, A240, H⟩ := H
  try dsimp only at H
  have A24 := Aside0.mk A240
  clear A240
  by_cases c25 : (t457 == t458) = true
  rotate_left
  ·rw [if_neg c25] at H
   have c25b0 : (t457 == t458) = false := by simpa using c25
   (try (have c25b1 : decide (t457 = t458) = false := by simpa using c25))
   (try (have c25b2 : (t457 == t458) = false := by simpa using c25))
   (try (have c25b3 : ¬ (t457 = t458) := by simpa using c25))
   clear c25
   exfalso
   obtain rfl := Option.some.inj H
   exact absurd hr_ (by decide)
  rw [if_pos c25] at H
  have c25b0 : (t457 == t458) = true := c25
  (try (have c25b1 : decide (t457 = t458) = true := by simpa using c25))
  (try (have c25b2 : (t457 == t458) = true := by simpa using c25))
  clear c25
  replace H := bi H
  obtain ⟨t459, A260, H⟩ := H
  try dsimp only at H
  have A26 := Aside0.mk A260
  clear A260
  replace H := bi H
  obtain ⟨t462, A270, H⟩ := H
  try dsimp only at H
  have A27 := Aside0.mk A270
  clear A270
  replace H := bi H
  obtain ⟨t463, A280, H⟩ := H
  try dsimp only at H
  have A28 := Aside0.mk A280
  clear A280
  by_cases c29 : (t462 == t463) = true
  rotate_left
  ·rw [if_neg c29] at H
   have c29b0 : (t462 == t463) = false := by simpa using c29
   (try (have c29b1 : decide (t462 = t463) = false := by simpa using c29))
   (try (have c29b2 : (t462 == t463) = false := by simpa using c29))
   (try (have c29b3 : ¬ (t462 = t463) := by simpa using c29))
   clear c29
   exfalso
   obtain rfl := Option.some.inj H
   exact absurd hr_ (by decide)
  rw [if_pos c29] at H
  have c29b0 : (t462 == t463) = true := c29
  (try (have c29b1 : decide (t462 = t463) = true := by simpa using c29))
  (try (have c29b2 : (t462 == t463) = true := by simpa using c29))
  clear c29
  replace H := bi H
  obtain ⟨t464, A300, H⟩ := H
  try dsimp only at H
  have A30 := Aside0.mk A300
  clear A300
  obtain rfl := Option.some.inj H
  go_wp2_with (first | (refine gl (some 25) Tryz.func6 #[.slice A0 l0.length c0] ?_; (with_reducible refine (newellaw07_right.calls kj3 _ _ l0 t441 _ ?side1 ?side2 (gS HG) A12.out).mono ?_); (case side1 => repeat (first | exact (Kd.C_below HR0.out HB.out) | (with_reducible refine Kd.C_alloc ?_ _) | (with_reducible refine Kd.C_drewN ?_ _) | (with_reducible refine Kd.C_drew ?_))); (case side2 => exact HC0.out); rintro e w31 ⟨v442, rfl, ho0, hb⟩; refine ⟨_, rfl, ?_⟩; have HO443 := Aside0.mk (Kd.R_lower ho0 (below_size bE)); replace HB := sB hb; (try clear hb); (try clear ho0)) | (refine gl (some 27) Tryz.func6 #[.slice A1 l1.length c1] ?_; (with_reducible refine (newellaw07_right.calls kj3 _ _ l1 t444 _ ?side1 ?side2 (gS HG) A13.out).mono ?_); (case side1 => repeat (first | exact (Kd.C_below HR1.out HB.out) | (with_reducible refine Kd.C_alloc ?_ _) | (with_reducible refine Kd.C_drewN ?_ _) | (with_reducible refine Kd.C_drew ?_))); (case side2 => exact HC1.out); rintro e w32 ⟨v445, rfl, ho0, hb⟩; refine ⟨_, rfl, ?_⟩; have HO446 := Aside0.mk (Kd.R_lower (Kd.R_new' ho0 (Kd.R_lt (kR HO443))) (below_size bE)); replace HO443 := Aside0.mk (Kd.R_elder' (kR HO443) (Kd.R_base ho0) hb); replace HB := sB hb; (try clear hb); (try clear ho0); obtain ⟨Ao33, co33, eo33⟩ := Kd.R_slice HO443.out; subst eo33; obtain ⟨Ao34, co34, eo34⟩ := Kd.R_slice HO446.out; subst eo34) | (refine gl (some 30) Tryz.func7 #[.slice Ao33 t441.length co33, .slice Ao34 t444.length co34] ?_; (with_reducible refine (span_Both.calls kj3 _ _ t441 _ _ t444 t447 _ ?side1 ?side2 ?side3 ?side4 (gS HG) A14.out).mono ?_); (case side1 => repeat (first | exact (Kd.R_reads' HO443.out).2.2 | (with_reducible refine Kd.C_alloc ?_ _) | (with_reducible refine Kd.C_drewN ?_ _) | (with_reducible refine Kd.C_drew ?_))); (case side2 => exact (Kd.R_reads' HO443.out).2.1); (case side3 => repeat (first | exact (Kd.R_reads' HO446.out).2.2 | (with_reducible refine Kd.C_alloc ?_ _) | (with_reducible refine Kd.C_drewN ?_ _) | (with_reducible refine Kd.C_drew ?_))); (case side4 => exact (Kd.R_reads' HO446.out).2.1); rintro e w35 ⟨v448, rfl, ho0, hb⟩; refine ⟨_, rfl, ?_⟩; have HO449 := Aside0.mk (Kd.R_lower (Kd.R_new' (Kd.R_new' ho0 (Kd.R_lt (kR HO443))) (Kd.R_lt (kR HO446))) (below_size bE)); replace HO443 := Aside0.mk (Kd.R_elder' (kR HO443) (Kd.R_base ho0) hb); replace HO446 := Aside0.mk (Kd.R_elder' (kR HO446) (Kd.R_base ho0) hb); replace HB := sB hb; (try clear hb); (try clear ho0); clear A14) | (refine gl (some 31) Tryz.func5 #[] ?_; (with_reducible refine (newellaw07_awake.calls kj3  true _ (gS HG) A15.out).mono ?_); rintro e w36 ⟨rfl, hb⟩; refine ⟨_, rfl, ?_⟩; replace HO443 := rB HO443 hb; replace HO446 := rB HO446 hb; replace HO449 := rB HO449 hb; replace HB := sB hb; (try clear hb); obtain ⟨Ao37, co37, eo37⟩ := Kd.R_slice HO449.out; subst eo37) | (go_at_call 8; (with_reducible refine (span_Holds.calls kj3 _ _ t447 a2 t451 _ ?side1 ?side2 (gS HG) A17.out).mono ?_); (case side1 => repeat (first | exact (Kd.R_reads' HO449.out).2.2 | (with_reducible refine Kd.C_alloc ?_ _) | (with_reducible refine Kd.C_drewN ?_ _) | (with_reducible refine Kd.C_drew ?_))); (case side2 => exact (Kd.R_reads' HO449.out).2.1); rintro e w38 ⟨rfl, hb⟩; replace HO443 := rB HO443 hb; replace HO446 := rB HO446 hb; replace HO449 := rB HO449 hb; replace HB := sB hb; (try clear hb); clear A17) | (go_at_call 8; (with_reducible refine (span_Holds.calls kj3 _ _ t441 a2 true _ ?side1 ?side2 (gS HG) A18.out).mono ?_); (case side1 => repeat (first | exact (Kd.R_reads' HO443.out).2.2 | (with_reducible refine Kd.C_alloc ?_ _) | (with_reducible refine Kd.C_drewN ?_ _) | (with_reducible refine Kd.C_drew ?_))); (case side2 => exact (Kd.R_reads' HO443.out).2.1); rintro e w39 ⟨rfl, hb⟩; replace HO443 := rB HO443 hb; replace HO446 := rB HO446 hb; replace HO449 := rB HO449 hb; replace HB := sB hb; (try clear hb); clear A18) | (go_at_call 8; (with_reducible refine (span_Holds.calls kj3 _ _ t444 a2 t453 _ ?side1 ?side2 (gS HG) A20.out).mono ?_); (case side1 => repeat (first | exact (Kd.R_reads' HO446.out).2.2 | (with_reducible refine Kd.C_alloc ?_ _) | (with_reducible refine Kd.C_drewN ?_ _) | (with_reducible refine Kd.C_drew ?_))); (case side2 => exact (Kd.R_reads' HO446.out).2.1); rintro e w40 ⟨rfl, hb⟩; replace HO443 := rB HO443 hb; replace HO446 := rB HO446 hb; replace HO449 := rB HO449 hb; replace HB := sB hb; (try clear hb)) | (go_at_call 7; (with_reducible refine (span_Both.calls kj3 _ _ t444 _ _ t441 t454 _ ?side1 ?side2 ?side3 ?side4 (gS HG) A22.out).mono ?_); (case side1 => repeat (first | exact (Kd.R_reads' HO446.out).2.2 | (with_reducible refine Kd.C_alloc ?_ _) | (with_reducible refine Kd.C_drewN ?_ _) | (with_reducible refine Kd.C_drew ?_))); (case side2 => exact (Kd.R_reads' HO446.out).2.1); (case side3 => repeat (first | exact (Kd.R_reads' HO443.out).2.2 | (with_reducible refine Kd.C_alloc ?_ _) | (with_reducible refine Kd.C_drewN ?_ _) | (with_reducible refine Kd.C_drew ?_))); (case side4 => exact (Kd.R_reads' HO443.out).2.1); rintro e w41 ⟨v455, rfl, ho0, hb⟩; have HO456 := Aside0.mk (Kd.R_lower (Kd.R_new' (Kd.R_new' (Kd.R_new' ho0 (Kd.R_lt (kR HO443))) (Kd.R_lt (kR HO446))) (Kd.R_lt (kR HO449))) (below_size bE)); replace HO443 := Aside0.mk (Kd.R_elder' (kR HO443) (Kd.R_base ho0) hb); replace HO446 := Aside0.mk (Kd.R_elder' (kR HO446) (Kd.R_base ho0) hb); replace HO449 := Aside0.mk (Kd.R_elder' (kR HO449) (Kd.R_base ho0) hb); replace HB := sB hb; (try clear hb); (try clear ho0); obtain ⟨Ao42, co42, eo42⟩ := Kd.R_slice HO456.out; subst eo42) | (go_at_call 8; (with_reducible refine (span_Holds.calls kj3 _ _ t454 a2 t457 _ ?side1 ?side2 (gS HG) A23.out).mono ?_); (case side1 => repeat (first | exact (Kd.R_reads' HO456.out).2.2 | (with_reducible refine Kd.C_alloc ?_ _) | (with_reducible refine Kd.C_drewN ?_ _) | (with_reducible refine Kd.C_drew ?_))); (case side2 => exact (Kd.R_reads' HO456.out).2.1); rintro e w43 ⟨rfl, hb⟩; replace HO443 := rB HO443 hb; replace HO446 := rB HO446 hb; replace HO449 := rB HO449 hb; replace HO456 := rB HO456 hb; replace HB := sB hb; (try clear hb)) | (go_at_call 8; (with_reducible refine (span_Holds.calls kj3 _ _ t447 a2 t458 _ ?side1 ?side2 (gS HG) A24.out).mono ?_); (case side1 => repeat (first | exact (Kd.R_reads' HO449.out).2.2 | (with_reducible refine Kd.C_alloc ?_ _) | (with_reducible refine Kd.C_drewN ?_ _) | (with_reducible refine Kd.C_drew ?_))); (case side2 => exact (Kd.R_reads' HO449.out).2.1); rintro e w44 ⟨rfl, hb⟩; replace HO443 := rB HO443 hb; replace HO446 := rB HO446 hb; replace HO449 := rB HO449 hb; replace HO456 := rB HO456 hb; replace HB := sB hb; (try clear hb)) | (go_at_call 7; (with_reducible refine (span_Both.calls kj3 _ _ t441 _ _ t441 t459 _ ?side1 ?side2 ?side3 ?side4 (gS HG) A26.out).mono ?_); (case side1 => repeat (first | exact (Kd.R_reads' HO443.out).2.2 | (with_reducible refine Kd.C_alloc ?_ _) | (with_reducible refine Kd.C_drewN ?_ _) | (with_reducible refine Kd.C_drew ?_))); (case side2 => exact (Kd.R_reads' HO443.out).2.1); (case side3 => repeat (first | exact (Kd.R_reads' HO443.out).2.2 | (with_reducible refine Kd.C_alloc ?_ _) | (with_reducible refine Kd.C_drewN ?_ _) | (with_reducible refine Kd.C_drew ?_))); (case side4 => exact (Kd.R_reads' HO443.out).2.1); rintro e w45 ⟨v460, rfl, ho0, hb⟩; have HO461 := Aside0.mk (Kd.R_lower (Kd.R_new' (Kd.R_new' (Kd.R_new' (Kd.R_new' ho0 (Kd.R_lt (kR HO443))) (Kd.R_lt (kR HO446))) (Kd.R_lt (kR HO449))) (Kd.R_lt (kR HO456))) (below_size bE)); replace HO443 := Aside0.mk (Kd.R_elder' (kR HO443) (Kd.R_base ho0) hb); replace HO446 := Aside0.mk (Kd.R_elder' (kR HO446) (Kd.R_base ho0) hb); replace HO449 := Aside0.mk (Kd.R_elder' (kR HO449) (Kd.R_base ho0) hb); replace HO456 := Aside0.mk (Kd.R_elder' (kR HO456) (Kd.R_base ho0) hb); replace HB := sB hb; (try clear hb); (try clear ho0); obtain ⟨Ao46, co46, eo46⟩ := Kd.R_slice HO461.out; subst eo46) | (go_at_call 8; (with_reducible refine (span_Holds.calls kj3 _ _ t459 a2 t462 _ ?side1 ?side2 (gS HG) A27.out).mono ?_); (case side1 => repeat (first | exact (Kd.R_reads' HO461.out).2.2 | (with_reducible refine Kd.C_alloc ?_ _) | (with_reducible refine Kd.C_drewN ?_ _) | (with_reducible refine Kd.C_drew ?_))); (case side2 => exact (Kd.R_reads' HO461.out).2.1); rintro e w47 ⟨rfl, hb⟩; replace HO443 := rB HO443 hb; replace HO446 := rB HO446 hb; replace HO449 := rB HO449 hb; replace HO456 := rB HO456 hb; replace HO461 := rB HO461 hb; replace HB := sB hb; (try clear hb)) | (go_at_call 8; (with_reducible refine (span_Holds.calls kj3 _ _ t441 a2 t463 _ ?side1 ?side2 (gS HG) A28.out).mono ?_); (case side1 => repeat (first | exact (Kd.R_reads' HO443.out).2.2 | (with_reducible refine Kd.C_alloc ?_ _) | (with_reducible refine Kd.C_drewN ?_ _) | (with_reducible refine Kd.C_drew ?_))); (case side2 => exact (Kd.R_reads' HO443.out).2.1); rintro e w48 ⟨rfl, hb⟩; replace HO443 := rB HO443 hb; replace HO446 := rB HO446 hb; replace HO449 := rB HO449 hb; replace HO456 := rB HO456 hb; replace HO461 := rB HO461 hb; replace HB := sB hb; (try clear hb)) | (go_at_call 7; (refine (span_Both.calls kj3 _ _ t441 _ _ ([] : List (S30)) t464 _ ?side1 ?side2 ?side3 ?side4 (gS HG) A30.out).mono ?_); (case side1 => repeat (first | exact (Kd.R_reads' HO443.out).2.2 | (with_reducible refine Kd.C_alloc ?_ _) | (with_reducible refine Kd.C_drewN ?_ _) | (with_reducible refine Kd.C_drew ?_))); (case side2 => exact (Kd.R_reads' HO443.out).2.1); (case side3 => exact Kd.C_nil _ _); (case side4 => exact Nat.le_refl _); rintro e w49 ⟨v465, rfl, ho0, hb⟩; have HO466 := Aside0.mk (Kd.R_lower (Kd.R_new' (Kd.R_new' (Kd.R_new' (Kd.R_new' (Kd.R_new' ho0 (Kd.R_lt (kR HO443))) (Kd.R_lt (kR HO446))) (Kd.R_lt (kR HO449))) (Kd.R_lt (kR HO456))) (Kd.R_lt (kR HO461))) (below_size bE)); replace HO443 := Aside0.mk (Kd.R_elder' (kR HO443) (Kd.R_base ho0) hb); replace HO446 := Aside0.mk (Kd.R_elder' (kR HO446) (Kd.R_base ho0) hb); replace HO449 := Aside0.mk (Kd.R_elder' (kR HO449) (Kd.R_base ho0) hb); replace HO456 := Aside0.mk (Kd.R_elder' (kR HO456) (Kd.R_base ho0) hb); replace HO461 := Aside0.mk (Kd.R_elder' (kR HO461) (Kd.R_base ho0) hb); replace HB := sB hb; (try clear hb); (try clear ho0); obtain ⟨Ao50, co50, eo50⟩ := Kd.R_slice HO466.out; subst eo50))
  go_ret
  exact ⟨eA, bE⟩
end Go.Proofs.YtgdjfcmmpjcaaaaGreatDoor.Q
namespace Go.Proofs.YtgdjfcmmpjcaaaaGreatDoor.Q
open Go.RowKit Go.Proofs.YtgdjfcmmpjcaaaaGreatDoorW.PrintWords Go.Proofs.YtgdjfcmmpjcaaaaGreatDoorW.PrintLast Go.Proofs.YtgdjfcmmpjcaaaaGreatDoorW.Own Go.Proofs.YtgdjfcmmpjcaaaaGreatDoorW.PrintMore
set_option linter.unusedVariables false
set_option linter.unusedSimpArgs false
namespace Rd
open Go Go.RowKit
theorem add_more (a : Addr) (i j : Nat) : (a.add i).add j = a.add (i + j) := by
  by_cases hi : i = 0
  · subst hi
    simp [Addr.add]
  · by_cases hj : j = 0
    · subst hj
      simp [Addr.add]
    · have hij : ¬ (i + j = 0) := by omega
      simp [Addr.add, hi, hj]
      omega
def Opens {α : Type} (t : TypeId) (d : Kd α) (wf : α → Prop) (bulk : α → Nat) : Prop :=
  Tryz.prog.cellsOf t = d.sz ∧ ∀ (H : Type) (enc : TypeId × Value → H) (W : World) (fuel : Nat) (cs : List Value) (dd : DataW H) (ps : List MemPlace),
    DataW.trod enc Tryz.prog W 0 (fun _ => true) true fuel t cs = some (dd, ps) → ∃ x, d.K W x cs ∧ wf x ∧ bulk x ≤ Rows.uptoBulk dd
theorem opens_bool {t : TypeId} (hu : Tryz.prog.underlying t = some .bool) (hc : Tryz.prog.cellsOf t = 1) : Opens t Kd.bool (fun _ => True) (fun _ => 1) := by
  refine ⟨hc, fun H enc W fuel cs dd ps h => ?_⟩
  obtain ⟨n, rfl, hx⟩ := DataW.trod_bool hu h
  obtain ⟨rfl, rfl⟩ := Prod.mk.inj hx
  exact ⟨n, rfl, trivial, by simp [Rows.uptoBulk]⟩
theorem opens_string {t : TypeId} (hu : Tryz.prog.underlying t = some .string) (hc : Tryz.prog.cellsOf t = 1) : Opens t Kd.string (fun s => s.size ≤ maxLen) (fun s => s.size + 1) := by
  refine ⟨hc, fun H enc W fuel cs dd ps h => ?_⟩
  obtain ⟨s, rfl, hx, hw⟩ := DataW.trod_string hu h
  obtain ⟨rfl, rfl⟩ := Prod.mk.inj hx
  refine ⟨s, rfl, hw, ?_⟩
  have e : s.data.toList.length = s.size := by rw [Array.length_toList]; rfl
  simp only [Rows.uptoBulk]
  omega
def sumOf {α : Type} (f : α → Nat) (l : List α) : Nat := (l.map f).sum
theorem bulkAll_append {H : Type} (a b : List (DataW H)) : Rows.uptoBulkAll (a ++ b) = Rows.uptoBulkAll a + Rows.uptoBulkAll b := by
  induction a with
  | nil => simp [Rows.uptoBulkAll]
  | cons x l ih => simp only [List.cons_append, Rows.uptoBulkAll, ih]; omega
theorem opens_slice {α : Type} {t e : TypeId} {d : Kd α} {wf : α → Prop} {bulk : α → Nat} (hu : Tryz.prog.underlying t = some (.slice e)) (hc : Tryz.prog.cellsOf t = 1) (h : Opens e d wf bulk) :
    Opens t (Kd.slice e d) (fun xs => xs.length ≤ maxLen ∧ ∀ x ∈ xs, wf x) (fun xs => sumOf bulk xs + 1) := by
  refine ⟨hc, fun H enc W fuel cs dd ps hh => ?_⟩
  rcases DataW.trod_slice hu hh with ⟨rfl, hx⟩ | ⟨a, len, cap, elems, rest, n, rfl, rfl, hx, -, hlc, hcm, hel, he, -, -⟩
  · obtain ⟨rfl, rfl⟩ := Prod.mk.inj hx
    refine ⟨[], ?_, ?_, ?_⟩
    · exact ⟨none, 0, rfl, Nat.le_refl _, Kd.C_nil _ _⟩
    · refine ⟨?_, fun _ h => by simp at h⟩
      rw [List.length_nil]
      exact Nat.zero_le _
    · simp only [sumOf, List.map_nil, List.sum_nil, Rows.uptoBulk]
      exact Nat.le_refl _
  · have e1 := congrArg Prod.fst hx
    simp only at e1
    subst e1
    clear hx hh
    obtain ⟨hsz, hop⟩ := h
    have key : ∀ m, m ≤ elems.length → ∃ xs : List α, xs.length = m ∧ (∀ x ∈ xs, wf x) ∧ sumOf bulk xs ≤ Rows.uptoBulkAll ((elems.take m).map (·.1)) ∧
        ∀ j p, xs[j]? = some p → ∃ c, c.length = d.sz ∧ d.K W p c ∧ ∀ i u, c[i]? = some u → W.cell? (a.add (j * d.sz + i)) = some u := by
      intro m
      induction m with
      | zero => exact fun _ => ⟨[], rfl, fun _ h => by simp at h, Nat.zero_le _, fun j p h => by simp at h⟩
      | succ m ih =>
        intro hm
        obtain ⟨xs, h1, h2, h3, h4⟩ := ih (by omega)
        have hi := he m (by omega)
        rw [List.getElem?_eq_getElem (by omega : m < elems.length), hsz] at hi
        obtain ⟨c, hcells, ht⟩ := Option.bind_eq_some_iff.1 hi
        obtain ⟨x, hk, hwf, hb0⟩ := hop H enc W n c _ _ ht
        have hb : bulk x ≤ Rows.uptoBulk (elems[m]'(by omega)).1 := hb0
        clear hb0
        have hcl : c.length = d.sz ∧ ∀ i u, c[i]? = some u → W.cell? ((a.add (m * d.sz)).add i) = some u := by
          unfold World.cells? at hcells
          rw [if_pos (Nat.zero_le _)] at hcells
          refine ⟨by simpa using mapM_some_length hcells, fun i u hu => ?_⟩
          have hil : i < d.sz := by
            have := (List.getElem?_eq_some_iff.1 hu).1
            have e := mapM_some_length hcells
            rw [List.length_range] at e
            omega
          have := mapM_some_get hcells i i (by rw [List.getElem?_range hil])
          rw [hu] at this
          exact this
        refine ⟨xs ++ [x], by simp [h1], ?_, ?_, ?_⟩
        · intro y hy
          rcases List.mem_append.1 hy with hy | hy
          · exact h2 y hy
          · rw [List.mem_singleton.1 hy]; exact hwf
        · rw [List.take_succ_eq_append_getElem (by omega), List.map_append, bulkAll_append]
          simp only [sumOf, List.map_append, List.sum_append, List.map_cons, List.map_nil, List.sum_cons, List.sum_nil, Rows.uptoBulkAll] at h3 ⊢
          omega
        · intro j p hj
          rcases Nat.lt_or_ge j xs.length with hlt | hge
          · rw [List.getElem?_append_left hlt] at hj
            exact h4 j p hj
          · rw [List.getElem?_append_right hge] at hj
            have hj0 : j - xs.length = 0 := by
              rcases Nat.eq_zero_or_pos (j - xs.length) with h | h
              · exact h
              · rw [List.getElem?_eq_none (by simp; omega)] at hj; simp at hj
            rw [hj0] at hj
            obtain rfl : x = p := by simpa using hj
            obtain rfl : j = m := by omega
            exact ⟨c, hcl.1, hk, fun i u hu => by have z := hcl.2 i u hu; rw [add_more] at z; exact z⟩
    obtain ⟨xs, h1, h2, h3, h4⟩ := key elems.length (Nat.le_refl _)
    rw [List.take_length] at h3
    refine ⟨xs, ⟨some a, cap, by rw [h1, hel], by omega, ⟨rfl, ?_, fun _ => ⟨a, rfl, h4⟩⟩⟩, ⟨by omega, h2⟩, ?_⟩
    · unfold maxLen at hcm
      omega
    · simp only [Rows.uptoBulk]
      omega
def OpensF {β : Type} (fs : List Field) (off : Nat) (d : Kd β) (wf : β → Prop) (bulk : β → Nat) : Prop :=
  ∀ (H : Type) (enc : TypeId × Value → H) (W : World) (n : Nat) (cs : List Value) (xs : List (DataW H × List MemPlace)), xs.length = fs.length →
    (∀ (i : Nat) (f : Field), fs[i]? = some f → DataW.trod enc Tryz.prog W 0 (fun _ => true) true n f.type ((cs.drop f.offset).take (Tryz.prog.cellsOf f.type)) = xs[i]?) → cs.length = off + d.sz →
    ∃ x, d.K W x (cs.drop off) ∧ wf x ∧ bulk x ≤ Rows.uptoBulkAll (xs.map (·.1))
theorem OpensF.single {α : Type} {f : Field} {off : Nat} {d : Kd α} {wf : α → Prop} {bulk : α → Nat} (ho : f.offset = off) (h : Opens f.type d wf bulk) : OpensF [f] off d wf bulk := by
  intro H enc W n cs xs hl ht hc
  obtain ⟨hsz, hop⟩ := h
  obtain ⟨x0, rfl⟩ : ∃ x0, xs = [x0] := by
    match xs, hl with
    | [x0], _ => exact ⟨x0, rfl⟩
  have h0 := ht 0 f rfl
  rw [ho, hsz, List.take_of_length_le (by rw [List.length_drop]; omega)] at h0
  obtain ⟨x, hk, hw, hb⟩ := hop H enc W n _ _ _ h0
  exact ⟨x, hk, hw, by simpa [Rows.uptoBulkAll] using hb⟩
theorem OpensF.cons {α β : Type} {f : Field} {fs : List Field} {off off' : Nat} {a : Kd α} {b : Kd β} {wf : α → Prop} {bulk : α → Nat} {wf' : β → Prop} {bulk' : β → Nat} (ho : f.offset = off) (ho' : off' = off + a.sz) (h : Opens f.type a wf bulk) (hr : OpensF fs off' b wf' bulk') :
    OpensF (f :: fs) off (Kd.pair a b) (fun x => wf x.1 ∧ wf' x.2) (fun x => bulk x.1 + bulk' x.2) := by
  intro H enc W n cs xs hl ht hc
  subst ho'
  obtain ⟨hsz, hop⟩ := h
  obtain ⟨x0, xs', rfl⟩ : ∃ x0 xs', xs = x0 :: xs' := by
    match xs, hl with
    | x0 :: xs', _ => exact ⟨x0, xs', rfl⟩
  have h0 := ht 0 f rfl
  rw [ho, hsz] at h0
  obtain ⟨x, hk, hw, hb⟩ := hop H enc W n _ _ _ h0
  have hc' : cs.length = off + a.sz + b.sz := by
    have e : (Kd.pair a b).sz = a.sz + b.sz := rfl
    rw [e] at hc
    omega
  obtain ⟨y, hk', hw', hb'⟩ := hr H enc W n cs xs' (by simpa using hl) (fun i g hg => by have := ht (i + 1) g (by simpa using hg); simpa using this) hc'
  refine ⟨(x, y), ⟨(cs.drop off).take a.sz, cs.drop (off + a.sz), ?_, hk, hk'⟩, ⟨hw, hw'⟩, ?_⟩
  · rw [← List.drop_drop, List.take_append_drop]
  · simp only [List.map_cons, Rows.uptoBulkAll]
    omega
theorem opens_struct {α β : Type} {t : TypeId} {fs : Array Field} {d : Kd β} {wf : β → Prop} {bulk : β → Nat} (hu : Tryz.prog.underlying t = some (.struct fs)) (h : OpensF fs.toList 0 d wf bulk) (hc : Tryz.prog.cellsOf t = d.sz) (f : α → β) (g : β → α) (hg : ∀ x, f (g x) = x) :
    Opens t (Kd.iso d f) (fun x => wf (f x)) (fun x => bulk (f x) + 1) := by
  refine ⟨hc, fun H enc W fuel cs dd ps hh => ?_⟩
  obtain ⟨xs, n, rfl, hx, hcl, hlen, ht⟩ := DataW.trod_struct hu hh
  obtain ⟨rfl, rfl⟩ := Prod.mk.inj hx
  obtain ⟨x, hk, hw, hb⟩ := h H enc W n cs xs (by simpa using hlen) (fun i f hf => ht i f (by simpa using hf)) (by omega)
  refine ⟨g x, ?_, ?_, ?_⟩
  · show d.K W (f (g x)) cs
    rw [hg]
    exact hk
  · show wf (f (g x))
    rw [hg]
    exact hw
  · show bulk (f (g x)) + 1 ≤ _
    rw [hg]
    simp only [Rows.uptoBulk]
    omega
theorem glob {W : World} (h : W.ShapedOpen Tryz.prog) : Glob W :=
  cell_of_shapedOpen_int (g := 0) (t := 3) (zero := #[.int .i64 0]) (k := .i64) h (of_decide_eq_true (by kernel_rfl)) (by kernel_rfl) rfl (by kernel_rfl) (by kernel_rfl) Tryz.underlying3
end Rd
end Go.Proofs.YtgdjfcmmpjcaaaaGreatDoor.Q
namespace Go.Proofs.YtgdjfcmmpjcaaaaGreatDoor.Q
open Go.RowKit Go.Proofs.YtgdjfcmmpjcaaaaGreatDoorW.PrintWords Go.Proofs.YtgdjfcmmpjcaaaaGreatDoorW.PrintLast Go.Proofs.YtgdjfcmmpjcaaaaGreatDoorW.Own Go.Proofs.YtgdjfcmmpjcaaaaGreatDoorW.PrintMore
set_option linter.unusedVariables false
set_option linter.unusedSimpArgs false
def wf30 (x : S30) : Prop := (x.f0.size ≤ maxLen ∧ (x.f1.size ≤ maxLen ∧ (True ∧ True)))
def bulk30 (x : S30) : Nat := ((x.f0.size + 1) + ((x.f1.size + 1) + (1 + 1))) + 1
theorem opens30 : Rd.Opens 30 k30 wf30 bulk30 := by
  have h := Rd.opens_struct Tryz.underlying30 (show Rd.OpensF _ 0 _ _ _ from (Rd.OpensF.cons (off' := 1) rfl (by kernel_rfl) (Rd.opens_string Tryz.underlying9 (by kernel_rfl)) (Rd.OpensF.cons (off' := 2) rfl (by kernel_rfl) (Rd.opens_string Tryz.underlying9 (by kernel_rfl)) (Rd.OpensF.cons (off' := 3) rfl (by kernel_rfl) (Rd.opens_bool Tryz.underlying4 (by kernel_rfl)) (Rd.OpensF.single rfl (Rd.opens_bool Tryz.underlying4 (by kernel_rfl))))))) (by kernel_rfl) (fun x : S30 => (x.f0, x.f1, x.f2, x.f3)) (fun x => ⟨x.1, x.2.1, x.2.2.1, x.2.2.2⟩) (fun _ => rfl)
  exact h
def newellaw07_SpanBoth.Pure : Prop := ∀ (l0 : List (S30)) (l1 : List (S30)) (a2 : ByteArray), ((l0.length ≤ maxLen ∧ ∀ x_ ∈ l0, wf30 x_)) → ((l1.length ≤ maxLen ∧ ∀ x_ ∈ l1, wf30 x_)) → (a2.size ≤ 140737488351232) → ∃ k, newellaw07_SpanBoth.f k l0 l1 a2 = some true
end Go.Proofs.YtgdjfcmmpjcaaaaGreatDoor.Q
namespace Go.Proofs.YtgdjfcmmpjcaaaaGreatDoorW.Px
open Go
theorem ba_ext {a b : ByteArray} (h : a.data.toList = b.data.toList) : a = b := by
  cases a; cases b; simp at h; subst h; rfl
theorem ba_size (a : ByteArray) : a.size = a.data.toList.length := Array.length_toList.symm
theorem ba_append (a b : ByteArray) : (a ++ b).data.toList = a.data.toList ++ b.data.toList := by simp [ByteArray.data_append]
theorem ba_toList (a : ByteArray) : a.toList = a.data.toList := Lib.toList_data a
theorem ba_extract (a : ByteArray) (i j : Nat) : (a.extract i j).data.toList = (a.data.toList.take j).drop i := by
  simp [ByteArray.data_extract, List.extract_eq_take_drop, List.drop_take]
end Go.Proofs.YtgdjfcmmpjcaaaaGreatDoorW.Px
namespace Go.Proofs.YtgdjfcmmpjcaaaaGreatDoor.Pure
open Go Go.RowKit Go.Proofs.YtgdjfcmmpjcaaaaGreatDoor.Q Go.Proofs.YtgdjfcmmpjcaaaaGreatDoorW.PrintWords Go.Proofs.YtgdjfcmmpjcaaaaGreatDoorW.PrintLast Go.Proofs.YtgdjfcmmpjcaaaaGreatDoorW.Own Go.Proofs.YtgdjfcmmpjcaaaaGreatDoorW.PrintMore Go.Proofs.YtgdjfcmmpjcaaaaGreatDoorW.Px
set_option linter.unusedSimpArgs false
set_option linter.unusedVariables false
def sign (n : Int) : Bool := decide (33 ≤ n) && decide (n ≤ 126) && n != 91 && n != 93 && n != 40 && n != 41 && n != 44
def sign8 (c : UInt8) : Bool := sign (c.toNat : Int)
theorem bad_all : (List.range 256).all (fun n => words_Right_1.f (n : Int) == some (!sign (n : Int))) = true := by kernel_rfl
theorem bad_told (n : Int) (h0 : 0 ≤ n) (h1 : n < 256) : words_Right_1.f n = some (!sign n) := by
  have := List.all_eq_true.1 bad_all n.toNat (by simp; omega)
  rw [Int.toNat_of_nonneg h0] at this
  exact beq_iff_eq.1 this
theorem find_loop (s : ByteArray) (hs : s.size ≤ 1000000) : ∀ (d i k : Nat), i + d = s.size → slices_IndexFunc_byte_byte.l0 (k + d + 1) (bytesOf s) (s.size : Int) (i : Int) = some (if (s.data.toList.drop i).all sign8 then -1 else ((i + ((s.data.toList.drop i).takeWhile sign8).length : Nat) : Int)) := by
  intro d
  induction d with
  | zero =>
    intro i k h
    rw [slices_IndexFunc_byte_byte.l0, if_neg (by omega), show s.data.toList.drop i = [] from List.drop_eq_nil_of_le (by rw [← ba_size]; omega)]
    rfl
  | succ d ih =>
    intro i k h
    have hw : wrap64 ((i : Int) + 1) = ((i + 1 : Nat) : Int) := by unfold wrap64; omega
    have hl : i < s.data.toList.length := by rw [← ba_size]; omega
    have hr : rd (bytesOf s) (i : Int) = (((s.data.toList[i]'hl).toNat : Nat) : Int) := by
      unfold rd bytesOf
      simp [List.getD_eq_getElem?_getD, List.getElem?_map, List.getElem?_eq_getElem hl]
    have hc := (s.data.toList[i]'hl).toNat_lt
    have p0 : (i : Int) < (s.size : Int) := by omega
    have p1 : (0 : Int) ≤ (i : Int) := by omega
    have p2 : (i : Int) < ((bytesOf s).length : Int) := by rw [bytesOf_length]; omega
    rw [show k + (d + 1) + 1 = (k + d + 1) + 1 from by omega, slices_IndexFunc_byte_byte.l0, if_pos p0, if_pos p1, if_pos p2, hr, bad_told _ (by omega) (by omega), Option.bind_some, List.drop_eq_getElem_cons hl]
    by_cases c : sign8 (s.data.toList[i]'hl) = true
    · rw [if_neg (by unfold sign8 at c; rw [c]; decide), hw, ih _ _ (by omega), List.all_cons, c, Bool.true_and, List.takeWhile_cons, if_pos c, List.length_cons]
      congr 1
      by_cases e : (s.data.toList.drop (i + 1)).all sign8 = true
      · rw [if_pos e, if_pos e]
      · rw [if_neg e, if_neg e]; omega
    · have cf : sign8 (s.data.toList[i]'hl) = false := by simpa using c
      rw [if_pos (by unfold sign8 at cf; rw [cf]; rfl), List.all_cons, cf, Bool.false_and, List.takeWhile_cons, if_neg c]
      simp
def rightB (l : List UInt8) : Bool := decide (1 ≤ l.length) && decide (l.length ≤ 100) && l.all sign8
theorem right_told (s : ByteArray) (k : Nat) (hk : 101 ≤ k) : words_Right.f k s = some (rightB s.data.toList) := by
  unfold words_Right.f rightB
  have hz := ba_size s
  by_cases h : 1 ≤ s.size ∧ s.size ≤ 100
  · rw [if_pos h, decide_eq_true (show 1 ≤ s.data.toList.length by omega), decide_eq_true (show s.data.toList.length ≤ 100 by omega)]
    unfold slices_ContainsFunc_byte_byte.f slices_IndexFunc_byte_byte.f
    have := find_loop s (by omega) s.size 0 (k - s.size - 1) (by omega)
    rw [show k - s.size - 1 + s.size + 1 = k from by omega, show ((0 : Nat) : Int) = 0 from rfl, List.drop_zero] at this
    rw [bytesOf_length, this, Option.bind_some, Option.bind_some]
    by_cases e : s.data.toList.all sign8 = true
    · rw [if_pos e, e]; rfl
    · rw [if_neg e, Bool.eq_false_iff.2 e, decide_eq_true (by omega)]; rfl
  · rw [if_neg h]
    by_cases a : 1 ≤ s.size
    · rw [decide_eq_false (show ¬ s.data.toList.length ≤ 100 by omega)]; simp
    · rw [decide_eq_false (show ¬ 1 ≤ s.data.toList.length by omega)]; simp
end Go.Proofs.YtgdjfcmmpjcaaaaGreatDoor.Pure
namespace Go.Proofs.YtgdjfcmmpjcaaaaGreatDoor.Pure
open Go Go.Proofs.YtgdjfcmmpjcaaaaGreatDoorW.Px
set_option linter.unusedSimpArgs false
set_option linter.unusedVariables false
structure Pt where
  tx : List UInt8
  da : Bool
  nu : Bool
def isD (c : UInt8) : Bool := decide (48 ≤ c.toNat) && decide (c.toNat ≤ 57)
def lowB (c : UInt8) : UInt8 := if 65 ≤ c.toNat ∧ c.toNat ≤ 90 then c + 32 else c
def likeP (t : List UInt8) (c : UInt8) : Bool := match t.getLast? with
  | none => true
  | some d => isD d == isD c
def stepP (r : List Pt × Pt) (c : UInt8) : List Pt × Pt :=
  if c == 46 || c == 45 then (r.1 ++ [r.2], ⟨[], c == 45, false⟩)
  else if likeP r.2.tx c then (r.1, ⟨r.2.tx ++ [c], r.2.da, r.2.nu⟩)
  else (r.1 ++ [⟨r.2.tx, r.2.da, isD c⟩], ⟨[c], true, false⟩)
def runP (r : List Pt × Pt) (l : List UInt8) : List Pt × Pt := l.foldl stepP r
def allP (r : List Pt × Pt) : List Pt := r.1 ++ [r.2]
def p0 : List Pt × Pt := ([], ⟨[], false, false⟩)
def partsL (l : List UInt8) : List Pt := allP (runP p0 l)
abbrev Wl := Int × List UInt8
abbrev tA : List UInt8 := [97, 108, 112, 104, 97]
abbrev tB : List UInt8 := [98, 101, 116, 97]
abbrev tM : List UInt8 := [109, 105, 108, 101, 115, 116, 111, 110, 101]
abbrev tRc : List UInt8 := [114, 99]
abbrev tCr : List UInt8 := [99, 114]
abbrev tS : List UInt8 := [115, 110, 97, 112, 115, 104, 111, 116]
abbrev tGa : List UInt8 := [103, 97]
abbrev tFi : List UInt8 := [102, 105, 110, 97, 108]
abbrev tRe : List UInt8 := [114, 101, 108, 101, 97, 115, 101]
abbrev tSp : List UInt8 := [115, 112]
def kindL (t : List UInt8) (nu : Bool) : Int :=
  if t = tA ∨ nu = true ∧ t = [97] then 1
  else if t = tB ∨ nu = true ∧ t = [98] then 2
  else if t = tM ∨ nu = true ∧ t = [109] then 3
  else if t = tRc ∨ t = tCr then 4
  else if t = tS then 5
  else if t = tGa ∨ t = tFi ∨ t = tRe then 6
  else if t = tSp then 7
  else 8
def numL (t : List UInt8) (da : Bool) : Wl :=
  if t.dropWhile (· == 48) = [] then (6, []) else if da = true then (9, t.dropWhile (· == 48)) else (10, t.dropWhile (· == 48))
def letL (t : List UInt8) (nu : Bool) : Wl := if kindL t nu = 8 then (8, t) else (kindL t nu, [])
def numb (t : List UInt8) : Bool := match t with
  | [] => true
  | c :: _ => isD c
def wordL (p : Pt) : Wl := if numb p.tx = true then numL p.tx p.da else letL p.tx p.nu
def aheadL : List Wl → Bool
  | [] => false
  | w :: _ => w.1 == 6 || w.1 == 10
def pushL (w : Wl) (out : List Wl) : List Wl := if w.1 = 6 ∧ aheadL out = false then out else w :: out
def outL (l : List Pt) : List Wl := (l.map wordL).foldr pushL []
def splitL (l : List UInt8) : List Wl := outL (partsL (l.map lowB))
end Go.Proofs.YtgdjfcmmpjcaaaaGreatDoor.Pure
namespace Go.Proofs.YtgdjfcmmpjcaaaaGreatDoor.Pure
open Go Go.RowKit Go.Proofs.YtgdjfcmmpjcaaaaGreatDoor.Q Go.Proofs.YtgdjfcmmpjcaaaaGreatDoorW.PrintWords Go.Proofs.YtgdjfcmmpjcaaaaGreatDoorW.PrintLast Go.Proofs.YtgdjfcmmpjcaaaaGreatDoorW.Own Go.Proofs.YtgdjfcmmpjcaaaaGreatDoorW.PrintMore Go.Proofs.YtgdjfcmmpjcaaaaGreatDoorW.Px
set_option linter.unusedSimpArgs false
set_option linter.unusedVariables false
def ts (l : List UInt8) : ByteArray := ⟨l.toArray⟩
theorem ts_list (l : List UInt8) : (ts l).data.toList = l := rfl
theorem ts_toList (l : List UInt8) : (ts l).toList = l := by rw [ba_toList]; rfl
theorem ts_data (a : ByteArray) : ts a.data.toList = a := ba_ext rfl
theorem ts_size (l : List UInt8) : (ts l).size = l.length := by rw [ba_size]; rfl
theorem ts_append (a b : List UInt8) : ts a ++ ts b = ts (a ++ b) := ba_ext (by rw [ba_append]; rfl)
theorem bt_nat (l : List UInt8) (i : Nat) (h : i < l.length) : bt (ts l) (i : Int) = ((l[i].toNat : Nat) : Int) := by
  have h' : i < (ts l).size := by rw [ts_size]; exact h
  unfold bt
  simp [h']
  rfl
theorem num_byte (c : UInt8) : strOfNums [(c.toNat : Int)] = ts [c] := by
  apply ba_ext
  show [UInt8.ofNat (Int.toNat (c.toNat : Int))] = [c]
  rw [Int.toNat_natCast]; simp
theorem byte_at (l : List UInt8) (i : Nat) (h : i < l.length) : (ts l).extract ((i : Nat) : Int).toNat ((i + 1 : Nat) : Int).toNat = ts [l[i]] := by
  apply ba_ext
  rw [ba_extract, ts_list, ts_list, Int.toNat_natCast, Int.toNat_natCast, List.take_succ_eq_append_getElem h, List.drop_append_of_le_length (by rw [List.length_take]; omega)]
  rw [List.drop_eq_nil_of_le (by rw [List.length_take]; omega)]
  rfl
theorem digit_told (c : UInt8) : chars_Digit.f (c.toNat : Int) = some (isD c) := by
  unfold chars_Digit.f isD
  by_cases h : (c.toNat : Int) ≥ 48
  · rw [if_pos h, decide_eq_true (show 48 ≤ c.toNat by omega), Bool.true_and]
    congr 1
    by_cases g : c.toNat ≤ 57
    · rw [decide_eq_true g, decide_eq_true (by omega)]
    · rw [decide_eq_false g, decide_eq_false (by omega)]
  · rw [if_neg h, decide_eq_false (show ¬ 48 ≤ c.toNat by omega), Bool.false_and]
theorem digit_ref (c : UInt8) : newelref01_Digit.f (c.toNat : Int) = some (isD c) := digit_told c
def p93 (p : Pt) : S98 := ⟨ts p.tx, p.da, p.nu⟩
def p98 (p : Pt) : S91 := ⟨ts p.tx, p.da, p.nu⟩
theorem last_of (n : Nat) (h : n < 4611686018427387904) : wrap64 (((n + 1 : Nat) : Int) - 1) = (n : Int) := by unfold wrap64; omega
theorem next_of (i : Nat) (h : i < 4611686018427387904) : wrap64 ((i : Int) + 1) = ((i + 1 : Nat) : Int) := by unfold wrap64; omega
theorem beq_toNat (c : UInt8) (n : Nat) (h : n < 256) : ((c.toNat : Int) = (n : Int)) ↔ c = UInt8.ofNat n := by
  constructor
  · intro h
    have : c.toNat = n := by omega
    rw [← this]; simp
  · rintro rfl
    simp; omega
section
variable {T : Type} (g : Pt → T)
theorem all_len (r : List Pt × Pt) : ((allP r).map g).length = r.1.length + 1 := by simp [allP]
theorem all_getD (r : List Pt × Pt) (z : T) : ((allP r).map g).getD ((r.1.length : Int)).toNat z = g r.2 := by
  simp [allP, List.getD_eq_getElem?_getD]
theorem all_set (r : List Pt × Pt) (x : T) : ((allP r).map g).set ((r.1.length : Int)).toNat x = r.1.map g ++ [x] := by
  simp [allP, List.set_append]
theorem all_put (r : List Pt × Pt) (p : Pt) (x : T) (h : x = g p) : ((allP r).map g).set ((r.1.length : Int)).toNat x = (allP (r.1, p)).map g := by
  rw [all_set, h]; simp [allP]
theorem all_add (r : List Pt × Pt) (p : Pt) (x : T) (h : x = g p) : (allP r).map g ++ [x] = (allP (r.1 ++ [r.2], p)).map g := by
  rw [h]; simp [allP]
end
theorem stepP_sep (r : List Pt × Pt) (c : UInt8) (h : c = 46 ∨ c = 45) : stepP r c = (r.1 ++ [r.2], ⟨[], c == 45, false⟩) := by
  unfold stepP
  rw [if_pos (by rcases h with rfl | rfl <;> decide)]
theorem stepP_like (r : List Pt × Pt) (c : UInt8) (h : ¬ (c = 46 ∨ c = 45)) (h2 : likeP r.2.tx c = true) : stepP r c = (r.1, ⟨r.2.tx ++ [c], r.2.da, r.2.nu⟩) := by
  unfold stepP
  rw [if_neg (by simpa using h), if_pos h2]
theorem stepP_new (r : List Pt × Pt) (c : UInt8) (h : ¬ (c = 46 ∨ c = 45)) (h2 : likeP r.2.tx c = false) : stepP r c = (r.1 ++ [⟨r.2.tx, r.2.da, isD c⟩], ⟨[c], true, false⟩) := by
  unfold stepP
  rw [if_neg (by simpa using h), h2, if_neg (by simp)]
theorem runP_drop (r : List Pt × Pt) (v : List UInt8) (i : Nat) (h : i < v.length) : runP r (v.drop i) = runP (stepP r v[i]) (v.drop (i + 1)) := by
  rw [List.drop_eq_getElem_cons h]; rfl
theorem like_last (t : List UInt8) (c : UInt8) (h : t ≠ []) : likeP t c = (isD (t.getLast h) == isD c) := by
  unfold likeP
  rw [List.getLast?_eq_some_getLast h]
def tailP (v : List UInt8) (i : Nat) (p : Pt) : Prop := p.tx = [] ∨ ∃ n, i = n + 1 ∧ p.tx.getLast? = v[n]?
theorem tail_next (v : List UInt8) (i : Nat) (h : i < v.length) (t : List UInt8) (a b : Bool) : tailP v (i + 1) ⟨t ++ [v[i]], a, b⟩ := by
  refine Or.inr ⟨i, rfl, ?_⟩
  simp [List.getElem?_eq_getElem h]
theorem parts_loop (v : List UInt8) (hv : v.length ≤ 1000000) : ∀ (d i k : Nat) (r : List Pt × Pt), i + d = v.length → r.1.length ≤ i → r.2.tx.length ≤ i → tailP v i r.2 →
    words_parts.l0 (k + d + 1) (ts v) ((allP r).map p93) (v.length : Int) (i : Int) = some ((allP (runP r (v.drop i))).map p93) := by
  intro d
  induction d with
  | zero =>
    intro i k r h _ _ _
    rw [words_parts.l0, if_neg (by omega), List.drop_eq_nil_of_le (by omega)]
    rfl
  | succ d ih =>
    intro i k r h h1 h2 h3
    have hi : i < v.length := by omega
    have q0 : (i : Int) < (v.length : Int) := by omega
    have q0' : (i : Int) < ((ts v).size : Int) := by rw [ts_size]; omega
    have hl := all_len p93 r
    have hx : wrap64 ((((allP r).map p93).length : Int) - 1) = (r.1.length : Int) := by rw [hl]; exact last_of _ (by omega)
    have q1 : (0 : Int) ≤ (r.1.length : Int) := by omega
    have q2 : (r.1.length : Int) < (((allP r).map p93).length : Int) := by rw [hl]; omega
    have q3 : (0 : Int) ≤ (i : Int) := by omega
    have q4 : ((allP r).map p93).length < 5864062014805 := by rw [hl]; omega
    have hn := next_of i (by omega)
    have hr : rd_T98 ((allP r).map p93) (r.1.length : Int) = p93 r.2 := all_getD p93 r _
    have hb := bt_nat v i hi
    have tn := tail_next v i hi
    have step : ∀ r', stepP r v[i] = r' → r'.1.length ≤ i + 1 → r'.2.tx.length ≤ i + 1 → tailP v (i + 1) r'.2 → words_parts.l0 (k + d + 1) (ts v) ((allP r').map p93) (v.length : Int) ((i + 1 : Nat) : Int) = some ((allP (runP r (v.drop i))).map p93) := by
      intro r' e a b t
      rw [ih (i + 1) k r' (by omega) a b t, runP_drop r v i hi, e]
    rw [show k + (d + 1) + 1 = (k + d + 1) + 1 from by omega, words_parts.l0, if_pos q0, if_pos q3, if_pos q0', hx, if_pos q1, if_pos q2, hr, hb, hn]
    generalize hc : v[i] = c at *
    by_cases c1 : c = 46
    · rw [if_pos (by rw [c1]; rfl), if_pos q4, all_add p93 r ⟨[], c == 45, false⟩ _ (by rw [c1]; rfl)]
      exact step _ (stepP_sep r c (Or.inl c1)) (by simp; omega) (by simp) (Or.inl rfl)
    · rw [if_neg (by rw [show (46 : Int) = ((46 : Nat) : Int) from rfl, beq_toNat c 46 (by omega)]; exact c1)]
      by_cases c2 : c = 45
      · rw [if_pos (by rw [c2]; rfl), if_pos q4, all_add p93 r ⟨[], c == 45, false⟩ _ (by rw [c2]; rfl)]
        exact step _ (stepP_sep r c (Or.inr c2)) (by simp; omega) (by simp) (Or.inl rfl)
      · rw [if_neg (by rw [show (45 : Int) = ((45 : Nat) : Int) from rfl, beq_toNat c 45 (by omega)]; exact c2)]
        have nc : ¬ (c = 46 ∨ c = 45) := by rintro (h | h); exact c1 h; exact c2 h
        have e1 : strOfNums [(c.toNat : Int)] = ts [c] := num_byte c
        have q7 : (p93 r.2).f0.size + (ts [c]).size ≤ 9223372036854775807 := by show (ts r.2.tx).size + (ts [c]).size ≤ _; rw [ts_size, ts_size]; simp; omega
        have same : likeP r.2.tx c = true → (if (p93 r.2).f0.size + (strOfNums [(c.toNat : Int)]).size ≤ 9223372036854775807 then (words_parts.l0 (k + d + 1) (ts v) (((allP r).map p93).set ((r.1.length : Int)).toNat (⟨(p93 r.2).f0 ++ (strOfNums [(c.toNat : Int)]), (p93 r.2).f1, (p93 r.2).f2⟩ : S98)) (v.length : Int) ((i + 1 : Nat) : Int)) else none) = some ((allP (runP r (v.drop i))).map p93) := by
          intro lk
          rw [e1, if_pos q7, all_put p93 r ⟨r.2.tx ++ [c], r.2.da, r.2.nu⟩ _ (by unfold p93; rw [ts_append])]
          exact step _ (stepP_like r c nc lk) (by simp; omega) (by simp; omega) (tn _ _ _)
        by_cases z : r.2.tx = []
        · have z' : (p93 r.2).f0.toList = ([] : List UInt8) := by show (ts r.2.tx).toList = []; rw [ts_toList]; exact z
          rw [if_pos z', Option.bind_some]
          exact same (by rw [z]; rfl)
        · have z' : ¬ (p93 r.2).f0.toList = ([] : List UInt8) := by show ¬ (ts r.2.tx).toList = []; rw [ts_toList]; exact z
          obtain ⟨n, hin, hlast⟩ : ∃ n, i = n + 1 ∧ r.2.tx.getLast? = v[n]? := by
            rcases h3 with h3 | h3
            · exact absurd h3 z
            · exact h3
          have hnv : n < v.length := by omega
          have hnn : n < 4611686018427387904 := by omega
          have hg : r.2.tx.getLast z = v[n] := by
            rw [List.getLast?_eq_some_getLast z, List.getElem?_eq_getElem hnv] at hlast
            exact Option.some.inj hlast
          have hp : wrap64 ((i : Int) - 1) = (n : Int) := by rw [hin]; exact last_of n hnn
          rw [if_neg z', digit_told, Option.bind_some, hp, if_pos (by omega), if_pos (by rw [ts_size]; omega), bt_nat v n hnv, digit_told, Option.bind_some, ← hg]
          by_cases e : isD (r.2.tx.getLast z) = isD c
          · rw [if_neg (by rw [e]; simp), Option.bind_some]
            exact same (by rw [like_last _ _ z, e]; simp)
          · rw [if_pos (by simpa using fun h => e h.symm), Option.bind_some, Option.bind_some]
            have ea : ((allP r).map p93).set ((r.1.length : Int)).toNat (⟨(p93 r.2).f0, (p93 r.2).f1, isD c⟩ : S98) = (allP (r.1, ⟨r.2.tx, r.2.da, isD c⟩)).map p93 := all_put p93 r _ _ rfl
            rw [ea]
            have la := all_len p93 (r.1, ⟨r.2.tx, r.2.da, isD c⟩)
            have q8 : ((allP (r.1, ⟨r.2.tx, r.2.da, isD c⟩)).map p93).length < 5864062014805 := by rw [la]; simp; omega
            rw [if_pos q8, Option.bind_some, all_add p93 (r.1, ⟨r.2.tx, r.2.da, isD c⟩) ⟨[], true, false⟩ (⟨(⟨#[]⟩ : ByteArray), true, false⟩ : S98) rfl]
            generalize hR : ((r.1 ++ [(⟨r.2.tx, r.2.da, isD c⟩ : Pt)], (⟨[], true, false⟩ : Pt)) : List Pt × Pt) = R
            have R1 : R.1 = r.1 ++ [(⟨r.2.tx, r.2.da, isD c⟩ : Pt)] := by rw [← hR]
            have R2 : R.2 = ⟨[], true, false⟩ := by rw [← hR]
            have Rl : R.1.length = r.1.length + 1 := by rw [R1]; simp
            have lR := all_len p93 R
            have hxR : wrap64 ((((allP R).map p93).length : Int) - 1) = (R.1.length : Int) := by rw [lR]; exact last_of _ (by omega)
            have hrR : rd_T98 ((allP R).map p93) (R.1.length : Int) = p93 R.2 := all_getD p93 R _
            rw [hxR, if_pos (by omega), if_pos (by rw [lR]; omega), Option.bind_some, hrR, e1]
            have q9 : (p93 R.2).f0.size + (ts [c]).size ≤ 9223372036854775807 := by rw [R2]; show (ts []).size + (ts [c]).size ≤ _; rw [ts_size, ts_size]; simp
            rw [if_pos q9, all_put p93 R ⟨[c], true, false⟩ _ (by rw [R2]; unfold p93; rw [ts_append]; rfl)]
            exact step (R.1, ⟨[c], true, false⟩) (by rw [stepP_new r c nc (by rw [like_last _ _ z]; simpa using e), R1]) (by simp; omega) (by simp) (tn [] true false)
theorem parts_told (v : List UInt8) (hv : v.length ≤ 1000000) (k : Nat) (hk : v.length + 1 ≤ k) : words_parts.f k (ts v) = some ((partsL v).map p93) := by
  have := parts_loop v hv v.length 0 (k - v.length - 1) p0 (by omega) (by simp [p0]) (by simp [p0]) (Or.inl rfl)
  rw [show k - v.length - 1 + v.length + 1 = k from by omega, ← ts_size v] at this
  exact this
def w38 (w : Wl) : S85 := ⟨w.1, ts w.2⟩
def pr (w : Wl) : Int × ByteArray := (w.1, ts w.2)
theorem kindL_plain (t : List UInt8) (nu : Bool) (ka : ∀ c : List UInt8, (c = [97] ∨ c = [98] ∨ c = [109]) → (nu = true ∧ t = c) = False) : kindL t nu = if t = tA then 1 else if t = tB then 2 else if t = tM then 3 else if t = tRc ∨ t = tCr then 4 else if t = tS then 5 else if t = tGa ∨ t = tFi ∨ t = tRe then 6 else if t = tSp then 7 else 8 := by
  have a := ka [97] (by simp)
  have b := ka [98] (by simp)
  have c := ka [109] (by simp)
  unfold kindL
  simp only [a, b, c, or_false]
theorem letters_told (t : List UInt8) (da nu : Bool) (k : Nat) (hk : 4 ≤ k) : words_letters.f k (ts t) da nu = some (pr (letL t nu)) := by
  obtain ⟨j, rfl⟩ : ∃ j, k = j + 1 + 1 + 1 := ⟨k - 3, by omega⟩
  have gen : ∀ s x, (s = t ∨ nu = true ∧ (s = tA ∧ t = [97] ∨ s = tB ∧ t = [98] ∨ s = tM ∧ t = [109])) → (s = t → ¬ (nu = true ∧ (t = [97] ∨ t = [98] ∨ t = [109]))) → x = ts s → words_letters.j0 (j + 1 + 1 + 1) x (ts t) da nu = some (pr (letL t nu)) := by
    rintro s _ hs hne rfl
    rcases hs with rfl | ⟨hn, ⟨rfl, rfl⟩ | ⟨rfl, rfl⟩ | ⟨rfl, rfl⟩⟩
    · have hx := hne rfl
      have ka : ∀ c, (c = [97] ∨ c = [98] ∨ c = [109]) → (nu = true ∧ s = c) = False := by
        intro c hc
        apply eq_false
        rintro ⟨h1, h2⟩
        exact hx ⟨h1, h2 ▸ hc⟩
      rw [words_letters.j0, ts_toList]
      unfold letL
      rw [kindL_plain s nu ka]
      by_cases h1 : s = tA
      · rw [if_pos h1, if_pos h1]; rfl
      · rw [if_neg h1, if_neg h1]
        by_cases h2 : s = tB
        · rw [if_pos h2, if_pos h2]; rfl
        · rw [if_neg h2, if_neg h2]
          by_cases h3 : s = tM
          · rw [if_pos h3, if_pos h3]; rfl
          · rw [if_neg h3, if_neg h3]
            have j2 : ∀ b, (¬ b = true → ¬ (s = tGa ∨ s = tFi ∨ s = tRe)) → (b = true → (s = tGa ∨ s = tFi ∨ s = tRe)) → words_letters.j2 (j + 1) (ts s) b (ts s) da nu = some (pr (if (if s = tGa ∨ s = tFi ∨ s = tRe then (6 : Int) else if s = tSp then 7 else 8) = 8 then (8, s) else ((if s = tGa ∨ s = tFi ∨ s = tRe then (6 : Int) else if s = tSp then 7 else 8), []))) := by
              intro b hb1 hb2
              rw [words_letters.j2, ts_toList]
              by_cases hb : b = true
              · rw [if_pos hb, if_pos (hb2 hb)]; rfl
              · rw [if_neg hb, if_neg (hb1 hb)]
                by_cases h7 : s = tSp
                · rw [if_pos h7, if_pos h7]; rfl
                · rw [if_neg h7, if_neg h7]; rfl
            have j1 : ∀ b, (¬ b = true → ¬ (s = tRc ∨ s = tCr)) → (b = true → (s = tRc ∨ s = tCr)) → words_letters.j1 (j + 1 + 1) (ts s) b (ts s) da nu = some (pr (if (if s = tRc ∨ s = tCr then (4 : Int) else if s = tS then 5 else if s = tGa ∨ s = tFi ∨ s = tRe then (6 : Int) else if s = tSp then 7 else 8) = 8 then (8, s) else ((if s = tRc ∨ s = tCr then (4 : Int) else if s = tS then 5 else if s = tGa ∨ s = tFi ∨ s = tRe then (6 : Int) else if s = tSp then 7 else 8), []))) := by
              intro b hb1 hb2
              rw [words_letters.j1, ts_toList]
              by_cases hb : b = true
              · rw [if_pos hb, if_pos (hb2 hb)]; rfl
              · rw [if_neg hb, if_neg (hb1 hb)]
                by_cases h5 : s = tS
                · rw [if_pos h5, if_pos h5]; rfl
                · rw [if_neg h5, if_neg h5]
                  by_cases h6 : s = tGa
                  · rw [if_pos h6]; exact j2 _ (fun h => absurd (by rw [show s = [103, 97] from h6]; rfl) h) (fun _ => Or.inl h6)
                  · rw [if_neg h6]
                    by_cases h8 : s = tFi
                    · rw [if_pos h8]; exact j2 _ (fun h => absurd (by rw [show s = [102, 105, 110, 97, 108] from h8]; rfl) h) (fun _ => Or.inr (Or.inl h8))
                    · rw [if_neg h8]
                      refine j2 _ ?_ ?_
                      · rintro h (g | g | g)
                        · exact h6 g
                        · exact h8 g
                        · exact h (by rw [show s = [114, 101, 108, 101, 97, 115, 101] from g]; rfl)
                      · intro h; exact Or.inr (Or.inr (beq_iff_eq.1 h))
            by_cases h4 : s = tRc
            · rw [if_pos h4]; exact j1 _ (fun h => absurd (by rw [show s = [114, 99] from h4]; rfl) h) (fun _ => Or.inl h4)
            · rw [if_neg h4]
              refine j1 _ ?_ ?_
              · rintro h (g | g)
                · exact h4 g
                · exact h (by rw [show s = [99, 114] from g]; rfl)
              · intro h; exact Or.inr (beq_iff_eq.1 h)
    · subst hn; rw [words_letters.j0, ts_toList, if_pos rfl]; rfl
    · subst hn; rw [words_letters.j0, ts_toList, if_neg (by decide), if_pos rfl]; rfl
    · subst hn; rw [words_letters.j0, ts_toList, if_neg (by decide), if_neg (by decide), if_pos rfl]; rfl
  unfold words_letters.f
  rw [ts_toList]
  by_cases hn : nu = true
  · rw [if_pos hn]
    by_cases h1 : t = [97]
    · rw [if_pos h1]; exact gen tA _ (Or.inr ⟨hn, Or.inl ⟨rfl, h1⟩⟩) (fun h => by rw [h1] at h; exact absurd h (by decide)) rfl
    · rw [if_neg h1]
      by_cases h2 : t = [98]
      · rw [if_pos h2]; exact gen tB _ (Or.inr ⟨hn, Or.inr (Or.inl ⟨rfl, h2⟩)⟩) (fun h => by rw [h2] at h; exact absurd h (by decide)) rfl
      · rw [if_neg h2]
        by_cases h3 : t = [109]
        · rw [if_pos h3]; exact gen tM _ (Or.inr ⟨hn, Or.inr (Or.inr ⟨rfl, h3⟩)⟩) (fun h => by rw [h3] at h; exact absurd h (by decide)) rfl
        · rw [if_neg h3]
          refine gen t _ (Or.inl rfl) ?_ rfl
          rintro _ ⟨_, g | g | g⟩
          · exact h1 g
          · exact h2 g
          · exact h3 g
  · rw [if_neg hn]
    exact gen t _ (Or.inl rfl) (fun _ h => hn h.1) rfl
theorem trim_told (t : List UInt8) : strings_TrimLeft.f (ts t) (⟨#[48]⟩ : ByteArray) = some (ts (t.dropWhile (· == 48))) := by
  unfold strings_TrimLeft.f
  rw [if_pos ⟨rfl, by decide⟩]
  rfl
theorem word_told (p : Pt) (k : Nat) (hk : 5 ≤ k) : words_word.f k (p93 p).f0 (p93 p).f1 (p93 p).f2 = some (pr (wordL p)) := by
  obtain ⟨j, rfl⟩ : ∃ j, k = j + 1 := ⟨k - 1, by omega⟩
  obtain ⟨t, da, nu⟩ := p
  show words_word.f (j + 1) (ts t) da nu = _
  have nums : words_word.j0 (j + 1) false (ts t) da nu = some (pr (numL t da)) := by
    rw [words_word.j0, if_neg (by simp), trim_told, Option.bind_some, ts_toList]
    unfold numL
    by_cases z : t.dropWhile (· == 48) = []
    · rw [if_pos z, if_pos z]; rfl
    · rw [if_neg z, if_neg z]
      by_cases d : da = true
      · rw [if_pos d, if_pos d]; rfl
      · rw [if_neg d, if_neg d]; rfl
  unfold words_word.f wordL
  rw [ts_toList]
  cases t with
  | nil => rw [if_pos rfl, nums]; rfl
  | cons c t =>
    have hb : bt (ts (c :: t)) 0 = (c.toNat : Int) := bt_nat (c :: t) 0 (by simp)
    rw [if_neg (by simp), if_pos (by rw [ts_size, List.length_cons]; omega), hb, digit_told, Option.bind_some]
    show _ = some (pr (if isD c = true then numL (c :: t) da else letL (c :: t) nu))
    by_cases d : isD c = true
    · rw [if_pos d, d]; exact nums
    · rw [if_neg d, Bool.eq_false_iff.2 d]
      show words_word.j0 (j + 1) true _ _ _ = _
      rw [words_word.j0, if_pos rfl, letters_told _ _ _ _ (by omega)]
      rfl
def toN (c : UInt8) : Int := (c.toNat : Int)
theorem nums_ts (l : List UInt8) : strOfNums (l.map toN) = ts l := by
  apply ba_ext
  show (l.map toN).map (fun n => UInt8.ofNat n.toNat) = l
  rw [List.map_map]
  conv => rhs; rw [← List.map_id l]
  apply List.map_congr_left
  intro c _
  show UInt8.ofNat (Int.toNat (c.toNat : Int)) = c
  rw [Int.toNat_natCast]; simp
theorem low_num (c : UInt8) : (if 65 ≤ (c.toNat : Int) ∧ (c.toNat : Int) ≤ 90 then (c.toNat : Int) + 32 else (c.toNat : Int)) = toN (lowB c) := by
  unfold lowB toN
  by_cases h : 65 ≤ c.toNat ∧ c.toNat ≤ 90
  · rw [if_pos (by omega), if_pos h, UInt8.toNat_add]
    have : (32 : UInt8).toNat = 32 := rfl
    rw [this]; omega
  · rw [if_neg (by omega), if_neg h]
theorem lower_told (v : List UInt8) (hv : v.length ≤ 1000000) : chars_Lower.f (ts v) = some (ts (v.map lowB)) := by
  unfold chars_Lower.f
  rw [if_pos (by rw [ts_size]; omega), ← nums_ts (v.map lowB)]
  congr 2
  unfold bytesOf
  rw [ts_list, List.map_map, List.map_map]
  apply List.map_congr_left
  intro c _
  exact low_num c
theorem rev_loop : ∀ (n : Nat) (m a b : List S85) (k : Nat), m.length ≤ n → a.length + m.length + b.length ≤ 4000000 →
    api_Word.l0 (k + n + 1) (a ++ (m ++ b)) (a.length : Int) (((a.length + m.length : Nat) : Int) - 1) = some (a ++ (m.reverse ++ b)) := by
  intro n
  induction n with
  | zero =>
    intro m a b k h _
    obtain rfl : m = [] := List.eq_nil_of_length_eq_zero (by omega)
    rw [api_Word.l0, if_neg (by simp; omega)]
    rfl
  | succ n ih =>
    intro m a b k h hb
    match m, h, hb with
    | [], h, hb => rw [api_Word.l0, if_neg (by simp; omega)]; rfl
    | [x], h, hb => rw [api_Word.l0, if_neg (by simp)]; rfl
    | x :: y :: m', h, hb =>
      obtain ⟨c, z, hc⟩ : ∃ c z, y :: m' = c ++ [z] := ⟨(y :: m').dropLast, (y :: m').getLast (by simp), (List.dropLast_concat_getLast (by simp)).symm⟩
      rw [hc] at h hb ⊢
      simp only [List.length_cons, List.length_append, List.length_nil] at h hb
      have hj : (((a.length + (x :: (c ++ [z])).length : Nat) : Int) - 1) = ((a.length + 1 + c.length : Nat) : Int) := by simp; omega
      have hL : (a ++ (x :: (c ++ [z]) ++ b)).length = a.length + 1 + c.length + 1 + b.length := by simp; omega
      have gz : rd_T85 (a ++ (x :: (c ++ [z]) ++ b)) ((a.length + 1 + c.length : Nat) : Int) = z := by
        unfold rd_T85
        rw [Int.toNat_natCast, List.getD_eq_getElem?_getD, List.getElem?_append_right (by omega)]
        rw [show a.length + 1 + c.length - a.length = c.length + 1 from by omega]
        simp
      have gx : rd_T85 (a ++ (x :: (c ++ [z]) ++ b)) ((a.length : Nat) : Int) = x := by
        unfold rd_T85
        rw [Int.toNat_natCast, List.getD_eq_getElem?_getD, List.getElem?_append_right (by omega)]
        simp
      have s1 : (a ++ (x :: (c ++ [z]) ++ b)).set ((a.length : Nat) : Int).toNat z = a ++ (z :: (c ++ [z]) ++ b) := by
        rw [Int.toNat_natCast, List.set_append_right _ _ (by omega)]
        simp
      have s2 : (a ++ (z :: (c ++ [z]) ++ b)).set ((a.length + 1 + c.length : Nat) : Int).toNat x = (a ++ [z]) ++ (c ++ ([x] ++ b)) := by
        rw [Int.toNat_natCast, List.set_append_right _ _ (by omega), show a.length + 1 + c.length - a.length = c.length + 1 from by omega]
        simp
      have w1 : wrap64 (((a.length : Nat) : Int) + 1) = (((a ++ [z]).length : Nat) : Int) := by
        rw [List.length_append]; unfold wrap64; simp; omega
      have w2 : wrap64 (((a.length + 1 + c.length : Nat) : Int) - 1) = (((a ++ [z]).length + c.length : Nat) : Int) - 1 := by
        rw [List.length_append]; unfold wrap64; simp; omega
      have := ih c (a ++ [z]) ([x] ++ b) k (by omega) (by simp; omega)
      rw [show k + (n + 1) + 1 = (k + n + 1) + 1 from by omega, api_Word.l0, hj, if_pos (by omega), if_pos (by omega), if_pos (by rw [hL]; omega), if_pos (by omega), if_pos (by rw [hL]; omega), gz, gx]
      show api_Word.l0 (k + n + 1) ((((a ++ (x :: (c ++ [z]) ++ b)).set ((a.length : Nat) : Int).toNat z)).set ((a.length + 1 + c.length : Nat) : Int).toNat x) _ _ = _
      rw [s1, s2, w1, w2, this]
      simp
theorem rev_told (l : List S85) (hl : l.length ≤ 4000000) (k : Nat) (hk : l.length + 1 ≤ k) : api_Word.f k l = some l.reverse := by
  have := rev_loop l.length l [] [] (k - l.length - 1) (Nat.le_refl _) (by simp; omega)
  rw [show k - l.length - 1 + l.length + 1 = k from by omega, List.append_nil, List.append_nil] at this
  unfold api_Word.f
  rw [show wrap64 ((l.length : Int) - 1) = (((([] : List S85).length + l.length : Nat) : Int) - 1) from by unfold wrap64; simp; omega]
  exact this
theorem push_skip (w : Wl) (out : List Wl) (h : w.1 = 6) (g : aheadL out = false) : pushL w out = out := if_pos ⟨h, g⟩
theorem push_add (w : Wl) (out : List Wl) (h : ¬ (w.1 = 6 ∧ aheadL out = false)) : pushL w out = w :: out := if_neg h
theorem ahead_cons (w : Wl) (l : List Wl) : aheadL (w :: l) = false ↔ ¬ w.1 = 6 ∧ ¬ w.1 = 10 := by
  unfold aheadL; simp
theorem split_loop : ∀ (n : Nat) (l : List Pt) (out : List Wl) (k : Nat), l.length = n → out.length + l.length ≤ 1000000 → out.length + l.length + 10 ≤ k →
    words_Split.l0 (k + n + 1) ((out.map w38).reverse) (l.map p93) = some (((l.map wordL).foldr pushL out).map w38) := by
  intro n
  induction n with
  | zero =>
    intro l out k h _ hk
    obtain rfl : l = [] := List.eq_nil_of_length_eq_zero h
    rw [words_Split.l0, if_pos (by simp), rev_told _ (by simp; omega) _ (by simp; omega), Option.bind_some, List.reverse_reverse]
    rfl
  | succ n ih =>
    intro l out k h hs hk
    obtain ⟨l', p, rfl⟩ : ∃ l' p, l = l' ++ [p] := ⟨l.dropLast, l.getLast (by intro z; rw [z] at h; simp at h), (List.dropLast_concat_getLast _).symm⟩
    have hl' : l'.length = n := by simpa using h
    rw [List.length_append, List.length_singleton] at hs hk
    have hm : ((l' ++ [p]).map p93).length = n + 1 := by rw [List.length_map, List.length_append, hl']; rfl
    have hx : wrap64 ((((l' ++ [p]).map p93).length : Int) - 1) = ((n : Nat) : Int) := by rw [hm]; exact last_of n (by omega)
    have hr : rd_T98 ((l' ++ [p]).map p93) ((n : Nat) : Int) = p93 p := by
      unfold rd_T98
      rw [Int.toNat_natCast, List.map_append, List.getD_eq_getElem?_getD, List.getElem?_append_right (by simp; omega)]
      simp [hl']
    have ht : ((l' ++ [p]).map p93).take ((n : Nat) : Int).toNat = l'.map p93 := by
      rw [Int.toNat_natCast, List.map_append, List.take_append_of_le_length (by simp; omega), List.take_of_length_le (by simp; omega)]
    have fold : (((l' ++ [p]).map wordL).foldr pushL out) = (l'.map wordL).foldr pushL (pushL (wordL p) out) := by simp
    have hlen : ((out.map w38).reverse).length = out.length := by simp
    have add : ¬ ((wordL p).1 = 6 ∧ aheadL out = false) → (if ((out.map w38).reverse).length < 5864062014805 then words_Split.l0 (k + n + 1) ((out.map w38).reverse ++ [(⟨(pr (wordL p)).1, (pr (wordL p)).2⟩ : S85)]) (l'.map p93) else none) = some ((((l' ++ [p]).map wordL).foldr pushL out).map w38) := by
      intro hp
      have e : (out.map w38).reverse ++ [(⟨(pr (wordL p)).1, (pr (wordL p)).2⟩ : S85)] = (((wordL p :: out)).map w38).reverse := by
        rw [List.map_cons, List.reverse_cons]; rfl
      rw [if_pos (by rw [hlen]; omega), e, ih l' (wordL p :: out) k hl' (by simp; omega) (by simp; omega), fold, push_add _ _ hp]
    have skip : (wordL p).1 = 6 → aheadL out = false → words_Split.l0 (k + n + 1) ((out.map w38).reverse) (l'.map p93) = some ((((l' ++ [p]).map wordL).foldr pushL out).map w38) := by
      intro h1 h2
      rw [ih l' out k hl' (by omega) (by omega), fold, push_skip _ _ h1 h2]
    rw [show k + (n + 1) + 1 = (k + n + 1) + 1 from by omega, words_Split.l0, if_neg (by rw [hm]; omega), hx, if_pos (by omega), if_pos (by rw [hm]; omega), hr, word_told p _ (by omega), Option.bind_some, if_pos (by rw [hm]; omega), ht, Option.bind_some]
    by_cases h6 : (pr (wordL p)).1 = 6
    · rw [if_pos h6]
      cases out with
      | nil =>
        rw [if_neg (by simp)]
        exact skip h6 rfl
      | cons o os =>
        have ho : (((o :: os).map w38).reverse).length = os.length + 1 := by simp
        have hy : wrap64 (((((o :: os).map w38).reverse).length : Int) - 1) = ((os.length : Nat) : Int) := by rw [ho]; exact last_of _ (by simp at hs; omega)
        have hz : rd_T85 (((o :: os).map w38).reverse) ((os.length : Nat) : Int) = w38 o := by
          unfold rd_T85
          rw [Int.toNat_natCast, List.map_cons, List.reverse_cons, List.getD_eq_getElem?_getD, List.getElem?_append_right (by simp)]
          simp
        rw [if_pos (by rw [ho]; omega), hy, if_pos (by omega), if_pos (by rw [ho]; omega), hz]
        by_cases a6 : (w38 o).f0 = 6
        · rw [if_pos a6]
          exact add (fun h => ((ahead_cons o os).1 h.2).1 a6)
        · rw [if_neg a6]
          by_cases a10 : (w38 o).f0 = 10
          · rw [if_pos a10]
            exact add (fun h => ((ahead_cons o os).1 h.2).2 a10)
          · rw [if_neg a10]
            exact skip h6 ((ahead_cons o os).2 ⟨a6, a10⟩)
    · rw [if_neg h6]
      exact add (fun h => h6 h.1)
theorem stepP_B (r : List Pt × Pt) (c : UInt8) (B : Nat) (h : ∀ p ∈ allP r, p.tx.length ≤ B) : (∀ p ∈ allP (stepP r c), p.tx.length ≤ B + 1) ∧ (allP (stepP r c)).length ≤ (allP r).length + 1 := by
  have h1 : ∀ p ∈ r.1, p.tx.length ≤ B := fun p hp => h p (List.mem_append_left _ hp)
  have h2 : r.2.tx.length ≤ B := h _ (List.mem_append_right _ (List.mem_singleton.2 rfl))
  unfold stepP allP
  split
  · refine ⟨?_, by simp⟩
    intro p hp
    simp only [List.mem_append, List.mem_singleton] at hp
    rcases hp with (hp | rfl) | rfl
    · have := h1 p hp; omega
    · omega
    · simp
  · split
    · refine ⟨?_, by simp⟩
      intro p hp
      simp only [List.mem_append, List.mem_singleton] at hp
      rcases hp with hp | rfl
      · have := h1 p hp; omega
      · simp; omega
    · refine ⟨?_, by simp⟩
      intro p hp
      simp only [List.mem_append, List.mem_singleton] at hp
      rcases hp with (hp | rfl) | rfl
      · have := h1 p hp; omega
      · simp; omega
      · simp
theorem runP_B : ∀ (l : List UInt8) (r : List Pt × Pt) (B : Nat), (∀ p ∈ allP r, p.tx.length ≤ B) → (∀ p ∈ allP (runP r l), p.tx.length ≤ B + l.length) ∧ (allP (runP r l)).length ≤ (allP r).length + l.length
  | [], _, _, h => ⟨fun p hp => h p hp, Nat.le_refl _⟩
  | c :: l, r, B, h => by
    have s := stepP_B r c B h
    have i := runP_B l (stepP r c) (B + 1) s.1
    refine ⟨fun p hp => ?_, ?_⟩
    · have := i.1 p hp
      rw [List.length_cons]; omega
    · have a := i.2
      have b := s.2
      rw [List.length_cons]
      show (allP (runP (stepP r c) l)).length ≤ _
      omega
theorem partsL_B (l : List UInt8) : (∀ p ∈ partsL l, p.tx.length ≤ l.length) ∧ (partsL l).length ≤ l.length + 1 := by
  have := runP_B l p0 0 (fun p hp => by obtain rfl := List.mem_singleton.1 hp; exact Nat.le_refl _)
  refine ⟨fun p hp => ?_, ?_⟩
  · have := this.1 p hp; omega
  · have := this.2
    have e : (allP p0).length = 1 := rfl
    unfold partsL; omega
theorem split_told (v : List UInt8) (hv : v.length ≤ 100000) (k : Nat) (hk : 3 * v.length + 40 ≤ k) : words_Split.f k (ts v) = some ((splitL v).map w38) := by
  have hB := partsL_B (v.map lowB)
  rw [List.length_map] at hB
  unfold words_Split.f
  rw [lower_told v (by omega), Option.bind_some, parts_told _ (by rw [List.length_map]; omega) k (by rw [List.length_map]; omega), Option.bind_some]
  have := split_loop (partsL (v.map lowB)).length (partsL (v.map lowB)) [] (k - (partsL (v.map lowB)).length - 1) rfl (by simp; omega) (by simp; omega)
  rw [show k - (partsL (v.map lowB)).length - 1 + (partsL (v.map lowB)).length + 1 = k from by omega] at this
  exact this
theorem pushL_len (w : Wl) (out : List Wl) : (pushL w out).length ≤ out.length + 1 := by
  unfold pushL; split <;> simp
theorem splitL_len (v : List UInt8) : (splitL v).length ≤ v.length + 1 := by
  have g : ∀ l : List Wl, (l.foldr pushL []).length ≤ l.length := by
    intro l
    induction l with
    | nil => simp
    | cons w l ih => rw [List.foldr_cons]; have := pushL_len w (l.foldr pushL []); rw [List.length_cons]; omega
  have := g ((partsL (v.map lowB)).map wordL)
  have hB := (partsL_B (v.map lowB)).2
  rw [List.length_map] at this hB
  unfold splitL outL
  omega
end Go.Proofs.YtgdjfcmmpjcaaaaGreatDoor.Pure
namespace Go.Proofs.YtgdjfcmmpjcaaaaGreatDoor.Pure
open Go Go.RowKit Go.Proofs.YtgdjfcmmpjcaaaaGreatDoor.Q Go.Proofs.YtgdjfcmmpjcaaaaGreatDoorW.PrintWords Go.Proofs.YtgdjfcmmpjcaaaaGreatDoorW.PrintLast Go.Proofs.YtgdjfcmmpjcaaaaGreatDoorW.Own Go.Proofs.YtgdjfcmmpjcaaaaGreatDoorW.PrintMore Go.Proofs.YtgdjfcmmpjcaaaaGreatDoorW.Px
set_option linter.unusedSimpArgs false
set_option linter.unusedVariables false
theorem cmp_int (a b : Int) : cmp_Compare_int.f a b = some (if a < b then -1 else if a > b then 1 else 0) := by
  unfold cmp_Compare_int.f cmp_isNaN_int.f
  rw [Option.bind_some, Option.bind_some, if_neg (by simp), if_neg (by simp)]
  repeat' split
  all_goals rfl
theorem cmp_str (a b : List UInt8) : cmp_Compare_string.f (ts a) (ts b) = some (if Op.bytesLess a b = true then -1 else if Op.bytesLess b a = true then 1 else 0) := by
  unfold cmp_Compare_string.f cmp_isNaN_string.f
  rw [Option.bind_some, Option.bind_some, if_neg (by simp), if_neg (by simp), ts_toList, ts_toList]
  repeat' split
  all_goals rfl
theorem or_two (a b : Int) (k : Nat) (hk : 4 ≤ k) : cmp_Or_int.f k [a, b] = some (if a = 0 then b else a) := by
  obtain ⟨k, rfl⟩ : ∃ j, k = j + 1 + 1 + 1 := ⟨k - 3, by omega⟩
  unfold cmp_Or_int.f
  have r0 : rd [a, b] 0 = a := rfl
  have r1 : rd [a, b] 1 = b := rfl
  have w0 : wrap64 ((0 : Int) + 1) = 1 := by unfold wrap64; omega
  have w1 : wrap64 ((1 : Int) + 1) = 2 := by unfold wrap64; omega
  have l2 : (([a, b] : List Int).length : Int) = 2 := rfl
  rw [l2, cmp_Or_int.l0, if_pos (by decide), if_pos (by decide), l2, if_pos (by decide), r0, w0]
  by_cases h : a = 0
  · rw [if_pos h, if_pos h, cmp_Or_int.l0, if_pos (by decide), if_pos (by decide), l2, if_pos (by decide), r1, w1]
    by_cases g : b = 0
    · rw [if_pos g, cmp_Or_int.l0, if_neg (by decide), g]
    · rw [if_neg g]
  · rw [if_neg h, if_neg h]
end Go.Proofs.YtgdjfcmmpjcaaaaGreatDoor.Pure
namespace Go.Proofs.YtgdjfcmmpjcaaaaGreatDoor.Pure
open Go Go.RowKit Go.Proofs.YtgdjfcmmpjcaaaaGreatDoor.Q Go.Proofs.YtgdjfcmmpjcaaaaGreatDoorW.PrintWords Go.Proofs.YtgdjfcmmpjcaaaaGreatDoorW.PrintLast Go.Proofs.YtgdjfcmmpjcaaaaGreatDoorW.Own Go.Proofs.YtgdjfcmmpjcaaaaGreatDoorW.PrintMore Go.Proofs.YtgdjfcmmpjcaaaaGreatDoorW.Px
set_option linter.unusedSimpArgs false
set_option linter.unusedVariables false
def Tot {α : Type} (f : Nat → Option α) (P : α → Prop) : Prop := ∃ k r, P r ∧ ∀ j, k ≤ j → f j = some r
theorem tot_get {α : Type} {f : Nat → Option α} {P : α → Prop} (h : Tot f P) : ∃ k r, P r ∧ ∀ j, k ≤ j → f j = some r := h
section
variable {α β : Type}
theorem tot_some {P : α → Prop} {r : α} (h : P r) : Tot (fun _ => some r) P := ⟨0, r, h, fun _ _ => rfl⟩
theorem tot_const {o : Option α} {P : α → Prop} {r : α} (h : o = some r) (p : P r) : Tot (fun _ => o) P := ⟨0, r, p, fun _ _ => h⟩
theorem tot_ge {f : Nat → Option α} {r : α} (n : Nat) (h : ∀ k, n ≤ k → f k = some r) : Tot f (fun x => x = r) := ⟨n, r, rfl, h⟩
theorem tot_imp {f : Nat → Option α} {P Q : α → Prop} (h : Tot f P) (i : ∀ r, P r → Q r) : Tot f Q := by
  obtain ⟨k, r, p, e⟩ := h
  exact ⟨k, r, i r p, e⟩
theorem tot_bind {g : Nat → Option α} {F : Nat → α → Option β} {Q : α → Prop} {P : β → Prop} (h : Tot g Q) (hF : ∀ r, Q r → Tot (fun k => F k r) P) : Tot (fun k => (g k).bind (F k)) P := by
  obtain ⟨k1, r, q, h1⟩ := h
  obtain ⟨k2, s, p, h2⟩ := hF r q
  exact ⟨k1 + k2, s, p, fun j hj => by show (g j).bind (F j) = _; rw [h1 j (by omega), Option.bind_some]; exact h2 j (by omega)⟩
theorem tot_if {c : Prop} [Decidable c] {f g : Nat → Option α} {P : α → Prop} (h1 : c → Tot f P) (h2 : ¬ c → Tot g P) : Tot (fun k => if c then f k else g k) P := by
  by_cases h : c
  · obtain ⟨k, r, p, e⟩ := h1 h; exact ⟨k, r, p, fun j hj => (if_pos h).trans (e j hj)⟩
  · obtain ⟨k, r, p, e⟩ := h2 h; exact ⟨k, r, p, fun j hj => (if_neg h).trans (e j hj)⟩
theorem tot_guard {c : Prop} [Decidable c] {f g : Nat → Option α} {P : α → Prop} (h : c) (h1 : Tot f P) : Tot (fun k => if c then f k else g k) P := tot_if (fun _ => h1) (fun n => absurd h n)
theorem tot_succ {f b : Nat → Option α} {P : α → Prop} (h : Tot b P) (e : ∀ k, f (k + 1) = b k) : Tot f P := by
  obtain ⟨k, r, p, h⟩ := h
  exact ⟨k + 1, r, p, fun j hj => by obtain ⟨i, rfl⟩ : ∃ i, j = i + 1 := ⟨j - 1, by omega⟩; rw [e]; exact h i (by omega)⟩
end
def Short (l : List S30) : Prop := ∀ s ∈ l, s.f0.size ≤ 1000 ∧ s.f1.size ≤ 1000
end Go.Proofs.YtgdjfcmmpjcaaaaGreatDoor.Pure
namespace Go.Proofs.YtgdjfcmmpjcaaaaGreatDoor.Pure
open Go Go.Proofs.YtgdjfcmmpjcaaaaGreatDoorW.Px
set_option linter.unusedSimpArgs false
set_option linter.unusedVariables false
structure Ord3 {α : Type} (c : α → α → Int) : Prop where
  rng : ∀ a b, c a b = -1 ∨ c a b = 0 ∨ c a b = 1
  anti : ∀ a b, c b a = - c a b
  trans : ∀ a b d, c a b ≤ 0 → c b d ≤ 0 → c a d ≤ 0
section
variable {α β : Type}
theorem Ord3.self {c : α → α → Int} (h : Ord3 c) (a : α) : c a a = 0 := by have := h.anti a a; omega
theorem Ord3.eql {c : α → α → Int} (h : Ord3 c) {a b : α} (e : c a b = 0) (d : α) : c a d = c b d := by
  have h1 := h.trans b a d
  have h2 := h.trans a b d
  have h3 := h.trans d a b
  have h4 := h.trans d b a
  have e1 := h.anti a b
  have e2 := h.anti a d
  have e3 := h.anti b d
  rcases h.rng a d with r | r | r <;> rcases h.rng b d with q | q | q <;> omega
theorem Ord3.lex {c1 c2 : α → α → Int} (h1 : Ord3 c1) (h2 : Ord3 c2) : Ord3 (fun a b => if c1 a b = 0 then c2 a b else c1 a b) where
  rng a b := by
    show (if c1 a b = 0 then c2 a b else c1 a b) = -1 ∨ (if c1 a b = 0 then c2 a b else c1 a b) = 0 ∨ (if c1 a b = 0 then c2 a b else c1 a b) = 1
    split
    · exact h2.rng a b
    · exact h1.rng a b
  anti a b := by
    show (if c1 b a = 0 then c2 b a else c1 b a) = - (if c1 a b = 0 then c2 a b else c1 a b)
    have e1 := h1.anti a b
    have e2 := h2.anti a b
    by_cases z : c1 a b = 0
    · rw [if_pos z, if_pos (by omega)]; exact e2
    · rw [if_neg z, if_neg (by omega)]; exact e1
  trans a b d := by
    show (if c1 a b = 0 then c2 a b else c1 a b) ≤ 0 → (if c1 b d = 0 then c2 b d else c1 b d) ≤ 0 → (if c1 a d = 0 then c2 a d else c1 a d) ≤ 0
    intro p q
    by_cases z : c1 a b = 0
    · have e := h1.eql z d
      rw [if_pos z] at p
      by_cases y : c1 b d = 0
      · rw [if_pos y] at q
        rw [if_pos (by omega)]
        exact h2.trans a b d p q
      · rw [if_neg y] at q
        rw [if_neg (by omega)]
        omega
    · rw [if_neg z] at p
      have t := h1.trans a b d p
      have t2 := h1.trans d a b
      have t3 := h1.trans b d a
      have a1 := h1.anti a b
      have a2 := h1.anti a d
      have a3 := h1.anti b d
      have k : c1 b d ≤ 0 := by
        by_cases y : c1 b d = 0
        · omega
        · rw [if_neg y] at q; exact q
      have k2 := t k
      rw [if_neg (by omega)]
      exact k2
theorem Ord3.comap {c : β → β → Int} (h : Ord3 c) (f : α → β) : Ord3 (fun a b => c (f a) (f b)) where
  rng a b := h.rng (f a) (f b)
  anti a b := h.anti (f a) (f b)
  trans a b d := h.trans (f a) (f b) (f d)
theorem Ord3.zero : Ord3 (fun (_ _ : α) => (0 : Int)) where
  rng _ _ := Or.inr (Or.inl rfl)
  anti _ _ := rfl
  trans _ _ _ _ _ := Int.le_refl _
end
def cmpI (a b : Int) : Int := if a < b then -1 else if a > b then 1 else 0
theorem ord_int : Ord3 cmpI where
  rng a b := by unfold cmpI; split; · exact Or.inl rfl
                · split; · exact Or.inr (Or.inr rfl)
                  · exact Or.inr (Or.inl rfl)
  anti a b := by unfold cmpI; repeat' split
                 all_goals omega
  trans a b d := by unfold cmpI; intro p q; repeat' split
                    all_goals (repeat' split at p)
                    all_goals (repeat' split at q)
                    all_goals omega
theorem less_irr : ∀ a : List UInt8, Op.bytesLess a a = false
  | [] => rfl
  | a :: x => by
    have ih := less_irr x
    have h : decide (a < a) = false := decide_eq_false (fun g => by have := UInt8.lt_iff_toNat_lt.1 g; omega)
    simp only [Op.bytesLess, h, ih, Bool.and_false, Bool.or_false]
theorem less_trans : ∀ a b c : List UInt8, Op.bytesLess a b = true → Op.bytesLess b c = true → Op.bytesLess a c = true
  | [], [], _, h, _ => by simp [Op.bytesLess] at h
  | _ :: _, [], _, h, _ => by simp [Op.bytesLess] at h
  | _, _ :: _, [], _, h => by simp [Op.bytesLess] at h
  | [], _ :: _, _ :: _, _, _ => by simp [Op.bytesLess]
  | a :: x, b :: y, c :: z, h1, h2 => by
    have ih := less_trans x y z
    simp only [Op.bytesLess, Bool.or_eq_true, Bool.and_eq_true, decide_eq_true_eq, beq_iff_eq, UInt8.lt_iff_toNat_lt] at h1 h2 ⊢
    rcases h1 with h1 | ⟨rfl, h1⟩ <;> rcases h2 with h2 | ⟨rfl, h2⟩
    · exact Or.inl (by omega)
    · exact Or.inl h1
    · exact Or.inl h2
    · exact Or.inr ⟨rfl, ih h1 h2⟩
theorem less_tot : ∀ a b : List UInt8, Op.bytesLess a b = false → Op.bytesLess b a = false → a = b
  | [], [], _, _ => rfl
  | [], _ :: _, h, _ => by simp [Op.bytesLess] at h
  | _ :: _, [], _, h => by simp [Op.bytesLess] at h
  | a :: x, b :: y, h1, h2 => by
    have ih := less_tot x y
    simp only [Op.bytesLess, Bool.or_eq_false_iff, decide_eq_false_iff_not, UInt8.lt_iff_toNat_lt] at h1 h2
    obtain rfl : a = b := UInt8.toNat_inj.1 (by omega)
    simp only [beq_self_eq_true, Bool.true_and] at h1 h2
    rw [ih h1.2 h2.2]
theorem less_asym (a b : List UInt8) (h : Op.bytesLess a b = true) : Op.bytesLess b a = false := by
  rw [Bool.eq_false_iff]
  intro g
  have := less_trans a b a h g
  rw [less_irr] at this
  cases this
def cmpB (a b : List UInt8) : Int := if Op.bytesLess a b = true then -1 else if Op.bytesLess b a = true then 1 else 0
theorem cmpB_le (a b : List UInt8) : cmpB a b ≤ 0 ↔ Op.bytesLess b a = false := by
  unfold cmpB
  by_cases p : Op.bytesLess a b = true
  · rw [if_pos p]
    exact ⟨fun _ => less_asym a b p, fun _ => by omega⟩
  · rw [if_neg p]
    by_cases q : Op.bytesLess b a = true
    · rw [if_pos q, q]; simp
    · rw [if_neg q, Bool.eq_false_iff.2 q]; simp
theorem ord_bytes : Ord3 cmpB where
  rng a b := by unfold cmpB; split; · exact Or.inl rfl
                · split; · exact Or.inr (Or.inr rfl)
                  · exact Or.inr (Or.inl rfl)
  anti a b := by
    unfold cmpB
    by_cases p : Op.bytesLess a b = true
    · rw [if_pos p, less_asym a b p, if_pos p]; simp
    · rw [if_neg p]
      by_cases q : Op.bytesLess b a = true
      · simp [q, p]
      · simp [q, p]
  trans a b d := by
    rw [cmpB_le, cmpB_le, cmpB_le]
    intro p q
    rw [Bool.eq_false_iff]
    intro g
    by_cases h : Op.bytesLess a b = true
    · rw [less_trans d a b g h] at q; cases q
    · obtain rfl := less_tot a b (Bool.eq_false_iff.2 h) p
      rw [g] at q; cases q
def cmpW (a b : Wl) : Int :=
  if a.1 < b.1 then -1 else if a.1 > b.1 then 1
  else if a.1 = 8 then cmpB a.2 b.2
  else if a.1 = 9 ∨ a.1 = 10 then (if cmpI a.2.length b.2.length = 0 then cmpB a.2 b.2 else cmpI a.2.length b.2.length)
  else 0
def keyN (a : Wl) : Int := if a.1 = 9 ∨ a.1 = 10 then a.2.length else 0
def keyB (a : Wl) : List UInt8 := if a.1 = 8 ∨ a.1 = 9 ∨ a.1 = 10 then a.2 else []
theorem cmpB_nil : cmpB [] [] = 0 := by decide
theorem cmpW_key (a b : Wl) : cmpW a b = if cmpI a.1 b.1 = 0 then (if cmpI (keyN a) (keyN b) = 0 then cmpB (keyB a) (keyB b) else cmpI (keyN a) (keyN b)) else cmpI a.1 b.1 := by
  unfold cmpW
  have ci : cmpI a.1 b.1 = if a.1 < b.1 then -1 else if a.1 > b.1 then 1 else 0 := rfl
  by_cases p : a.1 < b.1
  · rw [if_pos p] at ci
    rw [if_pos p, ci]; rfl
  · by_cases q : a.1 > b.1
    · rw [if_neg p, if_pos q] at ci
      rw [if_neg p, if_pos q, ci]; rfl
    · have e : a.1 = b.1 := by omega
      rw [if_neg p, if_neg q] at ci
      rw [if_neg p, if_neg q, ci, if_pos rfl]
      unfold keyN keyB
      rw [← e]
      have z0 : cmpI 0 0 = 0 := rfl
      by_cases h8 : a.1 = 8
      · have n9 : ¬ (a.1 = 9 ∨ a.1 = 10) := by omega
        have k : a.1 = 8 ∨ a.1 = 9 ∨ a.1 = 10 := Or.inl h8
        simp only [if_pos h8, if_neg n9, if_pos k, if_pos z0]
      · by_cases h9 : a.1 = 9 ∨ a.1 = 10
        · have k : a.1 = 8 ∨ a.1 = 9 ∨ a.1 = 10 := Or.inr h9
          simp only [if_neg h8, if_pos h9, if_pos k]
        · have k : ¬ (a.1 = 8 ∨ a.1 = 9 ∨ a.1 = 10) := by omega
          simp only [if_neg h8, if_neg h9, if_neg k, if_pos z0, cmpB_nil]
theorem ord_word : Ord3 cmpW := by
  have h := (ord_int.comap (fun a : Wl => a.1)).lex ((ord_int.comap keyN).lex (ord_bytes.comap keyB))
  have e : cmpW = fun a b => if cmpI a.1 b.1 = 0 then (if cmpI (keyN a) (keyN b) = 0 then cmpB (keyB a) (keyB b) else cmpI (keyN a) (keyN b)) else cmpI a.1 b.1 := by
    funext a b; exact cmpW_key a b
  rw [e]
  exact h
def hdW : List Wl → Wl
  | [] => (6, [])
  | w :: _ => w
def cmpN : Nat → List Wl → List Wl → Int
  | 0, _, _ => 0
  | n + 1, x, y => if cmpW (hdW x) (hdW y) = 0 then cmpN n x.tail y.tail else cmpW (hdW x) (hdW y)
theorem ord_words : ∀ n, Ord3 (cmpN n)
  | 0 => Ord3.zero
  | n + 1 => (ord_word.comap hdW).lex ((ord_words n).comap List.tail)
theorem cmpN_succ (n : Nat) (x y : List Wl) : cmpN (n + 1) x y = if cmpW (hdW x) (hdW y) = 0 then cmpN n x.tail y.tail else cmpW (hdW x) (hdW y) := rfl
theorem cmpN_nil : ∀ n, cmpN n [] [] = 0
  | 0 => rfl
  | n + 1 => by
    have e : cmpW (hdW []) (hdW []) = 0 := ord_word.self _
    rw [cmpN, if_pos e]
    exact cmpN_nil n
def mostN : Nat := 100100
def cmpV (a b : List UInt8) : Int := cmpN mostN (splitL a) (splitL b)
theorem ord_vers : Ord3 cmpV := (ord_words mostN).comap splitL
end Go.Proofs.YtgdjfcmmpjcaaaaGreatDoor.Pure
namespace Go.Proofs.YtgdjfcmmpjcaaaaGreatDoor.Pure
open Go Go.RowKit Go.Proofs.YtgdjfcmmpjcaaaaGreatDoor.Q Go.Proofs.YtgdjfcmmpjcaaaaGreatDoorW.PrintWords Go.Proofs.YtgdjfcmmpjcaaaaGreatDoorW.PrintLast Go.Proofs.YtgdjfcmmpjcaaaaGreatDoorW.Own Go.Proofs.YtgdjfcmmpjcaaaaGreatDoorW.PrintMore Go.Proofs.YtgdjfcmmpjcaaaaGreatDoorW.Px
set_option linter.unusedSimpArgs false
set_option linter.unusedVariables false
theorem cmp_told3 (a b : List UInt8) : cmp_Compare_string.f (ts a) (ts b) = some (cmpB a b) := cmp_str a b
theorem word_cmp (x y : Wl) (k : Nat) (hk : 10 ≤ k) : order_word.f k x.1 (ts x.2) y.1 (ts y.2) = some (cmpW x y) := by
  have len : ∀ k, 9 ≤ k → order_word.j0 (k + 1) true x.1 (ts x.2) y.1 (ts y.2) = some (if cmpI x.2.length y.2.length = 0 then cmpB x.2 y.2 else cmpI x.2.length y.2.length) := by
    intro k hk
    rw [order_word.j0, if_pos rfl, cmp_int, Option.bind_some, cmp_told3, Option.bind_some, or_two _ _ _ (by omega), Option.bind_some, ts_size, ts_size]
    rfl
  unfold order_word.f cmpW
  rw [cmp_int, Option.bind_some]
  by_cases p : x.1 < y.1
  · rw [if_pos p, if_pos p, if_neg (by decide)]
  · by_cases q : x.1 > y.1
    · rw [if_neg p, if_pos q, if_neg p, if_pos q, if_neg (by decide)]
    · rw [if_neg p, if_neg q, if_neg p, if_neg q, if_pos rfl]
      by_cases e8 : x.1 = 8
      · rw [if_pos e8, if_pos e8, cmp_told3, Option.bind_some]
      · rw [if_neg e8, if_neg e8]
        obtain ⟨k, rfl⟩ : ∃ i, k = i + 1 := ⟨k - 1, by omega⟩
        by_cases e9 : x.1 = 9
        · rw [if_pos e9, show (x.1 == 9) = true from beq_iff_eq.2 e9, len k (by omega), if_pos (Or.inl e9)]
        · rw [if_neg e9]
          by_cases e10 : x.1 = 10
          · rw [show (x.1 == 10) = true from beq_iff_eq.2 e10, len k (by omega), if_pos (Or.inr e10)]
          · rw [show (x.1 == 10) = false from beq_eq_false_iff_ne.2 e10, order_word.j0, if_neg (by decide), if_neg (by rintro (h | h) <;> omega)]
theorem at_cmp (l : List Wl) (i : Nat) : order_at.f (l.map w38) (i : Int) = some (pr (hdW (l.drop i))) := by
  unfold order_at.f
  rw [List.length_map]
  by_cases h : (i : Int) < (l.length : Int)
  · have hi : i < l.length := by omega
    rw [if_pos h, if_pos (by omega), List.drop_eq_getElem_cons hi]
    unfold rd_T85
    rw [Int.toNat_natCast, List.getD_eq_getElem?_getD, List.getElem?_map, List.getElem?_eq_getElem hi]
    rfl
  · rw [if_neg h, List.drop_eq_nil_of_le (by omega)]
    rfl
theorem tail_drop (l : List Wl) (i : Nat) : (l.drop i).tail = l.drop (i + 1) := by rw [List.tail_drop]
theorem words_cmp (x y : List Wl) (hx : x.length ≤ 100100) (hy : y.length ≤ 100100) : ∀ (d i : Nat), i ≤ 100100 → x.length ≤ i + d → y.length ≤ i + d →
    Tot (fun k => order_Words.l0 k (x.map w38) (y.map w38) (i : Int)) (fun r => r = cmpN (d + 1) (x.drop i) (y.drop i)) := by
  have hm : ∀ i : Nat, (i : Int) < mx (x.length : Int) (y.length : Int) ↔ i < x.length ∨ i < y.length := by
    intro i
    unfold mx
    split <;> omega
  intro d
  induction d with
  | zero =>
    intro i hi h1 h2
    refine tot_succ ?_ (fun k => by rw [order_Words.l0])
    rw [at_cmp, at_cmp]
    simp only [Option.bind_some, pr]
    refine tot_bind (tot_ge 10 (fun k hk => word_cmp (hdW (x.drop i)) (hdW (y.drop i)) k hk)) (fun r hr => ?_)
    subst hr
    have nb : ¬ wrap64 ((i : Int) + 1) < mx ((x.map w38).length : Int) ((y.map w38).length : Int) := by
      rw [List.length_map, List.length_map, next_of i (by omega), hm]; omega
    refine tot_if (fun z => tot_if (fun h => absurd h nb) (fun _ => tot_some ?_)) (fun z => tot_some ?_)
    · rw [cmpN_succ, if_pos z, z]; rfl
    · rw [cmpN_succ, if_neg z]
  | succ d ih =>
    intro i hi h1 h2
    refine tot_succ ?_ (fun k => by rw [order_Words.l0])
    rw [at_cmp, at_cmp]
    simp only [Option.bind_some, pr]
    refine tot_bind (tot_ge 10 (fun k hk => word_cmp (hdW (x.drop i)) (hdW (y.drop i)) k hk)) (fun r hr => ?_)
    subst hr
    rw [List.length_map, List.length_map, next_of i (by omega)]
    refine tot_if (fun z => tot_if (fun h => ?_) (fun h => tot_some ?_)) (fun z => tot_some ?_)
    · have hb := (hm _).1 h
      refine tot_imp (ih (i + 1) (by omega) (by omega) (by omega)) (fun r hr => ?_)
      rw [hr, cmpN_succ (d + 1), if_pos z, tail_drop, tail_drop]
    · rw [hm] at h
      rw [cmpN_succ (d + 1), if_pos z, tail_drop, tail_drop, List.drop_eq_nil_of_le (show x.length ≤ i + 1 by omega), List.drop_eq_nil_of_le (show y.length ≤ i + 1 by omega), cmpN_nil, z]
    · rw [cmpN_succ (d + 1), if_neg z]
theorem compare_cmp (a b : List UInt8) (ha : a.length ≤ 100000) (hb : b.length ≤ 100000) : Tot (fun k => order_Compare.f k (ts a) (ts b)) (fun r => r = cmpV a b) := by
  have sa := splitL_len a
  have sb := splitL_len b
  unfold order_Compare.f order_Words.f
  refine tot_bind (tot_ge 400000 (fun k hk => split_told a ha k (by omega))) (fun x hx => ?_)
  subst hx
  refine tot_bind (tot_ge 400000 (fun k hk => split_told b hb k (by omega))) (fun y hy => ?_)
  subst hy
  refine tot_bind (words_cmp (splitL a) (splitL b) (by omega) (by omega) 100099 0 (by omega) (by omega) (by omega)) (fun r hr => tot_some ?_)
  rw [hr, List.drop_zero, List.drop_zero]
  rfl
abbrev lo8 (s : S30) : List UInt8 := s.f0.data.toList
abbrev hi8 (s : S30) : List UInt8 := s.f1.data.toList
def boundB (v : List UInt8) (i : Bool) : Bool := if rightB v = true then true else if v = [] then !i else false
def mayB (lo hi : List UInt8) (il ih : Bool) : Bool :=
  if boundB lo il = true then (if boundB hi ih = true then (if lo = [] then true else if hi = [] then true else if cmpV lo hi < 0 then true else if cmpV lo hi = 0 then (if il = true then ih else false) else false) else false) else false
def mayS (s : S30) : Bool := mayB (lo8 s) (hi8 s) s.f2 s.f3
def behindB (ah bl : List UInt8) (aih bil : Bool) : Bool := if ah = [] then false else if bl = [] then false else if cmpV ah bl < 0 then true else if cmpV ah bl = 0 then (if aih = true then !bil else true) else false
def lowB2 (lo : List UInt8) (il : Bool) (v : List UInt8) : Bool := if lo = [] then true else if cmpV v lo < 0 then false else if cmpV v lo = 0 then il else true
def highB (hi : List UInt8) (ih : Bool) (v : List UInt8) : Bool := if hi = [] then true else if cmpV v hi > 0 then false else if cmpV v hi = 0 then ih else true
def holdsS (s : S30) (v : List UInt8) : Bool := lowB2 (lo8 s) s.f2 v && highB (hi8 s) s.f3 v
def rangeB (l : List S30) (v : List UInt8) : Bool := l.any fun s => holdsS s v
theorem bound_cmp (v : List UInt8) (i : Bool) : Tot (fun k => span_bound.f k (ts v) i) (fun r => r = boundB v i) := by
  unfold span_bound.f boundB
  refine tot_bind (tot_ge 101 (fun k hk => right_told (ts v) k hk)) (fun r hr => ?_)
  subst hr
  rw [ts_list, ts_toList]
  refine tot_if (fun h => tot_some (by rw [if_pos h])) (fun h => tot_if (fun e => tot_some (by rw [if_neg h, if_pos e])) (fun e => tot_some (by rw [if_neg h, if_neg e])))
theorem may_cmp (lo hi : List UInt8) (il ih : Bool) (hl : lo.length ≤ 100000) (hh : hi.length ≤ 100000) : Tot (fun k => span_may.f k (ts lo) (ts hi) il ih) (fun r => r = mayB lo hi il ih) := by
  have j : ∀ b : Bool, Tot (fun k => span_may.j0 k b (ts lo) (ts hi) il ih) (fun r => r = if b = true then false else if lo = [] then true else if hi = [] then true else if cmpV lo hi < 0 then true else if cmpV lo hi = 0 then (if il = true then ih else false) else false) := by
    intro b
    refine tot_succ ?_ (fun k => by rw [span_may.j0])
    rw [ts_toList, ts_toList]
    refine tot_if (fun h => tot_some (by rw [if_pos h])) (fun h => tot_if (fun e => tot_some (by rw [if_neg h, if_pos e])) (fun e => tot_if (fun g => tot_some (by rw [if_neg h, if_neg e, if_pos g])) (fun g => tot_bind (compare_cmp lo hi hl hh) (fun c hc => ?_))))
    subst hc
    rw [if_neg h, if_neg e, if_neg g]
    refine tot_if (fun a => tot_some (by rw [if_pos a])) (fun a => tot_if (fun z => tot_if (fun y => tot_some (by rw [if_neg a, if_pos z, if_pos y])) (fun y => tot_some (by rw [if_neg a, if_pos z, if_neg y]))) (fun z => tot_some (by rw [if_neg a, if_neg z])))
  unfold span_may.f mayB
  refine tot_bind (bound_cmp lo il) (fun r hr => ?_)
  subst hr
  refine tot_if (fun h => tot_bind (bound_cmp hi ih) (fun r hr => ?_)) (fun h => tot_imp (j true) (fun r hr => by rw [hr, if_pos rfl, if_neg h]))
  subst hr
  refine tot_imp (j _) (fun r hr => ?_)
  rw [hr, if_pos h]
  by_cases y : boundB hi ih = true
  · rw [if_pos y, y, if_neg (by decide)]
  · rw [if_neg y, Bool.eq_false_iff.2 y, if_pos (by decide)]
theorem holds_cmp (s : S30) (v : List UInt8) (hl : (lo8 s).length ≤ 100000) (hh : (hi8 s).length ≤ 100000) (hv : v.length ≤ 100000) : Tot (fun k => span_holds.f k s.f0 s.f1 s.f2 s.f3 (ts v)) (fun r => r = holdsS s v) := by
  obtain ⟨f0, f1, il, ih⟩ := s
  unfold holdsS lowB2 highB
  unfold lo8 at hl ⊢
  unfold hi8 at hh ⊢
  dsimp only at hl hh ⊢
  obtain ⟨lo, rfl⟩ : ∃ l, f0 = ts l := ⟨_, (ts_data f0).symm⟩
  obtain ⟨hi, rfl⟩ : ∃ l, f1 = ts l := ⟨_, (ts_data f1).symm⟩
  rw [ts_list] at hl hh ⊢
  rw [ts_list]
  have j : Tot (fun k => span_holds.j0 k (ts v) (ts lo) (ts hi) il ih) (fun r => r = if hi = [] then true else if cmpV v hi > 0 then false else if cmpV v hi = 0 then ih else true) := by
    refine tot_succ ?_ (fun k => by rw [span_holds.j0])
    rw [ts_toList]
    refine tot_if (fun e => tot_some (by rw [if_pos e])) (fun e => tot_bind (compare_cmp v hi hv hh) (fun c hc => ?_))
    subst hc
    rw [if_neg e]
    refine tot_if (fun a => tot_some (by rw [if_pos a])) (fun a => tot_if (fun z => tot_if (fun y => tot_some (by rw [if_neg a, if_pos z, y])) (fun y => tot_some (by rw [if_neg a, if_pos z, Bool.eq_false_iff.2 y]))) (fun z => tot_some (by rw [if_neg a, if_neg z])))
  unfold span_holds.f
  rw [ts_toList]
  refine tot_if (fun e => tot_imp j (fun r hr => by rw [hr, if_pos e, Bool.true_and])) (fun e => tot_bind (compare_cmp v lo hv hl) (fun c hc => ?_))
  subst hc
  rw [if_neg e]
  refine tot_if (fun a => tot_some (by rw [if_pos a, Bool.false_and])) (fun a => tot_if (fun z => tot_if (fun y => tot_imp j (fun r hr => by rw [hr, if_neg a, if_pos z, y, Bool.true_and])) (fun y => tot_some (by rw [if_neg a, if_pos z, Bool.eq_false_iff.2 y, Bool.false_and]))) (fun z => tot_imp j (fun r hr => by rw [hr, if_neg a, if_neg z, Bool.true_and])))
def Mid (l : List S30) : Prop := ∀ s ∈ l, s.f0.size ≤ 100000 ∧ s.f1.size ≤ 100000
theorem rd_span (l : List S30) (i : Nat) (h : i < l.length) : rd_T30 l (i : Int) = l[i] := by
  unfold rd_T30
  rw [Int.toNat_natCast, List.getD_eq_getElem?_getD, List.getElem?_eq_getElem h]; rfl
theorem range_cmp (l : List S30) (v : List UInt8) (hm : Mid l) (hn : l.length ≤ 100000) (hv : v.length ≤ 100000) : Tot (fun k => span_Holds.f k l (ts v)) (fun r => r = rangeB l v) := by
  have loop : ∀ (d i : Nat), i + d = l.length → Tot (fun k => span_Holds.l0 k l (ts v) (i : Int)) (fun r => decide (r ≥ 0) = rangeB (l.drop i) v) := by
    intro d
    induction d with
    | zero =>
      intro i h
      refine tot_succ ?_ (fun k => by rw [span_Holds.l0])
      refine tot_if (fun g => by omega) (fun _ => tot_some ?_)
      rw [List.drop_eq_nil_of_le (by omega)]; rfl
    | succ d ihd =>
      intro i h
      have hi : i < l.length := by omega
      have sh := hm l[i] (List.getElem_mem hi)
      rw [ba_size, ba_size] at sh
      refine tot_succ ?_ (fun k => by rw [span_Holds.l0])
      refine tot_if (fun _ => tot_guard (by omega) ?_) (fun g => by omega)
      rw [rd_span l i hi, next_of i (by omega)]
      unfold span_Holds.one
      have e : rangeB (l.drop i) v = (holdsS l[i] v || rangeB (l.drop (i + 1)) v) := by
        rw [List.drop_eq_getElem_cons hi]; rfl
      refine tot_bind (holds_cmp l[i] v sh.1 sh.2 hv) (fun r hr => ?_)
      subst hr
      refine tot_if (fun h => tot_some ?_) (fun h => tot_imp (ihd (i + 1) (by omega)) (fun r hr => ?_))
      · rw [e, h, Bool.true_or, decide_eq_true (by omega)]
      · rw [hr, e, Bool.eq_false_iff.2 h, Bool.false_or]
  unfold span_Holds.f
  refine tot_bind (loop l.length 0 (by omega)) (fun r hr => tot_some ?_)
  rw [hr, List.drop_zero]
end Go.Proofs.YtgdjfcmmpjcaaaaGreatDoor.Pure
