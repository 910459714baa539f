/- Texts put together: what functions of the program compute, and plain words about them. -/
import Derived.Test.YtkoogebfdinbnaaLawElementStandsM1
import Derived.Test.YtkoogebfdinbnaaProg
import Derived.Lib.IndexMore
import Derived.Lib.Strings
import Derived.Below
import Derived.Deep.Draws
import Derived.Deep.AppendLies
import Derived.Maps.AppendAt
import Derived.OwnWalk
import Derived.Laws.BytesArg
import Derived.Laws.MakeOwn
import Derived.Laws.OwnMore
import Derived.Deep.OwnRows
import Derived.Tactics
import Derived.Lib.ConvBytes
import Derived.Laws.Slices
import Derived.WalkKit
import Derived.KernelRfl
import Derived.RowKit3
import Derived.Deep.LoopGhost
import Derived.Deep.QuietTactic
import Derived.BigQuiet
import Derived.WideLaws
import Derived.Deep.DeepCutAuto
import Derived.Deep.CutBlock
import Derived.Deep.RegionHeld3
import Derived.Laws.Rows
import Derived.Lib.AppendStr
import Derived.ArgAppend
import Derived.Laws.IdiomCopy
import Derived.OrdersHeld
import Derived.Laws.BitsLemmas
import Derived.RowKit
import Derived.Maps.OwnSet
import Derived.Deep.RegionLaw
import Derived.Lib.Hide
import Derived.StillTailTactics
import Derived.Outline
import Derived.Shelf.Strings.Builder1
import Derived.Shelf.Small.Strs
import Derived.Shelf.Small.Wraps
import Derived.Shelf.Strings.BuilderF
import Derived.Shelf.Strings.BuilderK
import Derived.Shelf.Strings.Search1
import Derived.Shelf.Strings.Search2
import Derived.Shelf.Strings.Search3
import Derived.Shelf.Strings.Cut
import Derived.Shelf.LaysM
import Derived.Shelf.Strings.Shaped
import Derived.Shelf.Strings.Prefix
import Derived.Shelf.Strings.BuilderCap
import Derived.Lib.Builder
import Derived.Lib.UnsafeStr
import Derived.Lib.Walk
import Derived.Laws.Externs
namespace Go.Proofs.Ytkoogebfdinbnaa.Q
open Go.RowKit Go.Proofs.YtkoogebfdinbnaaW.PrintWords Go.Proofs.YtkoogebfdinbnaaW.PrintLast Go.Proofs.YtkoogebfdinbnaaW.Own Go.Proofs.YtkoogebfdinbnaaW.PrintMore
attribute [local go_sem] max2_int min2_int max_two min_two max_three min_three max_four min_four   -- for this text's walks alone
set_option linter.unusedVariables false
set_option linter.unusedSimpArgs false
set_option maxHeartbeats 20000000
set_option maxRecDepth 100000
def newelref01_letter.f (a0 : Int) : Option (Bool) := if a0 ≥ 97 then (if a0 ≤ 122 then (some true) else (if a0 ≥ 65 then (if a0 ≤ 90 then (some true) else (some (a0 == 95))) else (some (a0 == 95)))) else (if a0 ≥ 65 then (if a0 ≤ 90 then (some true) else (some (a0 == 95))) else (some (a0 == 95)))
theorem newelref01_letter.calls (a0 : Int) (r : Bool) (w : World) (hG : Glob w) (h : newelref01_letter.f a0 = some r) :
 Calls Try.prog 25 #[.int .u8 a0] w fun e w' => e = .returned (.bool r) ∧ Drawn0 w w' := by
 have HG := Aside0.mk hG
 clear hG
 have H : (if a0 ≥ 97 then (if a0 ≤ 122 then (some true) else (if a0 ≥ 65 then (if a0 ≤ 90 then (some true) else (some (a0 == 95))) else (some (a0 == 95)))) else (if a0 ≥ 65 then (if a0 ≤ 90 then (some true) else (some (a0 == 95))) else (some (a0 == 95)))) = some r := h
 clear h
 by_cases c2 : a0 ≥ 97
 rotate_left
 ·rw [if_neg c2] at H
  have c2b0 := dF c2
  clear c2
  by_cases c6 : a0 ≥ 65
  rotate_left
  ·rw [if_neg c6] at H
   have c6b0 := dF c6
   clear c6
   obtain rfl := Option.some.inj H
   go_enter Try.func25, Try.ntmps25
   go_wp2
   go_ret
   exact ⟨by first | rfl | (simp; done) | (simp [*]; done), by repeat (first | exact Drawn0.refl _ | apply Drawn0.step)⟩
  rw [if_pos c6] at H
  have c6b0 := dT c6
  clear c6
  by_cases c7 : a0 ≤ 90
  rotate_left
  ·rw [if_neg c7] at H
   have c7b0 := dF c7
   clear c7
   obtain rfl := Option.some.inj H
   go_enter Try.func25, Try.ntmps25
   go_wp2
   go_ret
   exact ⟨by first | rfl | (simp; done) | (simp [*]; done), by repeat (first | exact Drawn0.refl _ | apply Drawn0.step)⟩
  rw [if_pos c7] at H
  have c7b0 := dT c7
  clear c7
  obtain rfl := Option.some.inj H
  go_enter Try.func25, Try.ntmps25
  go_wp2
  go_ret
  exact ⟨by first | rfl | (simp; done) | (simp [*]; done), by repeat (first | exact Drawn0.refl _ | apply Drawn0.step)⟩
 rw [if_pos c2] at H
 have c2b0 := dT c2
 clear c2
 by_cases c3 : a0 ≤ 122
 ·rw [if_pos c3] at H
  have c3b0 := dT c3
  clear c3
  obtain rfl := Option.some.inj H
  go_enter Try.func25, Try.ntmps25
  go_wp2
  go_ret
  exact ⟨by first | rfl | (simp; done) | (simp [*]; done), by repeat (first | exact Drawn0.refl _ | apply Drawn0.step)⟩
 rw [if_neg c3] at H
 have c3b0 := dF c3
 clear c3
 by_cases c4 : a0 ≥ 65
 rotate_left
 ·rw [if_neg c4] at H
  have c4b0 := dF c4
  clear c4
  obtain rfl := Option.some.inj H
  go_enter Try.func25, Try.ntmps25
  go_wp2
  go_ret
  exact ⟨by first | rfl | (simp; done) | (simp [*]; done), by repeat (first | exact Drawn0.refl _ | apply Drawn0.step)⟩
 rw [if_pos c4] at H
 have c4b0 := dT c4
 clear c4
 by_cases c5 : a0 ≤ 90
 rotate_left
 ·rw [if_neg c5] at H
  have c5b0 := dF c5
  clear c5
  obtain rfl := Option.some.inj H
  go_enter Try.func25, Try.ntmps25
  go_wp2
  go_ret
  exact ⟨by first | rfl | (simp; done) | (simp [*]; done), by repeat (first | exact Drawn0.refl _ | apply Drawn0.step)⟩
 rw [if_pos c5] at H
 have c5b0 := dT c5
 clear c5
 obtain rfl := Option.some.inj H
 go_enter Try.func25, Try.ntmps25
 go_wp2
 go_ret
 exact ⟨by first | rfl | (simp; done) | (simp [*]; done), by repeat (first | exact Drawn0.refl _ | apply Drawn0.step)⟩
def newelref01_Digit.f (a0 : Int) : Option (Bool) := if a0 ≥ 48 then (some (decide (a0 ≤ 57))) else (some false)
theorem newelref01_Digit.calls (a0 : Int) (r : Bool) (w : World) (hG : Glob w) (h : newelref01_Digit.f a0 = some r) :
 Calls Try.prog 41 #[.int .u8 a0] w fun e w' => e = .returned (.bool r) ∧ Drawn0 w w' := by
 have HG := Aside0.mk hG
 clear hG
 have H : (if a0 ≥ 48 then (some (decide (a0 ≤ 57))) else (some false)) = some r := h
 clear h
 by_cases c2 : a0 ≥ 48
 rotate_left
 ·rw [if_neg c2] at H
  have c2b0 := dF c2
  clear c2
  obtain rfl := Option.some.inj H
  go_enter Try.func41, Try.ntmps41
  go_wp2
  go_ret
  exact ⟨by first | rfl | (simp; done) | (simp [*]; done), by repeat (first | exact Drawn0.refl _ | apply Drawn0.step)⟩
 rw [if_pos c2] at H
 have c2b0 := dT c2
 clear c2
 obtain rfl := Option.some.inj H
 go_enter Try.func41, Try.ntmps41
 go_wp2
 go_ret
 exact ⟨by first | rfl | (simp; done) | (simp [*]; done), by repeat (first | exact Drawn0.refl _ | apply Drawn0.step)⟩
def newelref01_within.f (a0 : Int) : Option (Bool) := (newelref01_letter.f a0).bind fun t133 => (if t133 = true then (some true) else ((newelref01_Digit.f a0).bind fun t134 => (if t134 = true then (some true) else (if a0 = 45 then (some true) else (if a0 = 46 then (some true) else (some (a0 == 58)))))))
theorem newelref01_within.calls (a0 : Int) (r : Bool) (w : World) (hG : Glob w) (h : newelref01_within.f a0 = some r) :
 Calls Try.prog 26 #[.int .u8 a0] w fun e w' => e = .returned (.bool r) ∧ Drawn0 w w' := by
 have HG := Aside0.mk hG
 clear hG
 have H : ((newelref01_letter.f a0).bind fun t133 => (if t133 = true then (some true) else ((newelref01_Digit.f a0).bind fun t134 => (if t134 = true then (some true) else (if a0 = 45 then (some true) else (if a0 = 46 then (some true) else (some (a0 == 58)))))))) = some r := h
 clear h
 replace H := bi H
 obtain ⟨t133, A20, H⟩ := H
 try dsimp only at H
 have A2 := Aside0.mk A20
 clear A20
 by_cases c3 : t133 = true
 ·subst c3
  have H1 : (some true) = some r := by rw [if_pos rfl] at H; exact H
  clear H
  have H := H1
  clear H1
  obtain rfl := Option.some.inj H
  go_enter Try.func26, Try.ntmps26
  go_wp2_with (first | (refine gl (some 4) Try.func25 #[.int .u8 a0] ?_; (with_reducible refine (newelref01_letter.calls a0 true _ ?side1 A2.out).mono ?_); (case side1 => exact Glob.drawn HG.out (by repeat (first | exact Drawn0.refl _ | apply Drawn0.step))); rintro e w' ⟨rfl, ⟨nd, rfl⟩⟩; refine ⟨_, rfl, ?_⟩))
  go_ret
  exact ⟨by first | rfl | (simp; done) | (simp [*]; done), by repeat (first | exact Drawn0.refl _ | apply Drawn0.step)⟩
 replace c3 := Bool.eq_false_iff.mpr c3
 subst c3
 have H1 : ((newelref01_Digit.f a0).bind fun t134 => (if t134 = true then (some true) else (if a0 = 45 then (some true) else (if a0 = 46 then (some true) else (some (a0 == 58)))))) = some r := by rw [if_neg (show ¬ (false = true) by decide)] at H; exact H
 clear H
 have H := H1
 clear H1
 replace H := bi H
 obtain ⟨t134, A40, H⟩ := H
 try dsimp only at H
 have A4 := Aside0.mk A40
 clear A40
 by_cases c5 : t134 = true
 ·subst c5
  have H1 : (some true) = some r := by rw [if_pos rfl] at H; exact H
  clear H
  have H := H1
  clear H1
  obtain rfl := Option.some.inj H
  go_enter Try.func26, Try.ntmps26
  go_wp2_with (first | (refine gl (some 4) Try.func25 #[.int .u8 a0] ?_; (with_reducible refine (newelref01_letter.calls a0 false _ ?side1 A2.out).mono ?_); (case side1 => exact Glob.drawn HG.out (by repeat (first | exact Drawn0.refl _ | apply Drawn0.step))); rintro e w' ⟨rfl, ⟨nd, rfl⟩⟩; refine ⟨_, rfl, ?_⟩) | (go_at_call 41; (with_reducible refine (newelref01_Digit.calls a0 true _ ?side1 A4.out).mono ?_); (case side1 => exact Glob.drawn HG.out (by repeat (first | exact Drawn0.refl _ | apply Drawn0.step))); rintro e w' ⟨rfl, ⟨nd, rfl⟩⟩))
  go_ret
  exact ⟨by first | rfl | (simp; done) | (simp [*]; done), by repeat (first | exact Drawn0.refl _ | apply Drawn0.step)⟩
 replace c5 := Bool.eq_false_iff.mpr c5
 subst c5
 have H1 : (if a0 = 45 then (some true) else (if a0 = 46 then (some true) else (some (a0 == 58)))) = some r := by rw [if_neg (show ¬ (false = true) by decide)] at H; exact H
 clear H
 have H := H1
 clear H1
 by_cases c6 : a0 = 45
 ·rw [if_pos c6] at H
  obtain ⟨c6b0, c6b1⟩ := eqT c6
  clear c6
  obtain rfl := Option.some.inj H
  go_enter Try.func26, Try.ntmps26
  go_wp2_with (first | (refine gl (some 4) Try.func25 #[.int .u8 a0] ?_; (with_reducible refine (newelref01_letter.calls a0 false _ ?side1 A2.out).mono ?_); (case side1 => exact Glob.drawn HG.out (by repeat (first | exact Drawn0.refl _ | apply Drawn0.step))); rintro e w' ⟨rfl, ⟨nd, rfl⟩⟩; refine ⟨_, rfl, ?_⟩) | (go_at_call 41; (with_reducible refine (newelref01_Digit.calls a0 false _ ?side1 A4.out).mono ?_); (case side1 => exact Glob.drawn HG.out (by repeat (first | exact Drawn0.refl _ | apply Drawn0.step))); rintro e w' ⟨rfl, ⟨nd, rfl⟩⟩))
  go_ret
  exact ⟨by first | rfl | (simp; done) | (simp [*]; done), by repeat (first | exact Drawn0.refl _ | apply Drawn0.step)⟩
 rw [if_neg c6] at H
 obtain ⟨c6b0, c6b1⟩ := eqF c6
 by_cases c7 : a0 = 46
 rotate_left
 ·rw [if_neg c7] at H
  obtain ⟨c7b0, c7b1⟩ := eqF c7
  obtain rfl := Option.some.inj H
  go_enter Try.func26, Try.ntmps26
  go_wp2_with (first | (refine gl (some 4) Try.func25 #[.int .u8 a0] ?_; (with_reducible refine (newelref01_letter.calls a0 false _ ?side1 A2.out).mono ?_); (case side1 => exact Glob.drawn HG.out (by repeat (first | exact Drawn0.refl _ | apply Drawn0.step))); rintro e w' ⟨rfl, ⟨nd, rfl⟩⟩; refine ⟨_, rfl, ?_⟩) | (go_at_call 41; (with_reducible refine (newelref01_Digit.calls a0 false _ ?side1 A4.out).mono ?_); (case side1 => exact Glob.drawn HG.out (by repeat (first | exact Drawn0.refl _ | apply Drawn0.step))); rintro e w' ⟨rfl, ⟨nd, rfl⟩⟩))
  go_ret
  exact ⟨by first | rfl | (simp; done) | (simp [*]; done), by repeat (first | exact Drawn0.refl _ | apply Drawn0.step)⟩
 rw [if_pos c7] at H
 obtain ⟨c7b0, c7b1⟩ := eqT c7
 clear c7
 obtain rfl := Option.some.inj H
 go_enter Try.func26, Try.ntmps26
 go_wp2_with (first | (refine gl (some 4) Try.func25 #[.int .u8 a0] ?_; (with_reducible refine (newelref01_letter.calls a0 false _ ?side1 A2.out).mono ?_); (case side1 => exact Glob.drawn HG.out (by repeat (first | exact Drawn0.refl _ | apply Drawn0.step))); rintro e w' ⟨rfl, ⟨nd, rfl⟩⟩; refine ⟨_, rfl, ?_⟩) | (go_at_call 41; (with_reducible refine (newelref01_Digit.calls a0 false _ ?side1 A4.out).mono ?_); (case side1 => exact Glob.drawn HG.out (by repeat (first | exact Drawn0.refl _ | apply Drawn0.step))); rintro e w' ⟨rfl, ⟨nd, rfl⟩⟩))
 go_ret
 exact ⟨by first | rfl | (simp; done) | (simp [*]; done), by repeat (first | exact Drawn0.refl _ | apply Drawn0.step)⟩
mutual
def newelref01_Name.j0 : Nat → ByteArray → Bool → Option (Bool)
 | 0, _, _ => none
 | k + 1, x0, x12 => if x12 = true then (some false) else (newelref01_Name.l0 k x0 0)
def newelref01_Name.l0 : Nat → ByteArray → Int → Option (Bool)
 | 0, _, _ => none
 | k + 1, x0, x3 => if x3 < (x0.size : Int) then (if 0 ≤ x3 then ((newelref01_within.f (bt x0 x3)).bind fun t136 => (if t136 = true then (newelref01_Name.l0 k x0 (wrap64 (x3 + 1))) else (some false))) else (none)) else (some true)
end
def newelref01_Name.f (k : Nat) (a0 : ByteArray) : Option (Bool) := if (a0.size : Int) = 0 then (newelref01_Name.j0 k a0 true) else (if 0 < (a0.size : Int) then ((newelref01_letter.f (bt a0 0)).bind fun t135 => (newelref01_Name.j0 k a0 (!t135))) else (none))
theorem newelref01_Name.calls (k : Nat) (a0 : ByteArray) (r : Bool) (w : World) (hG : Glob w) (h : newelref01_Name.f k a0 = some r) :
 Calls Try.prog 15 #[.string a0] w fun e w' => e = .returned (.bool r) ∧ Drawn0 w w' := by
 have HG := Aside0.mk hG
 clear hG
 have H : (if (a0.size : Int) = 0 then (newelref01_Name.j0 k a0 true) else (if 0 < (a0.size : Int) then ((newelref01_letter.f (bt a0 0)).bind fun t135 => (newelref01_Name.j0 k a0 (!t135))) else (none))) = some r := h
 clear h
 have HC2 := Aside0.mk H
 clear H
 go_enter Try.func15, Try.ntmps15
 go_upto_region 1 with (fail)
 go_cut [12] (fun v12 wc => ∃ (kq : Nat) (x12_1 : Bool), v12 = .bool x12_1 ∧ Aside0 (newelref01_Name.j0 kq a0 x12_1 = some r) ∧ Aside0 (kq ≤ k) ∧ Drawn0 w wc)
 case first =>
  have H := HC2.out
  clear HC2
  by_cases c3 : (a0.size : Int) = 0
  ·rw [if_pos c3] at H
   obtain ⟨c3b0, c3b1⟩ := eqT c3
   clear c3
   (first | rw [c3b0] | (simp only [i64_w, i32_w]; rw [c3b0]) | skip)
   have H' := Aside0.mk H
   clear H
   go_wp2
   go_meet
   case rel => exact ⟨_, (true), cA, H', ⟨by first | omega | exact Nat.le_refl _⟩, by repeat (first | exact Drawn0.refl _ | apply Drawn0.step)⟩
  rw [if_neg c3] at H
  obtain ⟨c3b0, c3b1⟩ := eqF c3
  (first | rw [c3b0] | (simp only [i64_w, i32_w]; rw [c3b0]) | skip)
  by_cases c4 : 0 < (a0.size : Int)
  rotate_left
  ·rw [if_neg c4] at H
   exact absurd H (by simp)
  rw [if_pos c4] at H
  have c4b0 := dT c4
  have c4b1 : decide (0 < a0.size) = true := decide_eq_true (by omega)
  clear c4
  replace H := bi H
  obtain ⟨t135, A60, H⟩ := H
  try dsimp only at H
  have A6 := Aside0.mk A60
  clear A60
  have H' := Aside0.mk H
  clear H
  have p5 : 0 ≤ (0 : Int) := (by omega)
  have q5 : 0 < a0.size := (by have : (0 : Int) < (a0.size : Int) := dA; omega)
  have hx5 : ∀ h : 0 < a0.size, ((a0[0]'h).toNat : Int) = bt a0 0 := bt_at a0 0
  clear p5
  have qi5 : (0 < (a0.size : Int)) = True := eq_true (dA)
  replace q5 := eq_true q5
  go_wp2_with (first | (go_at_call 25; (with_reducible refine (newelref01_letter.calls (bt a0 0) t135 _ ?side1 A6.out).mono ?_); (case side1 => exact Glob.drawn HG.out (by repeat (first | exact Drawn0.refl _ | apply Drawn0.step))); rintro e w' ⟨rfl, ⟨nd, rfl⟩⟩))
  go_meet
  case rel => exact ⟨_, (!t135), cA, H', ⟨by first | omega | exact Nat.le_refl _⟩, by repeat (first | exact Drawn0.refl _ | apply Drawn0.step)⟩
 clear HC2
 try clear c1
 try clear p2
 try clear c3
 try clear c3b0
 try clear c3b1
 try clear c4
 try clear c4b0
 try clear c4b1
 try clear p5
 try clear q5
 try clear hx5
 try clear qi5
 try clear p5
 try clear q5
 obtain ⟨kq, x12_1, rfl, HA, HJ1, ⟨mc1, rfl⟩⟩ := hcut
 cases kq with
 | zero => exact absurd HA.out (by simp [newelref01_Name.j0])
 | succ kj1 =>
  have H := HA.out
  clear HA
  simp only [newelref01_Name.j0] at H
  by_cases c7 : x12_1 = true
  ·subst c7
   have H1 : (some false) = some r := by rw [if_pos rfl] at H; exact H
   clear H
   have H := H1
   clear H1
   obtain rfl := Option.some.inj H
   go_wp2
   go_ret
   exact ⟨by first | rfl | (simp; done) | (simp [*]; done), by repeat (first | exact Drawn0.refl _ | apply Drawn0.step)⟩
  replace c7 := Bool.eq_false_iff.mpr c7
  subst c7
  have H1 : (newelref01_Name.l0 kj1 a0 0) = some r := by rw [if_neg (show ¬ (false = true) by decide)] at H; exact H
  clear H
  have H := H1
  clear H1
  have H' := Aside0.mk H
  clear H
  go_wp2
  go_loopg [3] kj1 (fun kq v3 w' => ∃ (x3_2 : Int), v3 = .int .i64 x3_2 ∧ Aside0 (newelref01_Name.l0 kq a0 x3_2 = some r) ∧ Aside0 (kq ≤ kj1) ∧ Drawn0 w w')
  case atStart => exact ⟨(0), cA, H', ⟨Nat.le_refl _⟩, by repeat (first | exact Drawn0.refl _ | apply Drawn0.step)⟩
  clear H'
  try clear c1
  try clear p2
  try clear c3
  try clear c3b0
  try clear c3b1
  try clear c4
  try clear c4b0
  try clear c4b1
  try clear p5
  try clear q5
  try clear hx5
  try clear qi5
  try clear c7
  try clear p2
  try clear p5
  try clear q5
  obtain ⟨x3_2, rfl, HA, HK2, ⟨m2, rfl⟩⟩ := hrel
  cases gk with
  | zero => exact absurd HA.out (by simp [newelref01_Name.l0])
  | succ k2 =>
   have H := HA.out
   clear HA
   simp only [newelref01_Name.l0] at H
   by_cases c8 : x3_2 < (a0.size : Int)
   rotate_left
   ·rw [if_neg c8] at H
    have c8b0 := dF c8
    clear c8
    obtain rfl := Option.some.inj H
    go_wp2
    go_ret
    exact ⟨by first | rfl | (simp; done) | (simp [*]; done), by repeat (first | exact Drawn0.refl _ | apply Drawn0.step)⟩
   rw [if_pos c8] at H
   have c8b0 := dT c8
   clear c8
   by_cases c9 : 0 ≤ x3_2
   rotate_left
   ·rw [if_neg c9] at H
    exact absurd H (by simp)
   rw [if_pos c9] at H
   have c9b0 := dT c9
   clear c9
   replace H := bi H
   obtain ⟨t136, A110, H⟩ := H
   try dsimp only at H
   have A11 := Aside0.mk A110
   clear A110
   by_cases c12 : t136 = true
   rotate_left
   ·replace c12 := Bool.eq_false_iff.mpr c12
    subst c12
    have H1 : (some false) = some r := by rw [if_neg (show ¬ (false = true) by decide)] at H; exact H
    clear H
    have H := H1
    clear H1
    obtain rfl := Option.some.inj H
    have p10 : 0 ≤ (x3_2 : Int) := dA
    have q10 : x3_2 < (a0.size : Int) := dA
    have hx10 := bt_at a0 x3_2
    replace p10 := eq_true p10
    replace q10 := eq_true q10
    go_wp2_with (first | (refine gl (some 22) Try.func26 #[.int .u8 (bt a0 x3_2)] ?_; (with_reducible refine (newelref01_within.calls (bt a0 x3_2) false _ ?side1 A11.out).mono ?_); (case side1 => exact Glob.drawn HG.out (by repeat (first | exact Drawn0.refl _ | apply Drawn0.step))); rintro e w' ⟨rfl, ⟨nd, rfl⟩⟩; refine ⟨_, rfl, ?_⟩))
    go_ret
    exact ⟨by first | rfl | (simp; done) | (simp [*]; done), by repeat (first | exact Drawn0.refl _ | apply Drawn0.step)⟩
   subst c12
   have H1 : (newelref01_Name.l0 k2 a0 (wrap64 (x3_2 + 1))) = some r := by rw [if_pos rfl] at H; exact H
   clear H
   have H := H1
   clear H1
   have H' := Aside0.mk H
   clear H
   have p10 : 0 ≤ (x3_2 : Int) := dA
   have q10 : x3_2 < (a0.size : Int) := dA
   have hx10 := bt_at a0 x3_2
   replace p10 := eq_true p10
   replace q10 := eq_true q10
   go_wp2_with (first | (refine gl (some 22) Try.func26 #[.int .u8 (bt a0 x3_2)] ?_; (with_reducible refine (newelref01_within.calls (bt a0 x3_2) true _ ?side1 A11.out).mono ?_); (case side1 => exact Glob.drawn HG.out (by repeat (first | exact Drawn0.refl _ | apply Drawn0.step))); rintro e w' ⟨rfl, ⟨nd, rfl⟩⟩; refine ⟨_, rfl, ?_⟩))
   go_roundg k2
   case measure => have := HJ1.out; have := HK2.out; omega
   case rel => exact ⟨(wrap64 (x3_2 + 1)), cA, H', ⟨by have := HJ1.out; have := HK2.out; omega⟩, by repeat (first | exact Drawn0.refl _ | apply Drawn0.step)⟩
def newelref01_Space.f (a0 : Int) : Option (Bool) := if a0 = 9 then (some true) else (if a0 = 10 then (some true) else (if a0 = 13 then (some true) else (some (a0 == 32))))
theorem newelref01_Space.calls (a0 : Int) (r : Bool) (w : World) (hG : Glob w) (h : newelref01_Space.f a0 = some r) :
 Calls Try.prog 42 #[.int .u8 a0] w fun e w' => e = .returned (.bool r) ∧ Drawn0 w w' := by
 have HG := Aside0.mk hG
 clear hG
 have H : (if a0 = 9 then (some true) else (if a0 = 10 then (some true) else (if a0 = 13 then (some true) else (some (a0 == 32))))) = some r := h
 clear h
 by_cases c2 : a0 = 9
 ·rw [if_pos c2] at H
  obtain ⟨c2b0, c2b1⟩ := eqT c2
  clear c2
  obtain rfl := Option.some.inj H
  go_enter Try.func42, Try.ntmps42
  go_wp2
  go_ret
  exact ⟨by first | rfl | (simp; done) | (simp [*]; done), by repeat (first | exact Drawn0.refl _ | apply Drawn0.step)⟩
 rw [if_neg c2] at H
 obtain ⟨c2b0, c2b1⟩ := eqF c2
 by_cases c3 : a0 = 10
 ·rw [if_pos c3] at H
  obtain ⟨c3b0, c3b1⟩ := eqT c3
  clear c3
  obtain rfl := Option.some.inj H
  go_enter Try.func42, Try.ntmps42
  go_wp2
  go_ret
  exact ⟨by first | rfl | (simp; done) | (simp [*]; done), by repeat (first | exact Drawn0.refl _ | apply Drawn0.step)⟩
 rw [if_neg c3] at H
 obtain ⟨c3b0, c3b1⟩ := eqF c3
 by_cases c4 : a0 = 13
 rotate_left
 ·rw [if_neg c4] at H
  obtain ⟨c4b0, c4b1⟩ := eqF c4
  obtain rfl := Option.some.inj H
  go_enter Try.func42, Try.ntmps42
  go_wp2
  go_ret
  exact ⟨by first | rfl | (simp; done) | (simp [*]; done), by repeat (first | exact Drawn0.refl _ | apply Drawn0.step)⟩
 rw [if_pos c4] at H
 obtain ⟨c4b0, c4b1⟩ := eqT c4
 clear c4
 obtain rfl := Option.some.inj H
 go_enter Try.func42, Try.ntmps42
 go_wp2
 go_ret
 exact ⟨by first | rfl | (simp; done) | (simp [*]; done), by repeat (first | exact Drawn0.refl _ | apply Drawn0.step)⟩
def newelref01_Allowed.f (a0 : Int) : Option (Bool) := (newelref01_Space.f a0).bind fun t137 => (if t137 = true then (some true) else (some (decide (a0 > 32))))
theorem newelref01_Allowed.calls (a0 : Int) (r : Bool) (w : World) (hG : Glob w) (h : newelref01_Allowed.f a0 = some r) :
 Calls Try.prog 27 #[.int .u8 a0] w fun e w' => e = .returned (.bool r) ∧ Drawn0 w w' := by
 have HG := Aside0.mk hG
 clear hG
 have H : ((newelref01_Space.f a0).bind fun t137 => (if t137 = true then (some true) else (some (decide (a0 > 32))))) = some r := h
 clear h
 replace H := bi H
 obtain ⟨t137, A20, H⟩ := H
 try dsimp only at H
 have A2 := Aside0.mk A20
 clear A20
 by_cases c3 : t137 = true
 ·subst c3
  have H1 : (some true) = some r := by rw [if_pos rfl] at H; exact H
  clear H
  have H := H1
  clear H1
  obtain rfl := Option.some.inj H
  go_enter Try.func27, Try.ntmps27
  go_wp2_with (first | (refine gl (some 4) Try.func42 #[.int .u8 a0] ?_; (with_reducible refine (newelref01_Space.calls a0 true _ ?side1 A2.out).mono ?_); (case side1 => exact Glob.drawn HG.out (by repeat (first | exact Drawn0.refl _ | apply Drawn0.step))); rintro e w' ⟨rfl, ⟨nd, rfl⟩⟩; refine ⟨_, rfl, ?_⟩))
  go_ret
  exact ⟨by first | rfl | (simp; done) | (simp [*]; done), by repeat (first | exact Drawn0.refl _ | apply Drawn0.step)⟩
 replace c3 := Bool.eq_false_iff.mpr c3
 subst c3
 have H1 : (some (decide (a0 > 32))) = some r := by rw [if_neg (show ¬ (false = true) by decide)] at H; exact H
 clear H
 have H := H1
 clear H1
 obtain rfl := Option.some.inj H
 go_enter Try.func27, Try.ntmps27
 go_wp2_with (first | (refine gl (some 4) Try.func42 #[.int .u8 a0] ?_; (with_reducible refine (newelref01_Space.calls a0 false _ ?side1 A2.out).mono ?_); (case side1 => exact Glob.drawn HG.out (by repeat (first | exact Drawn0.refl _ | apply Drawn0.step))); rintro e w' ⟨rfl, ⟨nd, rfl⟩⟩; refine ⟨_, rfl, ?_⟩))
 go_ret
 exact ⟨by first | rfl | (simp; done) | (simp [*]; done), by repeat (first | exact Drawn0.refl _ | apply Drawn0.step)⟩
def newelref01_all.l0 : Nat → ByteArray → Int → Option (Bool)
 | 0, _, _ => none
 | k + 1, x0, x3 => if x3 < (x0.size : Int) then (if 0 ≤ x3 then ((newelref01_Allowed.f (bt x0 x3)).bind fun t138 => (if t138 = true then (newelref01_all.l0 k x0 (wrap64 (x3 + 1))) else (some false))) else (none)) else (some true)
def newelref01_all.f (k : Nat) (a0 : ByteArray) : Option (Bool) := newelref01_all.l0 k a0 0
theorem newelref01_all.calls (k : Nat) (a0 : ByteArray) (r : Bool) (w : World) (hG : Glob w) (h : newelref01_all.f k a0 = some r) :
 Calls Try.prog 17 #[.string a0] w fun e w' => e = .returned (.bool r) ∧ Drawn0 w w' := by
 have HG := Aside0.mk hG
 clear hG
 have H : (newelref01_all.l0 k a0 0) = some r := h
 clear h
 have H' := Aside0.mk H
 clear H
 go_enter Try.func17, Try.ntmps17
 go_wp2
 go_loopg [3] k (fun kq v3 w' => ∃ (x3_1 : Int), v3 = .int .i64 x3_1 ∧ Aside0 (newelref01_all.l0 kq a0 x3_1 = some r) ∧ Aside0 (kq ≤ k) ∧ Drawn0 w w')
 case atStart => exact ⟨(0), cA, H', ⟨Nat.le_refl _⟩, by repeat (first | exact Drawn0.refl _ | apply Drawn0.step)⟩
 clear H'
 try clear c1
 obtain ⟨x3_1, rfl, HA, HK1, ⟨m1, rfl⟩⟩ := hrel
 cases gk with
 | zero => exact absurd HA.out (by simp [newelref01_all.l0])
 | succ k1 =>
  have H := HA.out
  clear HA
  simp only [newelref01_all.l0] at H
  by_cases c2 : x3_1 < (a0.size : Int)
  rotate_left
  ·rw [if_neg c2] at H
   have c2b0 := dF c2
   clear c2
   obtain rfl := Option.some.inj H
   go_wp2
   go_ret
   exact ⟨by first | rfl | (simp; done) | (simp [*]; done), by repeat (first | exact Drawn0.refl _ | apply Drawn0.step)⟩
  rw [if_pos c2] at H
  have c2b0 := dT c2
  clear c2
  by_cases c3 : 0 ≤ x3_1
  rotate_left
  ·rw [if_neg c3] at H
   exact absurd H (by simp)
  rw [if_pos c3] at H
  have c3b0 := dT c3
  clear c3
  replace H := bi H
  obtain ⟨t138, A50, H⟩ := H
  try dsimp only at H
  have A5 := Aside0.mk A50
  clear A50
  by_cases c6 : t138 = true
  rotate_left
  ·replace c6 := Bool.eq_false_iff.mpr c6
   subst c6
   have H1 : (some false) = some r := by rw [if_neg (show ¬ (false = true) by decide)] at H; exact H
   clear H
   have H := H1
   clear H1
   obtain rfl := Option.some.inj H
   have p4 : 0 ≤ (x3_1 : Int) := dA
   have q4 : x3_1 < (a0.size : Int) := dA
   have hx4 := bt_at a0 x3_1
   replace p4 := eq_true p4
   replace q4 := eq_true q4
   go_wp2_with (first | (refine gl (some 13) Try.func27 #[.int .u8 (bt a0 x3_1)] ?_; (with_reducible refine (newelref01_Allowed.calls (bt a0 x3_1) false _ ?side1 A5.out).mono ?_); (case side1 => exact Glob.drawn HG.out (by repeat (first | exact Drawn0.refl _ | apply Drawn0.step))); rintro e w' ⟨rfl, ⟨nd, rfl⟩⟩; refine ⟨_, rfl, ?_⟩))
   go_ret
   exact ⟨by first | rfl | (simp; done) | (simp [*]; done), by repeat (first | exact Drawn0.refl _ | apply Drawn0.step)⟩
  subst c6
  have H1 : (newelref01_all.l0 k1 a0 (wrap64 (x3_1 + 1))) = some r := by rw [if_pos rfl] at H; exact H
  clear H
  have H := H1
  clear H1
  have H' := Aside0.mk H
  clear H
  have p4 : 0 ≤ (x3_1 : Int) := dA
  have q4 : x3_1 < (a0.size : Int) := dA
  have hx4 := bt_at a0 x3_1
  replace p4 := eq_true p4
  replace q4 := eq_true q4
  go_wp2_with (first | (refine gl (some 13) Try.func27 #[.int .u8 (bt a0 x3_1)] ?_; (with_reducible refine (newelref01_Allowed.calls (bt a0 x3_1) true _ ?side1 A5.out).mono ?_); (case side1 => exact Glob.drawn HG.out (by repeat (first | exact Drawn0.refl _ | apply Drawn0.step))); rintro e w' ⟨rfl, ⟨nd, rfl⟩⟩; refine ⟨_, rfl, ?_⟩))
  go_roundg k1
  case measure => have := HK1.out; omega
  case rel => exact ⟨(wrap64 (x3_1 + 1)), cA, H', ⟨by have := HK1.out; omega⟩, by repeat (first | exact Drawn0.refl _ | apply Drawn0.step)⟩
mutual
def newelref01_attrs.l0 : Nat → List (S68) → Int → Option (Bool)
 | 0, _, _ => none
 | k + 1, x0, x3 => if x3 < (x0.length : Int) then (if 0 ≤ x3 then ((newelref01_Name.f k ((rd_T68 x0 x3).f0)).bind fun t140 => (if t140 = true then ((newelref01_all.f k ((rd_T68 x0 x3).f1)).bind fun t142 => (newelref01_attrs.j1 k x0 x3 (!t142))) else (newelref01_attrs.j1 k x0 x3 true))) else (none)) else (some true)
def newelref01_attrs.j1 : Nat → List (S68) → Int → Bool → Option (Bool)
 | 0, _, _, _ => none
 | k + 1, x0, x3, x26 => if x26 = true then (some false) else (newelref01_attrs.l1 k x0 x3 0)
def newelref01_attrs.l1 : Nat → List (S68) → Int → Int → Option (Bool)
 | 0, _, _, _ => none
 | k + 1, x0, x3, x4 => if x4 < x3 then (if 0 ≤ x4 then (if x4 < (x0.length : Int) then (if 0 ≤ x3 then (if x3 < (x0.length : Int) then (if ((rd_T68 x0 x4).f0).toList = ((rd_T68 x0 x3).f0).toList then (some false) else (newelref01_attrs.l1 k x0 x3 (wrap64 (x4 + 1)))) else (none)) else (none)) else (none)) else (none)) else (newelref01_attrs.l0 k x0 (wrap64 (x3 + 1)))
end
def newelref01_attrs.f (k : Nat) (l0 : List (S68)) : Option (Bool) := newelref01_attrs.l0 k l0 0
theorem newelref01_attrs.calls (k : Nat) (A0 : Option Addr) (c0 : Nat) (l0 : List (S68)) (r : Bool) (w : World) (hr0 : Kd.C k68 w A0 l0.length l0) (hc0 : l0.length ≤ c0) (hG : Glob w) (h : newelref01_attrs.f k l0 = some r) :
 Calls Try.prog 16 #[.slice A0 l0.length c0] w fun e w' => e = .returned (.bool r) ∧ Drawn0 w w' := by
 have HG := Aside0.mk hG
 clear hG
 have HR0 := Aside0.mk hr0
 have HC0 := Aside0.mk hc0
 clear hr0 hc0
 have H : (newelref01_attrs.l0 k l0 0) = some r := h
 clear h
 have H' := Aside0.mk H
 clear H
 go_enter Try.func16, Try.ntmps16
 go_wp2
 repeat (go_quiet (fail); try go_wp2)
 go_loopg [3] k (fun kq v3 w' => ∃ (x3_1 : Int), v3 = .int .i64 x3_1 ∧ Aside0 (newelref01_attrs.l0 kq l0 x3_1 = some r) ∧ Aside0 (kq ≤ k) ∧ Drawn0 w w')
 case atStart => exact ⟨(0), cA, H', ⟨Nat.le_refl _⟩, by repeat (first | exact Drawn0.refl _ | apply Drawn0.step)⟩
 clear H'
 try clear c1
 obtain ⟨x3_1, rfl, HA, HK1, ⟨m1, rfl⟩⟩ := hrel
 cases gk with
 | zero => exact absurd HA.out (by simp [newelref01_attrs.l0])
 | succ k1 =>
  have H := HA.out
  clear HA
  simp only [newelref01_attrs.l0] at H
  by_cases c2 : x3_1 < (l0.length : Int)
  rotate_left
  ·rw [if_neg c2] at H
   have c2b0 := dF c2
   clear c2
   obtain rfl := Option.some.inj H
   go_wp2
   repeat (go_quiet (fail); try go_wp2)
   go_ret
   exact ⟨by first | rfl | (simp; done) | (simp [*]; done), by repeat (first | exact Drawn0.refl _ | apply Drawn0.step)⟩
  rw [if_pos c2] at H
  have c2b0 := dT c2
  clear c2
  have HC3 := Aside0.mk H
  clear H
  go_upto_region 4 with (fail)
  repeat (go_quiet (fail); go_upto_region 4 with (fail))
  go_cut [26] (fun v26 wc => ∃ (kq : Nat) (x26_2 : Bool), v26 = .bool x26_2 ∧ Aside0 (newelref01_attrs.j1 kq l0 x3_1 x26_2 = some r) ∧ Aside0 (kq ≤ k1) ∧ Drawn0 w wc)
  case first =>
   have H := HC3.out
   clear HC3
   by_cases c4 : 0 ≤ x3_1
   rotate_left
   ·rw [if_neg c4] at H
    exact absurd H (by simp)
   rw [if_pos c4] at H
   have c4b0 := dT c4
   clear c4
   (first | rw [c4b0] | (simp only [i64_w, i32_w]; rw [c4b0]) | skip)
   replace H := bi H
   obtain ⟨t140, A50, H⟩ := H
   try dsimp only at H
   have A5 := Aside0.mk A50
   clear A50
   by_cases c6 : t140 = true
   rotate_left
   ·replace c6 := Bool.eq_false_iff.mpr c6
    subst c6
    have H1 : (newelref01_attrs.j1 k1 l0 x3_1 true) = some r := by rw [if_neg (show ¬ (false = true) by decide)] at H; exact H
    clear H
    have H := H1
    clear H1
    have H' := Aside0.mk H
    clear H
    have p139 : 0 ≤ (x3_1 : Int) := dA
    have q139 : x3_1 < (l0.length : Int) := dA
    obtain ⟨ad139, e139, hx139_0, hx139_1⟩ := at_T68 HR0.out x3_1 p139 q139
    cases e139
    replace p139 := eq_true p139
    replace q139 := eq_true q139
    go_wp2_with (first | (go_at_call 15; (with_reducible refine (newelref01_Name.calls k1 ((rd_T68 l0 x3_1).f0) false _ ?side1 A5.out).mono ?_); (case side1 => exact Glob.drawn HG.out (by repeat (first | exact Drawn0.refl _ | apply Drawn0.step))); rintro e w' ⟨rfl, ⟨nd, rfl⟩⟩; (try first | exact ⟨rfl, _, World.drewN_drewN _ _ _⟩ | exact ⟨rfl, _, Eq.trans (World.drewN_drewN _ _ _) (congrArg (World.drewN _) (Nat.add_assoc _ _ _))⟩)))
    repeat (go_quiet (first | (go_at_call 15; (with_reducible refine (newelref01_Name.calls k1 ((rd_T68 l0 x3_1).f0) false _ ?side1 A5.out).mono ?_); (case side1 => exact Glob.drawn HG.out (by repeat (first | exact Drawn0.refl _ | apply Drawn0.step))); rintro e w' ⟨rfl, ⟨nd, rfl⟩⟩; (try first | exact ⟨rfl, _, World.drewN_drewN _ _ _⟩ | exact ⟨rfl, _, Eq.trans (World.drewN_drewN _ _ _) (congrArg (World.drewN _) (Nat.add_assoc _ _ _))⟩))); try go_wp2_with (first | (go_at_call 15; (with_reducible refine (newelref01_Name.calls k1 ((rd_T68 l0 x3_1).f0) false _ ?side1 A5.out).mono ?_); (case side1 => exact Glob.drawn HG.out (by repeat (first | exact Drawn0.refl _ | apply Drawn0.step))); rintro e w' ⟨rfl, ⟨nd, rfl⟩⟩; (try first | exact ⟨rfl, _, World.drewN_drewN _ _ _⟩ | exact ⟨rfl, _, Eq.trans (World.drewN_drewN _ _ _) (congrArg (World.drewN _) (Nat.add_assoc _ _ _))⟩))))
    go_meet
    case rel => exact ⟨_, (true), cA, H', ⟨by have := HK1.out; first | omega | exact Nat.le_refl _⟩, by repeat (first | exact Drawn0.refl _ | apply Drawn0.step)⟩
   subst c6
   have H1 : ((newelref01_all.f k1 ((rd_T68 l0 x3_1).f1)).bind fun t142 => (newelref01_attrs.j1 k1 l0 x3_1 (!t142))) = some r := by rw [if_pos rfl] at H; exact H
   clear H
   have H := H1
   clear H1
   replace H := bi H
   obtain ⟨t142, A70, H⟩ := H
   try dsimp only at H
   have A7 := Aside0.mk A70
   clear A70
   have H' := Aside0.mk H
   clear H
   have p139 : 0 ≤ (x3_1 : Int) := dA
   have q139 : x3_1 < (l0.length : Int) := dA
   obtain ⟨ad139, e139, hx139_0, hx139_1⟩ := at_T68 HR0.out x3_1 p139 q139
   cases e139
   replace p139 := eq_true p139
   replace q139 := eq_true q139
   go_wp2_with (first | (go_at_call 15; (with_reducible refine (newelref01_Name.calls k1 ((rd_T68 l0 x3_1).f0) true _ ?side1 A5.out).mono ?_); (case side1 => exact Glob.drawn HG.out (by repeat (first | exact Drawn0.refl _ | apply Drawn0.step))); rintro e w' ⟨rfl, ⟨nd, rfl⟩⟩; (try first | exact ⟨rfl, _, World.drewN_drewN _ _ _⟩ | exact ⟨rfl, _, Eq.trans (World.drewN_drewN _ _ _) (congrArg (World.drewN _) (Nat.add_assoc _ _ _))⟩); have p141 : 0 ≤ (x3_1 : Int) := dA; have q141 : x3_1 < (l0.length : Int) := dA; obtain ⟨ad141, e141, hx141_0, hx141_1⟩ := at_T68 HR0.out x3_1 p141 q141; obtain rfl : ad139 = ad141 := (by injection e141); replace p141 := eq_true p141; replace q141 := eq_true q141) | (go_at_call 17; (with_reducible refine (newelref01_all.calls k1 ((rd_T68 l0 x3_1).f1) t142 _ ?side1 A7.out).mono ?_); (case side1 => exact Glob.drawn HG.out (by repeat (first | exact Drawn0.refl _ | apply Drawn0.step))); rintro e w' ⟨rfl, ⟨nd, rfl⟩⟩; (try first | exact ⟨rfl, _, World.drewN_drewN _ _ _⟩ | exact ⟨rfl, _, Eq.trans (World.drewN_drewN _ _ _) (congrArg (World.drewN _) (Nat.add_assoc _ _ _))⟩)))
   repeat (go_quiet (first | (go_at_call 15; (with_reducible refine (newelref01_Name.calls k1 ((rd_T68 l0 x3_1).f0) true _ ?side1 A5.out).mono ?_); (case side1 => exact Glob.drawn HG.out (by repeat (first | exact Drawn0.refl _ | apply Drawn0.step))); rintro e w' ⟨rfl, ⟨nd, rfl⟩⟩; (try first | exact ⟨rfl, _, World.drewN_drewN _ _ _⟩ | exact ⟨rfl, _, Eq.trans (World.drewN_drewN _ _ _) (congrArg (World.drewN _) (Nat.add_assoc _ _ _))⟩); have p141 : 0 ≤ (x3_1 : Int) := dA; have q141 : x3_1 < (l0.length : Int) := dA; obtain ⟨ad141, e141, hx141_0, hx141_1⟩ := at_T68 HR0.out x3_1 p141 q141; obtain rfl : ad139 = ad141 := (by injection e141); replace p141 := eq_true p141; replace q141 := eq_true q141) | (go_at_call 17; (with_reducible refine (newelref01_all.calls k1 ((rd_T68 l0 x3_1).f1) t142 _ ?side1 A7.out).mono ?_); (case side1 => exact Glob.drawn HG.out (by repeat (first | exact Drawn0.refl _ | apply Drawn0.step))); rintro e w' ⟨rfl, ⟨nd, rfl⟩⟩; (try first | exact ⟨rfl, _, World.drewN_drewN _ _ _⟩ | exact ⟨rfl, _, Eq.trans (World.drewN_drewN _ _ _) (congrArg (World.drewN _) (Nat.add_assoc _ _ _))⟩))); try go_wp2_with (first | (go_at_call 15; (with_reducible refine (newelref01_Name.calls k1 ((rd_T68 l0 x3_1).f0) true _ ?side1 A5.out).mono ?_); (case side1 => exact Glob.drawn HG.out (by repeat (first | exact Drawn0.refl _ | apply Drawn0.step))); rintro e w' ⟨rfl, ⟨nd, rfl⟩⟩; (try first | exact ⟨rfl, _, World.drewN_drewN _ _ _⟩ | exact ⟨rfl, _, Eq.trans (World.drewN_drewN _ _ _) (congrArg (World.drewN _) (Nat.add_assoc _ _ _))⟩); have p141 : 0 ≤ (x3_1 : Int) := dA; have q141 : x3_1 < (l0.length : Int) := dA; obtain ⟨ad141, e141, hx141_0, hx141_1⟩ := at_T68 HR0.out x3_1 p141 q141; obtain rfl : ad139 = ad141 := (by injection e141); replace p141 := eq_true p141; replace q141 := eq_true q141) | (go_at_call 17; (with_reducible refine (newelref01_all.calls k1 ((rd_T68 l0 x3_1).f1) t142 _ ?side1 A7.out).mono ?_); (case side1 => exact Glob.drawn HG.out (by repeat (first | exact Drawn0.refl _ | apply Drawn0.step))); rintro e w' ⟨rfl, ⟨nd, rfl⟩⟩; (try first | exact ⟨rfl, _, World.drewN_drewN _ _ _⟩ | exact ⟨rfl, _, Eq.trans (World.drewN_drewN _ _ _) (congrArg (World.drewN _) (Nat.add_assoc _ _ _))⟩))))
   go_meet
   case rel => exact ⟨_, (!t142), cA, H', ⟨by have := HK1.out; first | omega | exact Nat.le_refl _⟩, by repeat (first | exact Drawn0.refl _ | apply Drawn0.step)⟩
  clear HC3
  try clear c1
  try clear p1
  try clear q1
  try clear hx1
  try clear c2
  try clear c2b0
  try clear p2
  try clear c4
  try clear c4b0
  try clear c6
  try clear hx139_0
  try clear hx139_1
  try clear hx141_0
  try clear hx141_1
  try clear p139
  try clear p141
  try clear q139
  try clear q141
  obtain ⟨kq, x26_2, rfl, HA, HJ2, ⟨mc2, rfl⟩⟩ := hcut
  cases kq with
  | zero => exact absurd HA.out (by simp [newelref01_attrs.j1])
  | succ kj2 =>
   have H := HA.out
   clear HA
   simp only [newelref01_attrs.j1] at H
   by_cases c8 : x26_2 = true
   ·subst c8
    have H1 : (some false) = some r := by rw [if_pos rfl] at H; exact H
    clear H
    have H := H1
    clear H1
    obtain rfl := Option.some.inj H
    go_wp2
    repeat (go_quiet (fail); try go_wp2)
    go_ret
    exact ⟨by first | rfl | (simp; done) | (simp [*]; done), by repeat (first | exact Drawn0.refl _ | apply Drawn0.step)⟩
   replace c8 := Bool.eq_false_iff.mpr c8
   subst c8
   have H1 : (newelref01_attrs.l1 kj2 l0 x3_1 0) = some r := by rw [if_neg (show ¬ (false = true) by decide)] at H; exact H
   clear H
   have H := H1
   clear H1
   have H' := Aside0.mk H
   clear H
   go_wp2
   repeat (go_quiet (fail); try go_wp2)
   go_loopg [4] kj2 (fun kq v4 w' => ∃ (x4_3 : Int), v4 = .int .i64 x4_3 ∧ Aside0 (newelref01_attrs.l1 kq l0 x3_1 x4_3 = some r) ∧ Aside0 (kq ≤ kj2) ∧ Drawn0 w w')
   case atStart => exact ⟨(0), cA, H', ⟨Nat.le_refl _⟩, by repeat (first | exact Drawn0.refl _ | apply Drawn0.step)⟩
   clear H'
   try clear c1
   try clear p1
   try clear q1
   try clear hx1
   try clear c2
   try clear c2b0
   try clear p2
   try clear c4
   try clear c4b0
   try clear c6
   try clear c8
   try clear hx139_0
   try clear hx139_1
   try clear hx141_0
   try clear hx141_1
   try clear p1
   try clear p139
   try clear p141
   try clear p2
   try clear q1
   try clear q139
   try clear q141
   obtain ⟨x4_3, rfl, HA, HK3, ⟨m3, rfl⟩⟩ := hrel
   cases gk with
   | zero => exact absurd HA.out (by simp [newelref01_attrs.l1])
   | succ k3 =>
    have H := HA.out
    clear HA
    simp only [newelref01_attrs.l1] at H
    by_cases c9 : x4_3 < x3_1
    rotate_left
    ·rw [if_neg c9] at H
     have c9b0 := dF c9
     clear c9
     have H' := Aside0.mk H
     clear H
     go_wp2
     repeat (go_quiet (fail); try go_wp2)
     go_roundg k3
     case measure => have := HK1.out; have := HJ2.out; have := HK3.out; omega
     case rel => exact ⟨(wrap64 (x3_1 + 1)), cA, H', ⟨by have := HK1.out; have := HJ2.out; have := HK3.out; omega⟩, by repeat (first | exact Drawn0.refl _ | apply Drawn0.step)⟩
    rw [if_pos c9] at H
    have c9b0 := dT c9
    clear c9
    by_cases c10 : 0 ≤ x4_3
    rotate_left
    ·rw [if_neg c10] at H
     exact absurd H (by simp)
    rw [if_pos c10] at H
    have c10b0 := dT c10
    clear c10
    by_cases c11 : x4_3 < (l0.length : Int)
    rotate_left
    ·rw [if_neg c11] at H
     exact absurd H (by simp)
    rw [if_pos c11] at H
    have c11b0 := dT c11
    clear c11
    by_cases c12 : 0 ≤ x3_1
    rotate_left
    ·rw [if_neg c12] at H
     exact absurd H (by simp)
    rw [if_pos c12] at H
    have c12b0 := dT c12
    clear c12
    by_cases c13 : x3_1 < (l0.length : Int)
    rotate_left
    ·rw [if_neg c13] at H
     exact absurd H (by simp)
    rw [if_pos c13] at H
    have c13b0 := dT c13
    clear c13
    by_cases c14 : ((rd_T68 l0 x4_3).f0).toList = ((rd_T68 l0 x3_1).f0).toList
    ·rw [if_pos c14] at H
     obtain ⟨c14b0, c14b1⟩ := eqT c14
     clear c14
     obtain rfl := Option.some.inj H
     have p143 : 0 ≤ (x4_3 : Int) := dA
     have q143 : x4_3 < (l0.length : Int) := dA
     obtain ⟨ad143, e143, hx143_0, hx143_1⟩ := at_T68 HR0.out x4_3 p143 q143
     cases e143
     replace p143 := eq_true p143
     replace q143 := eq_true q143
     have p144 : 0 ≤ (x3_1 : Int) := dA
     have q144 : x3_1 < (l0.length : Int) := dA
     obtain ⟨ad144, e144, hx144_0, hx144_1⟩ := at_T68 HR0.out x3_1 p144 q144
     obtain rfl : ad143 = ad144 := (by injection e144)
     replace p144 := eq_true p144
     replace q144 := eq_true q144
     go_wp2
     repeat (go_quiet (fail); try go_wp2)
     go_ret
     exact ⟨by first | rfl | (simp; done) | (simp [*]; done), by repeat (first | exact Drawn0.refl _ | apply Drawn0.step)⟩
    rw [if_neg c14] at H
    obtain ⟨c14b0, c14b1⟩ := eqF c14
    have H' := Aside0.mk H
    clear H
    have p143 : 0 ≤ (x4_3 : Int) := dA
    have q143 : x4_3 < (l0.length : Int) := dA
    obtain ⟨ad143, e143, hx143_0, hx143_1⟩ := at_T68 HR0.out x4_3 p143 q143
    cases e143
    replace p143 := eq_true p143
    replace q143 := eq_true q143
    have p144 : 0 ≤ (x3_1 : Int) := dA
    have q144 : x3_1 < (l0.length : Int) := dA
    obtain ⟨ad144, e144, hx144_0, hx144_1⟩ := at_T68 HR0.out x3_1 p144 q144
    obtain rfl : ad143 = ad144 := (by injection e144)
    replace p144 := eq_true p144
    replace q144 := eq_true q144
    go_wp2
    repeat (go_quiet (fail); try go_wp2)
    go_roundg k3
    case measure => have := HK1.out; have := HJ2.out; have := HK3.out; omega
    case rel => exact ⟨(wrap64 (x4_3 + 1)), cA, H', ⟨by have := HK1.out; have := HJ2.out; have := HK3.out; omega⟩, by repeat (first | exact Drawn0.refl _ | apply Drawn0.step)⟩
mutual
def newelref01_Right.j0 : Nat → List (S29) → Bool → Option (Bool)
 | 0, _, _ => none
 | k + 1, x0, x28 => if x28 = true then (some false) else (newelref01_Right.l0 k x0 ([] : List Int) 0)
def newelref01_Right.l0 : Nat → List (S29) → List Int → Int → Option (Bool)
 | 0, _, _, _ => none
 | k + 1, x0, x3, x4 => if x4 < (x0.length : Int) then (if 0 ≤ x4 then (newelref01_Right.l1 k x0 x3 x4 ((rd_T29 x0 x4).f0) ((rd_T29 x0 x4).f1) ((rd_T29 x0 x4).f2) ((rd_T29 x0 x4).f3)) else (none)) else (some true)
def newelref01_Right.j3 : Nat → List (S29) → List Int → Int → Int → ByteArray → ByteArray → List (S68) → Option (Bool)
 | 0, _, _, _, _, _, _, _ => none
 | k + 1, x0, x3, x4, x149000, x149001, x149002, x149003 => if x4 > 0 then (newelref01_Right.j4 k x0 x3 x4 ((x3.length : Int) == 0) x149000 x149001 x149002 x149003) else (newelref01_Right.j4 k x0 x3 x4 false x149000 x149001 x149002 x149003)
def newelref01_Right.j4 : Nat → List (S29) → List Int → Int → Bool → Int → ByteArray → ByteArray → List (S68) → Option (Bool)
 | 0, _, _, _, _, _, _, _, _ => none
 | k + 1, x0, x3, x4, x64, x149000, x149001, x149002, x149003 => if x64 = true then (some false) else (if x149001.toList = ([] : List UInt8) then (newelref01_Right.l2 k x0 x3 x4 (wrap64 (x4 - 1)) x149000 x149001 x149002 x149003) else ((newelref01_Name.f k x149001).bind fun t153 => (if t153 = true then (if x149002.toList = ([] : List UInt8) then ((newelref01_attrs.f k x149003).bind fun t154 => (if t154 = true then (newelref01_Right.j5 k x0 x3 x4 (decide ((x3.length : Int) ≥ 20))) else (newelref01_Right.j5 k x0 x3 x4 true))) else (newelref01_Right.j5 k x0 x3 x4 true)) else (newelref01_Right.j5 k x0 x3 x4 true))))
def newelref01_Right.j7 : Nat → List (S29) → List Int → Int → Int → Int → ByteArray → ByteArray → List (S68) → Option (Bool)
 | 0, _, _, _, _, _, _, _, _ => none
 | k + 1, x0, x3, x4, x6, x149000, x149001, x149002, x149003 => if x149002.toList = ([] : List UInt8) then (newelref01_Right.j8 k x0 x3 x4 true) else ((newelref01_all.f k x149002).bind fun t159 => (if t159 = true then (if (x149003.length : Int) > 0 then (newelref01_Right.j8 k x0 x3 x4 true) else (if 0 ≤ x6 then (if x6 < (x0.length : Int) then (if ((rd_T29 x0 x6).f1).toList = ([] : List UInt8) then (newelref01_Right.j8 k x0 x3 x4 (((rd_T29 x0 x6).f0) == x149000)) else (newelref01_Right.j8 k x0 x3 x4 false)) else (none)) else (none))) else (newelref01_Right.j8 k x0 x3 x4 true)))
def newelref01_Right.j8 : Nat → List (S29) → List Int → Int → Bool → Option (Bool)
 | 0, _, _, _, _ => none
 | k + 1, x0, x3, x4, x140 => if x140 = true then (some false) else (newelref01_Right.l0 k x0 x3 (wrap64 (x4 + 1)))
def newelref01_Right.l2 : Nat → List (S29) → List Int → Int → Int → Int → ByteArray → ByteArray → List (S68) → Option (Bool)
 | 0, _, _, _, _, _, _, _, _ => none
 | k + 1, x0, x3, x4, x6, x149000, x149001, x149002, x149003 => if x6 > 0 then (if 0 ≤ x6 then (if x6 < (x0.length : Int) then (if ((rd_T29 x0 x6).f0) = x149000 then (newelref01_Right.j7 k x0 x3 x4 x6 x149000 x149001 x149002 x149003) else (newelref01_Right.l2 k x0 x3 x4 (wrap64 (x6 - 1)) x149000 x149001 x149002 x149003)) else (none)) else (none)) else (newelref01_Right.j7 k x0 x3 x4 x6 x149000 x149001 x149002 x149003)
def newelref01_Right.j5 : Nat → List (S29) → List Int → Int → Bool → Option (Bool)
 | 0, _, _, _, _ => none
 | k + 1, x0, x3, x4, x87 => if x87 = true then (some false) else (if x3.length < 17592186044416 then (newelref01_Right.l0 k x0 (x3 ++ [x4]) (wrap64 (x4 + 1))) else (none))
def newelref01_Right.l1 : Nat → List (S29) → List Int → Int → Int → ByteArray → ByteArray → List (S68) → Option (Bool)
 | 0, _, _, _, _, _, _, _ => none
 | k + 1, x0, x3, x4, x149000, x149001, x149002, x149003 => if (x3.length : Int) > 0 then (if 0 ≤ (wrap64 ((x3.length : Int) - 1)) then (if (wrap64 ((x3.length : Int) - 1)) < (x3.length : Int) then (if (rd x3 (wrap64 ((x3.length : Int) - 1))) = x149000 then (newelref01_Right.j3 k x0 x3 x4 x149000 x149001 x149002 x149003) else (if (wrap64 ((x3.length : Int) - 1)) ≤ (x3.length : Int) then (newelref01_Right.l1 k x0 (x3.take ((wrap64 ((x3.length : Int) - 1)) : Int).toNat) x4 x149000 x149001 x149002 x149003) else (none))) else (none)) else (none)) else (newelref01_Right.j3 k x0 x3 x4 x149000 x149001 x149002 x149003)
end
def newelref01_Right.f (k : Nat) (l0 : List (S29)) : Option (Bool) := if (l0.length : Int) = 0 then (newelref01_Right.j0 k l0 true) else (if (l0.length : Int) > 2000 then (newelref01_Right.j0 k l0 true) else (if 0 < (l0.length : Int) then (if ((rd_T29 l0 0).f0) = (-1) then (newelref01_Right.j0 k l0 (((rd_T29 l0 0).f1).toList == ([] : List UInt8))) else (newelref01_Right.j0 k l0 true)) else (none)))
def newelref01_Right.T8 : Bool × List (List Nat × List Nat) := (true, [([], []), ([0], [0]), ([1], [1]), ([2], [2]), ([3], [3]), ([3], [3]), ([5, 3], [3, 5]), ([6, 3], [3, 6]), ([4, 7, 3], [3, 4, 7]), ([8, 3], [3, 8]), ([3], [3]), ([10, 3], [3, 10]), ([9, 11, 3], [3, 9, 11]), ([3, 12], [3, 12])])
def newelref01_Right.B8 : List Nat := [0, 1, 3, 7, 15, 15, 47, 111, 255, 511, 15, 1039, 4095, 8191]
theorem newelref01_Right.tab8 : rtab .any (opsOf Try.f10 8) = newelref01_Right.T8 := by kernel_rfl
theorem newelref01_Right.bits8 : waitsOk newelref01_Right.T8.2 newelref01_Right.B8 = true := by kernel_rfl
def newelref01_Right.T17 : Bool × List (List Nat × List Nat) := (true, [([], []), ([0], [0]), ([1], [1]), ([2], [2]), ([2], [2]), ([3, 4, 2], [2, 3, 4]), ([5, 2], [2, 5]), ([6, 2], [2, 6]), ([2], [2]), ([8, 2], [2, 8]), ([7, 9, 2], [2, 7, 9]), ([2, 10], [2, 10])])
def newelref01_Right.B17 : List Nat := [0, 1, 3, 7, 7, 31, 63, 127, 7, 263, 1023, 2047]
theorem newelref01_Right.tab17 : rtab .any (opsOf Try.f10 17) = newelref01_Right.T17 := by kernel_rfl
theorem newelref01_Right.bits17 : waitsOk newelref01_Right.T17.2 newelref01_Right.B17 = true := by kernel_rfl
def newelref01_Right.T19 : Bool × List (List Nat × List Nat) := (true, [([], []), ([0], [0]), ([1], [1]), ([2], [2]), ([3], [3]), ([4, 3], [3, 4]), ([5, 3, 3], [3, 5]), ([6, 3], [3, 6]), ([3, 7], [3, 7]), ([8, 6], [8]), ([9], [9]), ([10, 9], [9, 10]), ([11, 9], [9, 11]), ([12, 9], [9, 12]), ([9, 13], [9, 13]), ([14, 9], [14]), ([15], [15]), ([15], [15]), ([16, 17, 15], [15, 16, 17]), ([18, 15], [15, 18]), ([19, 15], [15, 19]), ([20, 15], [15, 20]), ([21, 15, 15], [15, 21]), ([22], [22]), ([22], [22]), ([23, 24, 22], [22, 23, 24]), ([25, 22], [22, 25]), ([26, 22], [22, 26]), ([22], [22]), ([28, 22], [22, 28]), ([27, 29, 22], [22, 27, 29]), ([22, 30, 15], [15, 22, 30]), ([15, 31], [15, 31])])
def newelref01_Right.B19 : List Nat := [0, 1, 3, 7, 15, 31, 63, 127, 255, 511, 1023, 2047, 4095, 8191, 16383, 32767, 65535, 65535, 262143, 524287, 1048575, 2097151, 4194303, 8388607, 8388607, 33554431, 67108863, 134217727, 8388607, 276824063, 1073741823, 2147483647, 4294967295]
theorem newelref01_Right.tab19 : rtab .any (opsOf Try.f10 19) = newelref01_Right.T19 := by kernel_rfl
theorem newelref01_Right.bits19 : waitsOk newelref01_Right.T19.2 newelref01_Right.B19 = true := by kernel_rfl
theorem newelref01_Right.calls (k : Nat) (A0 : Option Addr) (c0 : Nat) (l0 : List (S29)) (r : Bool) (w : World) (hr0 : Kd.C k29 w A0 l0.length l0) (hc0 : l0.length ≤ c0) (hG : Glob w) (h : newelref01_Right.f k l0 = some r) :
 Calls Try.prog 10 #[.slice A0 l0.length c0] w fun e w' => e = .returned (.bool r) ∧ Below w.heap.size w w' := by
 have hu29 := Try.underlying29
 have HG := Aside0.mk hG
 clear hG
 have HR0 := Aside0.mk hr0
 have HC0 := Aside0.mk hc0
 clear hr0 hc0
 have HB := Aside0.mk (Below.refl w.heap.size w)
 have H : (if (l0.length : Int) = 0 then (newelref01_Right.j0 k l0 true) else (if (l0.length : Int) > 2000 then (newelref01_Right.j0 k l0 true) else (if 0 < (l0.length : Int) then (if ((rd_T29 l0 0).f0) = (-1) then (newelref01_Right.j0 k l0 (((rd_T29 l0 0).f1).toList == ([] : List UInt8))) else (newelref01_Right.j0 k l0 true)) else (none)))) = some r := h
 clear h
 have HC2 := Aside0.mk H
 clear H
 go_enter Try.func10, Try.ntmps10
 go_upto_region 1 with (fail)
 go_cut [28] (fun v28 wc => ∃ (kq : Nat) (x28_1 : Bool), v28 = .bool x28_1 ∧ Aside0 (newelref01_Right.j0 kq l0 x28_1 = some r) ∧ Aside0 (kq ≤ k) ∧ Aside0 (Below w.heap.size w wc))
 case first =>
  have H := HC2.out
  clear HC2
  by_cases c3 : (l0.length : Int) = 0
  ·rw [if_pos c3] at H
   obtain ⟨c3b0, c3b1⟩ := eqT c3
   clear c3
   (first | rw [c3b0] | (simp only [i64_w, i32_w]; rw [c3b0]) | skip)
   have H' := Aside0.mk H
   clear H
   go_wp2
   go_meet
   case rel => exact ⟨_, (true), cA, H', ⟨by first | omega | exact Nat.le_refl _⟩, ⟨bE⟩⟩
  rw [if_neg c3] at H
  obtain ⟨c3b0, c3b1⟩ := eqF c3
  have c3b2 : ¬ (l0 = []) := fun h_ => c3 (by rw [h_]; rfl)
  (first | rw [c3b0] | (simp only [i64_w, i32_w]; rw [c3b0]) | skip)
  by_cases c4 : (l0.length : Int) > 2000
  ·rw [if_pos c4] at H
   have c4b0 := dT c4
   have c4b1 : decide (2000 < l0.length) = true := decide_eq_true (by omega)
   clear c4
   have H' := Aside0.mk H
   clear H
   go_wp2
   go_meet
   case rel => exact ⟨_, (true), cA, H', ⟨by first | omega | exact Nat.le_refl _⟩, ⟨bE⟩⟩
  rw [if_neg c4] at H
  have c4b0 := dF c4
  have c4b1 : decide (2000 < l0.length) = false := decide_eq_false (by omega)
  clear c4
  by_cases c5 : 0 < (l0.length : Int)
  rotate_left
  ·rw [if_neg c5] at H
   exact absurd H (by simp)
  rw [if_pos c5] at H
  have c5b0 := dT c5
  have c5b1 : decide (0 < l0.length) = true := decide_eq_true (by omega)
  clear c5
  by_cases c6 : ((rd_T29 l0 0).f0) = (-1)
  rotate_left
  ·rw [if_neg c6] at H
   obtain ⟨c6b0, c6b1⟩ := eqF c6
   have H' := Aside0.mk H
   clear H
   have p145 : 0 ≤ (0 : Int) := (by omega)
   have q145 : 0 < (l0.length : Int) := dA
   obtain ⟨ad145, A145_3, c145_3, e145, hx145_0, hx145_1, hx145_2, hx145_3, hl145_3, hi145_3⟩ := at_T29 HR0.out 0 p145 q145
   cases e145
   have qi145 : (0 < l0.length) = True := eq_true (by omega)
   (try rw [show ((0 : Int)).toNat = 0 from rfl] at hx145_0)
   (try rw [show 0 * 4 = 0 from rfl] at hx145_0)
   (try rw [Addr.add_zero'] at hx145_0)
   (try rw [show ((0 : Int)).toNat = 0 from rfl] at hx145_1)
   (try rw [show 0 * 4 = 0 from rfl] at hx145_1)
   (try rw [Addr.add_zero'] at hx145_1)
   (try rw [show ((0 : Int)).toNat = 0 from rfl] at hx145_2)
   (try rw [show 0 * 4 = 0 from rfl] at hx145_2)
   (try rw [Addr.add_zero'] at hx145_2)
   (try rw [show ((0 : Int)).toNat = 0 from rfl] at hx145_3)
   (try rw [show 0 * 4 = 0 from rfl] at hx145_3)
   (try rw [Addr.add_zero'] at hx145_3)
   replace hx145_0 := (HB.out.cell (World.block_lt_of_cell? w _ hx145_0)).trans hx145_0
   replace hx145_1 := (HB.out.cell (World.block_lt_of_cell? w _ hx145_1)).trans hx145_1
   replace hx145_2 := (HB.out.cell (World.block_lt_of_cell? w _ hx145_2)).trans hx145_2
   replace hx145_3 := (HB.out.cell (World.block_lt_of_cell? w _ hx145_3)).trans hx145_3
   have HR145_3 := Aside0.mk hi145_3
   have HC145_3 := Aside0.mk hl145_3
   clear hi145_3 hl145_3
   replace p145 := eq_true p145
   replace q145 := eq_true q145
   go_wp2
   go_meet
   case rel => exact ⟨_, (true), cA, H', ⟨by first | omega | exact Nat.le_refl _⟩, ⟨bE⟩⟩
  rw [if_pos c6] at H
  obtain ⟨c6b0, c6b1⟩ := eqT c6
  clear c6
  have H' := Aside0.mk H
  clear H
  have p145 : 0 ≤ (0 : Int) := (by omega)
  have q145 : 0 < (l0.length : Int) := dA
  obtain ⟨ad145, A145_3, c145_3, e145, hx145_0, hx145_1, hx145_2, hx145_3, hl145_3, hi145_3⟩ := at_T29 HR0.out 0 p145 q145
  cases e145
  have qi145 : (0 < l0.length) = True := eq_true (by omega)
  (try rw [show ((0 : Int)).toNat = 0 from rfl] at hx145_0)
  (try rw [show 0 * 4 = 0 from rfl] at hx145_0)
  (try rw [Addr.add_zero'] at hx145_0)
  (try rw [show ((0 : Int)).toNat = 0 from rfl] at hx145_1)
  (try rw [show 0 * 4 = 0 from rfl] at hx145_1)
  (try rw [Addr.add_zero'] at hx145_1)
  (try rw [show ((0 : Int)).toNat = 0 from rfl] at hx145_2)
  (try rw [show 0 * 4 = 0 from rfl] at hx145_2)
  (try rw [Addr.add_zero'] at hx145_2)
  (try rw [show ((0 : Int)).toNat = 0 from rfl] at hx145_3)
  (try rw [show 0 * 4 = 0 from rfl] at hx145_3)
  (try rw [Addr.add_zero'] at hx145_3)
  replace hx145_0 := (HB.out.cell (World.block_lt_of_cell? w _ hx145_0)).trans hx145_0
  replace hx145_1 := (HB.out.cell (World.block_lt_of_cell? w _ hx145_1)).trans hx145_1
  replace hx145_2 := (HB.out.cell (World.block_lt_of_cell? w _ hx145_2)).trans hx145_2
  replace hx145_3 := (HB.out.cell (World.block_lt_of_cell? w _ hx145_3)).trans hx145_3
  have HR145_3 := Aside0.mk hi145_3
  have HC145_3 := Aside0.mk hl145_3
  clear hi145_3 hl145_3
  replace p145 := eq_true p145
  replace q145 := eq_true q145
  have p146 : 0 ≤ (0 : Int) := (by omega)
  have q146 : 0 < (l0.length : Int) := dA
  obtain ⟨ad146, A146_3, c146_3, e146, hx146_0, hx146_1, hx146_2, hx146_3, hl146_3, hi146_3⟩ := at_T29 HR0.out 0 p146 q146
  obtain rfl : ad145 = ad146 := (by injection e146)
  have qi146 : (0 < l0.length) = True := eq_true (by omega)
  (try rw [show ((0 : Int)).toNat = 0 from rfl] at hx146_0)
  (try rw [show 0 * 4 = 0 from rfl] at hx146_0)
  (try rw [Addr.add_zero'] at hx146_0)
  (try rw [show ((0 : Int)).toNat = 0 from rfl] at hx146_1)
  (try rw [show 0 * 4 = 0 from rfl] at hx146_1)
  (try rw [Addr.add_zero'] at hx146_1)
  (try rw [show ((0 : Int)).toNat = 0 from rfl] at hx146_2)
  (try rw [show 0 * 4 = 0 from rfl] at hx146_2)
  (try rw [Addr.add_zero'] at hx146_2)
  (try rw [show ((0 : Int)).toNat = 0 from rfl] at hx146_3)
  (try rw [show 0 * 4 = 0 from rfl] at hx146_3)
  (try rw [Addr.add_zero'] at hx146_3)
  replace hx146_0 := (HB.out.cell (World.block_lt_of_cell? w _ hx146_0)).trans hx146_0
  replace hx146_1 := (HB.out.cell (World.block_lt_of_cell? w _ hx146_1)).trans hx146_1
  replace hx146_2 := (HB.out.cell (World.block_lt_of_cell? w _ hx146_2)).trans hx146_2
  replace hx146_3 := (HB.out.cell (World.block_lt_of_cell? w _ hx146_3)).trans hx146_3
  have HR146_3 := Aside0.mk hi146_3
  have HC146_3 := Aside0.mk hl146_3
  clear hi146_3 hl146_3
  replace p146 := eq_true p146
  replace q146 := eq_true q146
  have ea_ := Option.some.inj (hx145_3.symm.trans hx146_3)
  injection ea_ with ea_ en_ ec_
  subst ea_
  subst ec_
  clear en_
  go_wp2
  go_meet
  case rel => exact ⟨_, ((((rd_T29 l0 0).f1).toList == ([] : List UInt8))), cA, H', ⟨by first | omega | exact Nat.le_refl _⟩, ⟨bE⟩⟩
 clear HC2
 try clear c1
 try clear p1
 try clear q1
 try clear hx1
 try clear qi1
 try clear p2
 try clear c3
 try clear c3b0
 try clear c3b1
 try clear c3b2
 try clear c4
 try clear c4b0
 try clear c4b1
 try clear c5
 try clear c5b0
 try clear c5b1
 try clear c6
 try clear c6b0
 try clear c6b1
 try clear hx145_0
 try clear hx145_1
 try clear hx145_2
 try clear hx145_3
 try clear hx146_0
 try clear hx146_1
 try clear hx146_2
 try clear hx146_3
 try clear p145
 try clear p146
 try clear q145
 try clear q146
 obtain ⟨kq, x28_1, rfl, HA, HJ1, HB⟩ := hcut
 cases kq with
 | zero => exact absurd HA.out (by simp [newelref01_Right.j0])
 | succ kj1 =>
  have H := HA.out
  clear HA
  simp only [newelref01_Right.j0] at H
  by_cases c7 : x28_1 = true
  ·subst c7
   have H1 : (some false) = some r := by rw [if_pos rfl] at H; exact H
   clear H
   have H := H1
   clear H1
   obtain rfl := Option.some.inj H
   go_wp2
   go_ret
   exact ⟨eA, bE⟩
  replace c7 := Bool.eq_false_iff.mpr c7
  subst c7
  have H1 : (newelref01_Right.l0 kj1 l0 ([] : List Int) 0) = some r := by rw [if_neg (show ¬ (false = true) by decide)] at H; exact H
  clear H
  have H := H1
  clear H1
  have H' := Aside0.mk H
  clear H
  go_wp2
  go_loopg [3, 4] kj1 (fun kq v3 v4 w' => ∃ (x3_2 : List Int) (x4_2 : Int), v4 = .int .i64 x4_2 ∧ Aside0 (newelref01_Right.l0 kq l0 x3_2 x4_2 = some r) ∧ Aside0 (kq ≤ kj1) ∧ Aside0 (Kd.R (Kd.int .i64) 3 w' w.heap.size (fun _ => True) v3 x3_2) ∧ Aside0 (Below w.heap.size w w'))
  case atStart => exact ⟨(([] : List Int)), (0), cA, H', ⟨Nat.le_refl _⟩, ⟨by first | exact Kd.R_nil _ _ _ _ _ | exact Kd.N_nil _ _ _ _ _ | exact Kd.V_nil _ _ _ _ _ | exact Kd.Q_nil _ _ _ _ _ | exact Kd.S_nil _ _ _ _ _⟩, ⟨bE⟩⟩
  clear H'
  try clear c1
  try clear p1
  try clear q1
  try clear hx1
  try clear qi1
  try clear p2
  try clear c3
  try clear c3b0
  try clear c3b1
  try clear c3b2
  try clear c4
  try clear c4b0
  try clear c4b1
  try clear c5
  try clear c5b0
  try clear c5b1
  try clear c6
  try clear c6b0
  try clear c6b1
  try clear c7
  try clear hx145_0
  try clear hx145_1
  try clear hx145_2
  try clear hx145_3
  try clear hx146_0
  try clear hx146_1
  try clear hx146_2
  try clear hx146_3
  try clear p1
  try clear p145
  try clear p146
  try clear p2
  try clear q1
  try clear q145
  try clear q146
  obtain ⟨x3_2, x4_2, rfl, HA, HK2, HO_3, HB⟩ := hrel
  cases gk with
  | zero => exact absurd HA.out (by simp [newelref01_Right.l0])
  | succ k2 =>
   have H := HA.out
   clear HA
   simp only [newelref01_Right.l0] at H
   by_cases c8 : x4_2 < (l0.length : Int)
   rotate_left
   ·rw [if_neg c8] at H
    have c8b0 := dF c8
    clear c8
    obtain rfl := Option.some.inj H
    go_wp2
    go_ret
    exact ⟨eA, bE⟩
   rw [if_pos c8] at H
   have c8b0 := dT c8
   clear c8
   by_cases c9 : 0 ≤ x4_2
   rotate_left
   ·rw [if_neg c9] at H
    exact absurd H (by simp)
   rw [if_pos c9] at H
   have c9b0 := dT c9
   clear c9
   have HC10 := Aside0.mk H
   clear H
   have p147 : 0 ≤ (x4_2 : Int) := dA
   have q147 : x4_2 < (l0.length : Int) := dA
   obtain ⟨ad147, A147_3, c147_3, e147, hx147_0, hx147_1, hx147_2, hx147_3, hl147_3, hi147_3⟩ := at_T29 HR0.out x4_2 p147 q147
   cases e147
   replace hx147_0 := (HB.out.cell (World.block_lt_of_cell? w _ hx147_0)).trans hx147_0
   replace hx147_1 := (HB.out.cell (World.block_lt_of_cell? w _ hx147_1)).trans hx147_1
   replace hx147_2 := (HB.out.cell (World.block_lt_of_cell? w _ hx147_2)).trans hx147_2
   replace hx147_3 := (HB.out.cell (World.block_lt_of_cell? w _ hx147_3)).trans hx147_3
   have HR147_3 := Aside0.mk hi147_3
   have HC147_3 := Aside0.mk hl147_3
   clear hi147_3 hl147_3
   replace p147 := eq_true p147
   replace q147 := eq_true q147
   go_upto_block 2 with (first | ((with_reducible refine gate_dst (N := 5) rfl ?_); (try (refine gate_guard (by rfl) ?_; dsimp only)); refine be 5 #[.int .i64 0, .string (⟨#[]⟩ : ByteArray), .string (⟨#[]⟩ : ByteArray), .slice none 0 0] 29 ?_; intro gb148 hg w11 hbox hb; replace HO_3 := rB HO_3 hb; have BK148 := Aside0.mk (hbox); have GW148 := gW hg; have GE148 := gW hg; replace HB := sB hb; clear hb hbox hg; have hcz12_0 : w11.cell? ⟨gb148, 0, none⟩ = some (.int .i64 0) := (blk_cell BK148.out 0).trans rfl; have hcz12_1 : w11.cell? ⟨gb148, 1, none⟩ = some (.string (⟨#[]⟩ : ByteArray)) := (blk_cell BK148.out 1).trans rfl; have hcz12_2 : w11.cell? ⟨gb148, 2, none⟩ = some (.string (⟨#[]⟩ : ByteArray)) := (blk_cell BK148.out 2).trans rfl; have hcz12_3 : w11.cell? ⟨gb148, 3, none⟩ = some (.slice none 0 0) := (blk_cell BK148.out 3).trans rfl; have hfz12_0 := blk_frozen BK148.out 0; have hfz12_1 := blk_frozen BK148.out 1; have hfz12_2 := blk_frozen BK148.out 2; have hfz12_3 := blk_frozen BK148.out 3))
   (try simp only [Act.put, List.setIfInBounds_toArray, List.set_cons_zero, List.set_cons_succ])
   go_cut [3] (fun v3 wc => ∃ (kq : Nat) (x3_9 : List Int), Aside0 (newelref01_Right.j3 kq l0 x3_9 x4_2 ((rd_T29 l0 x4_2).f0) ((rd_T29 l0 x4_2).f1) ((rd_T29 l0 x4_2).f2) ((rd_T29 l0 x4_2).f3) = some r) ∧ Aside0 (kq ≤ k2) ∧ Aside0 (Kd.R (Kd.int .i64) 3 wc w.heap.size (fun _ => True) v3 x3_9) ∧ Aside0 (wc.heap[gb148]? = some (.cells #[.int .i64 ((rd_T29 l0 x4_2).f0), .string ((rd_T29 l0 x4_2).f1), .string ((rd_T29 l0 x4_2).f2), (.slice A147_3 ((rd_T29 l0 x4_2).f3).length c147_3)] 29 (0, 0))) ∧ Aside0 (Below w.heap.size w wc))
   case first =>
    have H := HC10.out
    clear HC10
    have H' := Aside0.mk H
    clear H
    go_wp2
    go_loopg [3] k2 (fun kq v3 w' => ∃ (x3_3 : List Int), Aside0 (newelref01_Right.l1 kq l0 x3_3 x4_2 ((rd_T29 l0 x4_2).f0) ((rd_T29 l0 x4_2).f1) ((rd_T29 l0 x4_2).f2) ((rd_T29 l0 x4_2).f3) = some r) ∧ Aside0 (kq ≤ k2) ∧ Aside0 (Kd.R (Kd.int .i64) 3 w' w.heap.size (fun _ => True) v3 x3_3) ∧ Aside0 (w'.heap[gb148]? = some (.cells #[.int .i64 ((rd_T29 l0 x4_2).f0), .string ((rd_T29 l0 x4_2).f1), .string ((rd_T29 l0 x4_2).f2), (.slice A147_3 ((rd_T29 l0 x4_2).f3).length c147_3)] 29 (0, 0))) ∧ Aside0 (Below w.heap.size w w'))
    case atStart => exact ⟨(x3_2), H', ⟨Nat.le_refl _⟩, ⟨by (with_reducible repeat (first | apply Kd.R_alloc | apply Kd.R_drewN | apply Kd.R_drew)); exact Kd.R_mono (Kd.R_far (p := ⟨gb148, 3, none⟩) (Kd.R_far (p := ⟨gb148, 2, none⟩) (Kd.R_far (p := ⟨gb148, 1, none⟩) (Kd.R_far (p := ⟨gb148, 0, none⟩) (Kd.R_types HO_3.out BK148.out (by decide)) (fun _ hk => hk.2) (.int .i64 ((rd_T29 l0 x4_2).f0))) (fun _ hk => hk.2) (.string ((rd_T29 l0 x4_2).f1))) (fun _ hk => hk.2) (.string ((rd_T29 l0 x4_2).f2))) (fun _ hk => hk.2) (.slice A147_3 ((rd_T29 l0 x4_2).f3).length c147_3)) (fun _ hk => trivial)⟩, ⟨bP BK148⟩, ⟨bG⟩⟩
    clear H'
    try clear c1
    try clear p1
    try clear q1
    try clear hx1
    try clear qi1
    try clear p2
    try clear c3
    try clear c3b0
    try clear c3b1
    try clear c3b2
    try clear c4
    try clear c4b0
    try clear c4b1
    try clear c5
    try clear c5b0
    try clear c5b1
    try clear c6
    try clear c6b0
    try clear c6b1
    try clear c7
    try clear c8
    try clear c8b0
    try clear c9
    try clear c9b0
    try clear c10
    try clear hcz12_0
    try clear hcz12_1
    try clear hcz12_2
    try clear hcz12_3
    try clear hfz12_0
    try clear hfz12_1
    try clear hfz12_2
    try clear hfz12_3
    try clear hx145_0
    try clear hx145_1
    try clear hx145_2
    try clear hx145_3
    try clear hx146_0
    try clear hx146_1
    try clear hx146_2
    try clear hx146_3
    try clear hx147_0
    try clear hx147_1
    try clear hx147_2
    try clear hx147_3
    try clear p1
    try clear p145
    try clear p146
    try clear p147
    try clear p2
    try clear q1
    try clear q145
    try clear q146
    try clear q147
    obtain ⟨x3_3, HA, HK3, HO_3, BK148, HB⟩ := hrel
    cases gk with
    | zero => exact absurd HA.out (by simp [newelref01_Right.l1])
    | succ k3 =>
     have H := HA.out
     clear HA
     simp only [newelref01_Right.l1] at H
     by_cases c13 : (x3_3.length : Int) > 0
     rotate_left
     ·rw [if_neg c13] at H
      have c13b0 := dF c13
      have c13b1 : decide (0 < x3_3.length) = false := decide_eq_false (by omega)
      clear c13
      (first | rw [c13b0] | (simp only [i64_w, i32_w]; rw [c13b0]) | skip)
      have H' := Aside0.mk H
      clear H
      try go_wp2
      replace HO_3 := Aside0.mk (Kd.R_drew HO_3.out)
      replace BK148 := Aside0.mk (blk_drew BK148.out)
      replace HB := Aside0.mk (below_drew1 HB.out)
      obtain ⟨Ao25, co25, eo25⟩ := Kd.R_slice HO_3.out
      (first | subst eo25 | (injection eo25 with f1_ f2_ f3_; have f4_ := f1_.symm; have f5_ := f3_.symm; clear f1_ f2_ f3_; subst f4_; subst f5_))
      refine start_ (n := 14) (S := fun w' => True) (ds := []) #[false, false, false, false, false, false, false, false, false, false, false, false, false, false] (by kernel_rfl) rfl rfl trivial (fun hHeld => ?_); refine with_tabW newelref01_Right.tab8 newelref01_Right.bits8 (fun HT_ HW_ => ?_)
      generalize wr.drew = w24 at HO_3 BK148 HB hHeld ⊢
      refine pz 0 (some 39) HT_ ?_
      refine pz 1 (some 40) HT_ ?_
      refine pz 2 (some 41) HT_ ?_
      refine pz 3 (some 42) HT_ ?_
      refine pu 4 (some 43) HT_ ?_
      refine pu 5 (some 44) HT_ ?_
      refine pu 6 (some 45) HT_ ?_
      refine pu 7 (some 46) HT_ ?_
      refine pu 8 (some 47) HT_ ?_
      refine pu 9 (some 48) HT_ ?_
      refine pu 10 (some 49) HT_ ?_
      refine pu 11 (some 50) HT_ ?_
      refine pu 12 (some 51) HT_ ?_
      refine pz 13 (some 52) HT_ ?_
      refine done_ (done_of HT_.out (by kernel_rfl)) ?_
      try go_wp2
      go_meet
      case rel => exact ⟨_, (x3_3), H', ⟨by have := HJ1.out; have := HK2.out; have := HK3.out; first | omega | exact Nat.le_refl _⟩, ⟨kR HO_3⟩, ⟨bK BK148⟩, ⟨bG⟩⟩
     rw [if_pos c13] at H
     have c13b0 := dT c13
     have c13b1 : decide (0 < x3_3.length) = true := decide_eq_true (by omega)
     clear c13
     (first | rw [c13b0] | (simp only [i64_w, i32_w]; rw [c13b0]) | skip)
     obtain ⟨ji14, hji14⟩ : ∃ j_ : Int, (wrap64 ((x3_3.length : Int) - 1)) = j_ := ⟨_, rfl⟩
     rw [hji14] at H
     have hji14w : (IntKind.i64.wrap ((x3_3.length : Int) - 1)) = ji14 := (i64_w _).trans hji14
     by_cases c15 : 0 ≤ (ji14)
     rotate_left
     ·rw [if_neg c15] at H
      exact absurd H (by simp)
     rw [if_pos c15] at H
     have c15b0 := dT c15
     clear c15
     by_cases c16 : (ji14) < (x3_3.length : Int)
     rotate_left
     ·rw [if_neg c16] at H
      exact absurd H (by simp)
     rw [if_pos c16] at H
     have c16b0 := dT c16
     clear c16
     by_cases c17 : (rd x3_3 (ji14)) = ((rd_T29 l0 x4_2).f0)
     ·rw [if_pos c17] at H
      obtain ⟨c17b0, c17b1⟩ := eqT c17
      clear c17
      have H' := Aside0.mk H
      clear H
      try go_wp2
      replace HO_3 := Aside0.mk (Kd.R_drew HO_3.out)
      replace BK148 := Aside0.mk (blk_drew BK148.out)
      replace HB := Aside0.mk (below_drew1 HB.out)
      obtain ⟨Ao19, co19, eo19⟩ := Kd.R_slice HO_3.out
      (first | subst eo19 | (injection eo19 with f1_ f2_ f3_; have f4_ := f1_.symm; have f5_ := f3_.symm; clear f1_ f2_ f3_; subst f4_; subst f5_))
      have p149 : 0 ≤ ((ji14) : Int) := dA
      have q149 : (ji14) < (x3_3.length : Int) := dA
      (try (obtain ⟨Ao_, co_, eo_⟩ := Kd.R_slice HO_3.out; subst eo_))
      obtain ⟨ad149, e149, hx149_0⟩ := Kd.at_int (Kd.R_reads' HO_3.out).2.2 (ji14) p149 q149
      cases e149
      replace p149 := eq_true p149
      replace q149 := eq_true q149
      refine start_ (n := 14) (S := fun w' => w'.cell? ⟨gb148, 0, none⟩ = some (.int .i64 ((rd_T29 l0 x4_2).f0)) ∧ w'.cell? ⟨gb148, 1, none⟩ = some (.string ((rd_T29 l0 x4_2).f1)) ∧ w'.cell? ⟨gb148, 2, none⟩ = some (.string ((rd_T29 l0 x4_2).f2)) ∧ w'.cell? ⟨gb148, 3, none⟩ = some (.slice A147_3 ((rd_T29 l0 x4_2).f3).length c147_3) ∧ w'.cell? (ad149.add ((ji14)).toNat) = some (.int .i64 (rd x3_3 (ji14)))) (ds := []) #[false, false, false, false, false, false, false, false, false, false, false, false, false, false] (by kernel_rfl) rfl rfl ⟨(blk_cell BK148.out 0).trans rfl, (blk_cell BK148.out 1).trans rfl, (blk_cell BK148.out 2).trans rfl, (blk_cell BK148.out 3).trans rfl, hx149_0⟩ (fun hHeld => ?_); refine with_tabW newelref01_Right.tab8 newelref01_Right.bits8 (fun HT_ HW_ => ?_)
      generalize wr.drew = w18 at HO_3 BK148 HB hx149_0 hHeld ⊢
      refine pz 0 (some 39) HT_ ?_
      refine pz 1 (some 40) HT_ ?_
      refine pz 2 (some 41) HT_ ?_
      refine pz 3 (some 42) HT_ ?_
      refine pz 4 (some 43) HT_ ?_
      refine pz 5 (some 44) HT_ ?_
      refine pz 6 (some 45) HT_ ?_
      refine pz 7 (some 46) HT_ ?_
      refine pz 8 (some 47) HT_ ?_
      refine pz 10 (some 49) HT_ ?_
      refine tm 9 (some 48) HT_ HW_ hHeld ?_
      refine tm 11 (some 50) HT_ HW_ hHeld ?_
      refine pz 12 (some 51) HT_ ?_
      refine pz 13 (some 52) HT_ ?_
      refine done_ (done_of HT_.out (by kernel_rfl)) ?_
      try go_wp2
      go_meet
      case rel => exact ⟨_, (x3_3), H', ⟨by have := HJ1.out; have := HK2.out; have := HK3.out; first | omega | exact Nat.le_refl _⟩, ⟨kR HO_3⟩, ⟨bK BK148⟩, ⟨bG⟩⟩
     rw [if_neg c17] at H
     obtain ⟨c17b0, c17b1⟩ := eqF c17
     by_cases c20 : (ji14) ≤ (x3_3.length : Int)
     rotate_left
     ·rw [if_neg c20] at H
      exact absurd H (by simp)
     rw [if_pos c20] at H
     have c20b0 := eq_true c20
     have c20b1 := dT c20
     clear c20
     obtain ⟨y150, hy150⟩ : ∃ y_ : List Int, y_ = (x3_3.take ((ji14) : Int).toNat) := ⟨_, rfl⟩
     replace H : (newelref01_Right.l1 k3 l0 y150 x4_2 ((rd_T29 l0 x4_2).f0) ((rd_T29 l0 x4_2).f1) ((rd_T29 l0 x4_2).f2) ((rd_T29 l0 x4_2).f3)) = some r := by first | (rw [hy150]; with_reducible exact H) | (have H2_ := (Option.bind_some _ _).symm.trans H; rw [hy150]; with_reducible exact H2_) | (have H2_ := (Option.bind_some _ _).symm.trans H; with_reducible exact H2_) | with_reducible exact H | (rw [hy150]; exact H) | exact H
     have Ny150 := Aside0.mk hy150
     clear hy150
     have H' := Aside0.mk H
     clear H
     try go_wp2
     replace HO_3 := Aside0.mk (Kd.R_drew HO_3.out)
     replace BK148 := Aside0.mk (blk_drew BK148.out)
     replace HB := Aside0.mk (below_drew1 HB.out)
     obtain ⟨Ao22, co22, eo22⟩ := Kd.R_slice HO_3.out
     (first | subst eo22 | (injection eo22 with f1_ f2_ f3_; have f4_ := f1_.symm; have f5_ := f3_.symm; clear f1_ f2_ f3_; subst f4_; subst f5_))
     have p149 : 0 ≤ ((ji14) : Int) := dA
     have q149 : (ji14) < (x3_3.length : Int) := dA
     (try (obtain ⟨Ao_, co_, eo_⟩ := Kd.R_slice HO_3.out; subst eo_))
     obtain ⟨ad149, e149, hx149_0⟩ := Kd.at_int (Kd.R_reads' HO_3.out).2.2 (ji14) p149 q149
     cases e149
     replace p149 := eq_true p149
     replace q149 := eq_true q149
     refine start_ (n := 14) (S := fun w' => w'.cell? ⟨gb148, 0, none⟩ = some (.int .i64 ((rd_T29 l0 x4_2).f0)) ∧ w'.cell? ⟨gb148, 1, none⟩ = some (.string ((rd_T29 l0 x4_2).f1)) ∧ w'.cell? ⟨gb148, 2, none⟩ = some (.string ((rd_T29 l0 x4_2).f2)) ∧ w'.cell? ⟨gb148, 3, none⟩ = some (.slice A147_3 ((rd_T29 l0 x4_2).f3).length c147_3) ∧ w'.cell? (ad149.add ((ji14)).toNat) = some (.int .i64 (rd x3_3 (ji14)))) (ds := []) #[false, false, false, false, false, false, false, false, false, false, false, false, false, false] (by kernel_rfl) rfl rfl ⟨(blk_cell BK148.out 0).trans rfl, (blk_cell BK148.out 1).trans rfl, (blk_cell BK148.out 2).trans rfl, (blk_cell BK148.out 3).trans rfl, hx149_0⟩ (fun hHeld => ?_); refine with_tabW newelref01_Right.tab8 newelref01_Right.bits8 (fun HT_ HW_ => ?_)
     generalize wr.drew = w21 at HO_3 BK148 HB hx149_0 hHeld ⊢
     refine pz 0 (some 39) HT_ ?_
     refine pz 1 (some 40) HT_ ?_
     refine pz 2 (some 41) HT_ ?_
     refine pz 3 (some 42) HT_ ?_
     refine pz 4 (some 43) HT_ ?_
     refine pz 5 (some 44) HT_ ?_
     refine pz 6 (some 45) HT_ ?_
     refine pz 7 (some 46) HT_ ?_
     refine pz 8 (some 47) HT_ ?_
     refine pz 10 (some 49) HT_ ?_
     refine tm 9 (some 48) HT_ HW_ hHeld ?_
     refine tm 11 (some 50) HT_ HW_ hHeld ?_
     refine pz 12 (some 51) HT_ ?_
     refine pz 13 (some 52) HT_ ?_
     refine done_ (done_of HT_.out (by kernel_rfl)) ?_
     have q23 : ((ji14) : Int) ≤ ((x3_3.length : Int) : Int) := dA
     obtain ⟨i023, hi023, _, hsz23, _⟩ := info_parts info3
     have hcut23 := cut_to (P := Try.prog) 34 3 .i64 Try.underlying34 hi023 (some ad149) x3_3.length co22 (ji14) (dA) q23 (Kd.R_reads' HO_3.out).2.1
     have hr23 := Kd.R_take (m := ((ji14) : Int).toNat) HO_3.out (by omega)
     have hy23 : y150.length = ((ji14) : Int).toNat := (by rw [Ny150.out, List.length_take]; omega)
     rw [← Ny150.out] at hr23
     rw [← hy23] at hr23 hcut23
     clear hy23 hi023 hsz23 HO_3
     have HO152 := Aside0.mk hr23
     clear hr23
     replace q23 := eq_true q23
     try go_wp2
     go_roundg k3
     case measure => have := HJ1.out; have := HK2.out; have := HK3.out; omega
     case rel => exact ⟨(y150), H', ⟨by have := HJ1.out; have := HK2.out; have := HK3.out; omega⟩, ⟨kR HO152⟩, ⟨bK BK148⟩, ⟨bG⟩⟩
   clear HC10
   try clear c1
   try clear p1
   try clear q1
   try clear hx1
   try clear qi1
   try clear c2
   try clear p2
   try clear q2
   try clear c3
   try clear c3b0
   try clear c3b1
   try clear c3b2
   try clear c4
   try clear c4b0
   try clear c4b1
   try clear c5
   try clear c5b0
   try clear c5b1
   try clear c6
   try clear c6b0
   try clear c6b1
   try clear p6
   try clear c7
   try clear c8
   try clear c8b0
   try clear c9
   try clear c9b0
   try clear c10
   try clear c13
   try clear c13b0
   try clear c13b1
   try clear c14
   try clear p14
   try clear q14
   try clear hx14
   try clear c15
   try clear c15b0
   try clear c16
   try clear c16b0
   try clear c17
   try clear c17b0
   try clear c17b1
   try clear c20
   try clear c20b0
   try clear c20b1
   try clear q23
   try clear hcz12_0
   try clear hcz12_1
   try clear hcz12_2
   try clear hcz12_3
   try clear hfz12_0
   try clear hfz12_1
   try clear hfz12_2
   try clear hfz12_3
   try clear hx145_0
   try clear hx145_1
   try clear hx145_2
   try clear hx145_3
   try clear hx146_0
   try clear hx146_1
   try clear hx146_2
   try clear hx146_3
   try clear hx147_0
   try clear hx147_1
   try clear hx147_2
   try clear hx147_3
   try clear hx149_0
   try clear p1
   try clear p145
   try clear p146
   try clear p147
   try clear p149
   try clear p2
   try clear q1
   try clear q145
   try clear q146
   try clear q147
   try clear q149
   try clear q23
   obtain ⟨kq, x3_9, HA, HJ9, HO_3, BK148, HB⟩ := hcut
   cases kq with
   | zero => exact absurd HA.out (by simp [newelref01_Right.j3])
   | succ kj9 =>
    have H := HA.out
    clear HA
    simp only [newelref01_Right.j3] at H
    have HC26 := Aside0.mk H
    clear H
    go_upto_region 10 with (fail)
    go_cut [64] (fun v64 wc => ∃ (kq : Nat) (x64_25 : Bool), v64 = .bool x64_25 ∧ Aside0 (newelref01_Right.j4 kq l0 x3_9 x4_2 x64_25 ((rd_T29 l0 x4_2).f0) ((rd_T29 l0 x4_2).f1) ((rd_T29 l0 x4_2).f2) ((rd_T29 l0 x4_2).f3) = some r) ∧ Aside0 (kq ≤ kj9) ∧ Aside0 (Kd.R (Kd.int .i64) 3 wc w.heap.size (fun _ => True) u3 x3_9) ∧ Aside0 (wc.heap[gb148]? = some (.cells #[.int .i64 ((rd_T29 l0 x4_2).f0), .string ((rd_T29 l0 x4_2).f1), .string ((rd_T29 l0 x4_2).f2), (.slice A147_3 ((rd_T29 l0 x4_2).f3).length c147_3)] 29 (0, 0))) ∧ Aside0 (Below w.heap.size w wc))
    case first =>
     have H := HC26.out
     clear HC26
     by_cases c27 : x4_2 > 0
     rotate_left
     ·rw [if_neg c27] at H
      have c27b0 := dF c27
      clear c27
      (first | rw [c27b0] | (simp only [i64_w, i32_w]; rw [c27b0]) | skip)
      have H' := Aside0.mk H
      clear H
      go_wp2
      go_meet
      case rel => exact ⟨_, (false), cA, H', ⟨by have := HJ1.out; have := HK2.out; have := HJ9.out; first | omega | exact Nat.le_refl _⟩, ⟨kR HO_3⟩, ⟨bK BK148⟩, ⟨bG⟩⟩
     rw [if_pos c27] at H
     have c27b0 := dT c27
     clear c27
     (first | rw [c27b0] | (simp only [i64_w, i32_w]; rw [c27b0]) | skip)
     have H' := Aside0.mk H
     clear H
     obtain ⟨Ao28, co28, eo28⟩ := Kd.R_slice HO_3.out
     subst eo28
     go_wp2
     go_meet
     case rel => exact ⟨_, (((x3_9.length : Int) == 0)), cA, H', ⟨by have := HJ1.out; have := HK2.out; have := HJ9.out; first | omega | exact Nat.le_refl _⟩, ⟨kR HO_3⟩, ⟨bK BK148⟩, ⟨bG⟩⟩
    clear HC26
    try clear c1
    try clear p1
    try clear q1
    try clear hx1
    try clear qi1
    try clear c2
    try clear p2
    try clear q2
    try clear c3
    try clear c3b0
    try clear c3b1
    try clear c3b2
    try clear c4
    try clear c4b0
    try clear c4b1
    try clear c5
    try clear c5b0
    try clear c5b1
    try clear c6
    try clear c6b0
    try clear c6b1
    try clear p6
    try clear c7
    try clear c8
    try clear c8b0
    try clear c9
    try clear c9b0
    try clear c10
    try clear c13
    try clear c13b0
    try clear c13b1
    try clear c14
    try clear p14
    try clear q14
    try clear hx14
    try clear c15
    try clear c15b0
    try clear c16
    try clear c16b0
    try clear c17
    try clear c17b0
    try clear c17b1
    try clear c20
    try clear c20b0
    try clear c20b1
    try clear q23
    try clear c27
    try clear c27b0
    try clear hcz12_0
    try clear hcz12_1
    try clear hcz12_2
    try clear hcz12_3
    try clear hfz12_0
    try clear hfz12_1
    try clear hfz12_2
    try clear hfz12_3
    try clear hx145_0
    try clear hx145_1
    try clear hx145_2
    try clear hx145_3
    try clear hx146_0
    try clear hx146_1
    try clear hx146_2
    try clear hx146_3
    try clear hx147_0
    try clear hx147_1
    try clear hx147_2
    try clear hx147_3
    try clear hx149_0
    try clear p1
    try clear p14
    try clear p145
    try clear p146
    try clear p147
    try clear p149
    try clear p2
    try clear p6
    try clear q1
    try clear q14
    try clear q145
    try clear q146
    try clear q147
    try clear q149
    try clear q2
    try clear q23
    obtain ⟨kq, x64_25, rfl, HA, HJ25, HO_3, BK148, HB⟩ := hcut
    cases kq with
    | zero => exact absurd HA.out (by simp [newelref01_Right.j4])
    | succ kj25 =>
     have H := HA.out
     clear HA
     simp only [newelref01_Right.j4] at H
     by_cases c29 : x64_25 = true
     ·subst c29
      have H1 : (some false) = some r := by rw [if_pos rfl] at H; exact H
      clear H
      have H := H1
      clear H1
      obtain rfl := Option.some.inj H
      go_wp2
      go_ret
      exact ⟨eA, bG⟩
     replace c29 := Bool.eq_false_iff.mpr c29
     subst c29
     have H1 : (if ((rd_T29 l0 x4_2).f1).toList = ([] : List UInt8) then (newelref01_Right.l2 kj25 l0 x3_9 x4_2 (wrap64 (x4_2 - 1)) ((rd_T29 l0 x4_2).f0) ((rd_T29 l0 x4_2).f1) ((rd_T29 l0 x4_2).f2) ((rd_T29 l0 x4_2).f3)) else ((newelref01_Name.f kj25 ((rd_T29 l0 x4_2).f1)).bind fun t153 => (if t153 = true then (if ((rd_T29 l0 x4_2).f2).toList = ([] : List UInt8) then ((newelref01_attrs.f kj25 ((rd_T29 l0 x4_2).f3)).bind fun t154 => (if t154 = true then (newelref01_Right.j5 kj25 l0 x3_9 x4_2 (decide ((x3_9.length : Int) ≥ 20))) else (newelref01_Right.j5 kj25 l0 x3_9 x4_2 true))) else (newelref01_Right.j5 kj25 l0 x3_9 x4_2 true)) else (newelref01_Right.j5 kj25 l0 x3_9 x4_2 true)))) = some r := by rw [if_neg (show ¬ (false = true) by decide)] at H; exact H
     clear H
     have H := H1
     clear H1
     by_cases c30 : ((rd_T29 l0 x4_2).f1).toList = ([] : List UInt8)
     rotate_left
     ·rw [if_neg c30] at H
      obtain ⟨c30b0, c30b1⟩ := eqF c30
      (try (have c30b2 : (((rd_T29 l0 x4_2).f1).toList).isEmpty = false := by simpa using c30))
      have HC54 := Aside0.mk H
      clear H
      obtain ⟨hcz55_0, hcz55_1, hcz55_2, hcz55_3, hfz55_0, hfz55_1, hfz55_2, hfz55_3⟩ := cells4 BK148
      go_upto_region 13 with (fail)
      go_cut [87] (fun v87 wc => ∃ (kq : Nat) (x87_53 : Bool), v87 = .bool x87_53 ∧ Aside0 (newelref01_Right.j5 kq l0 x3_9 x4_2 x87_53 = some r) ∧ Aside0 (kq ≤ kj25) ∧ Aside0 (Kd.R (Kd.int .i64) 3 wc w.heap.size (fun _ => True) u3 x3_9) ∧ Aside0 (wc.heap[gb148]? = some (.cells #[.int .i64 ((rd_T29 l0 x4_2).f0), .string ((rd_T29 l0 x4_2).f1), .string ((rd_T29 l0 x4_2).f2), (.slice A147_3 ((rd_T29 l0 x4_2).f3).length c147_3)] 29 (0, 0))) ∧ Aside0 (Below w.heap.size w wc))
      case first =>
       have H := HC54.out
       clear HC54
       replace H := bi H
       obtain ⟨t153, A560, H⟩ := H
       try dsimp only at H
       have A56 := Aside0.mk A560
       clear A560
       by_cases c57 : t153 = true
       rotate_left
       ·replace c57 := Bool.eq_false_iff.mpr c57
        subst c57
        have H1 : (newelref01_Right.j5 kj25 l0 x3_9 x4_2 true) = some r := by rw [if_neg (show ¬ (false = true) by decide)] at H; exact H
        clear H
        have H := H1
        clear H1
        have H' := Aside0.mk H
        clear H
        obtain ⟨hcz65_0, hcz65_1, hcz65_2, hcz65_3, hfz65_0, hfz65_1, hfz65_2, hfz65_3⟩ := cells4 BK148
        go_wp2_with (first | (refine gl (some 70) Try.func15 #[.string ((rd_T29 l0 x4_2).f1)] ?_; (with_reducible refine (newelref01_Name.calls kj25 ((rd_T29 l0 x4_2).f1) false _ (gS HG) A56.out).mono ?_); rintro e w' ⟨rfl, ⟨nd, rfl⟩⟩; refine ⟨_, rfl, ?_⟩))
        go_meet
        case rel => exact ⟨_, (true), cA, H', ⟨by have := HJ1.out; have := HK2.out; have := HJ9.out; have := HJ25.out; first | omega | exact Nat.le_refl _⟩, ⟨kR HO_3⟩, ⟨bK BK148⟩, ⟨bG⟩⟩
       subst c57
       have H1 : (if ((rd_T29 l0 x4_2).f2).toList = ([] : List UInt8) then ((newelref01_attrs.f kj25 ((rd_T29 l0 x4_2).f3)).bind fun t154 => (if t154 = true then (newelref01_Right.j5 kj25 l0 x3_9 x4_2 (decide ((x3_9.length : Int) ≥ 20))) else (newelref01_Right.j5 kj25 l0 x3_9 x4_2 true))) else (newelref01_Right.j5 kj25 l0 x3_9 x4_2 true)) = some r := by rw [if_pos rfl] at H; exact H
       clear H
       have H := H1
       clear H1
       by_cases c58 : ((rd_T29 l0 x4_2).f2).toList = ([] : List UInt8)
       rotate_left
       ·rw [if_neg c58] at H
        obtain ⟨c58b0, c58b1⟩ := eqF c58
        (try (have c58b2 : (((rd_T29 l0 x4_2).f2).toList).isEmpty = false := by simpa using c58))
        (first | rw [c58b0] | rw [c58b2] | (simp only [i64_w, i32_w]; rw [c58b0]) | skip)
        have H' := Aside0.mk H
        clear H
        obtain ⟨hcz64_0, hcz64_1, hcz64_2, hcz64_3, hfz64_0, hfz64_1, hfz64_2, hfz64_3⟩ := cells4 BK148
        go_wp2_with (first | (refine gl (some 70) Try.func15 #[.string ((rd_T29 l0 x4_2).f1)] ?_; (with_reducible refine (newelref01_Name.calls kj25 ((rd_T29 l0 x4_2).f1) true _ (gS HG) A56.out).mono ?_); rintro e w' ⟨rfl, ⟨nd, rfl⟩⟩; refine ⟨_, rfl, ?_⟩))
        go_meet
        case rel => exact ⟨_, (true), cA, H', ⟨by have := HJ1.out; have := HK2.out; have := HJ9.out; have := HJ25.out; first | omega | exact Nat.le_refl _⟩, ⟨kR HO_3⟩, ⟨bK BK148⟩, ⟨bG⟩⟩
       rw [if_pos c58] at H
       obtain ⟨c58b0, c58b1⟩ := eqT c58
       (try (have c58b2 : (((rd_T29 l0 x4_2).f2).toList).isEmpty = true := by simpa using c58))
       clear c58
       (first | rw [c58b0] | rw [c58b2] | (simp only [i64_w, i32_w]; rw [c58b0]) | skip)
       replace H := bi H
       obtain ⟨t154, A590, H⟩ := H
       try dsimp only at H
       have A59 := Aside0.mk A590
       clear A590
       by_cases c60 : t154 = true
       ·subst c60
        have H1 : (newelref01_Right.j5 kj25 l0 x3_9 x4_2 (decide ((x3_9.length : Int) ≥ 20))) = some r := by rw [if_pos rfl] at H; exact H
        clear H
        have H := H1
        clear H1
        have H' := Aside0.mk H
        clear H
        obtain ⟨hcz61_0, hcz61_1, hcz61_2, hcz61_3, hfz61_0, hfz61_1, hfz61_2, hfz61_3⟩ := cells4 BK148
        go_wp2_with (first | (refine gl (some 70) Try.func15 #[.string ((rd_T29 l0 x4_2).f1)] ?_; (with_reducible refine (newelref01_Name.calls kj25 ((rd_T29 l0 x4_2).f1) true _ (gS HG) A56.out).mono ?_); rintro e w' ⟨rfl, ⟨nd, rfl⟩⟩; refine ⟨_, rfl, ?_⟩) | (go_at_call 16; (with_reducible refine (newelref01_attrs.calls kj25 _ _ ((rd_T29 l0 x4_2).f3) true _ ?side1 ?side2 (gS HG) A59.out).mono ?_); (case side1 => repeat (first | exact (Kd.C_below HR147_3.out bG) | (with_reducible refine Kd.C_alloc ?_ _) | (with_reducible refine Kd.C_drewN ?_ _) | (with_reducible refine Kd.C_drew ?_))); (case side2 => exact HC147_3.out); rintro e w' ⟨rfl, ⟨nd, rfl⟩⟩; obtain ⟨Ao62, co62, eo62⟩ := Kd.R_slice HO_3.out; subst eo62))
        go_meet
        case rel => exact ⟨_, (decide ((x3_9.length : Int) ≥ 20)), cA, H', ⟨by have := HJ1.out; have := HK2.out; have := HJ9.out; have := HJ25.out; first | omega | exact Nat.le_refl _⟩, ⟨kR HO_3⟩, ⟨bK BK148⟩, ⟨bG⟩⟩
       replace c60 := Bool.eq_false_iff.mpr c60
       subst c60
       have H1 : (newelref01_Right.j5 kj25 l0 x3_9 x4_2 true) = some r := by rw [if_neg (show ¬ (false = true) by decide)] at H; exact H
       clear H
       have H := H1
       clear H1
       have H' := Aside0.mk H
       clear H
       obtain ⟨hcz63_0, hcz63_1, hcz63_2, hcz63_3, hfz63_0, hfz63_1, hfz63_2, hfz63_3⟩ := cells4 BK148
       go_wp2_with (first | (refine gl (some 70) Try.func15 #[.string ((rd_T29 l0 x4_2).f1)] ?_; (with_reducible refine (newelref01_Name.calls kj25 ((rd_T29 l0 x4_2).f1) true _ (gS HG) A56.out).mono ?_); rintro e w' ⟨rfl, ⟨nd, rfl⟩⟩; refine ⟨_, rfl, ?_⟩) | (go_at_call 16; (with_reducible refine (newelref01_attrs.calls kj25 _ _ ((rd_T29 l0 x4_2).f3) false _ ?side1 ?side2 (gS HG) A59.out).mono ?_); (case side1 => repeat (first | exact (Kd.C_below HR147_3.out bG) | (with_reducible refine Kd.C_alloc ?_ _) | (with_reducible refine Kd.C_drewN ?_ _) | (with_reducible refine Kd.C_drew ?_))); (case side2 => exact HC147_3.out); rintro e w' ⟨rfl, ⟨nd, rfl⟩⟩))
       go_meet
       case rel => exact ⟨_, (true), cA, H', ⟨by have := HJ1.out; have := HK2.out; have := HJ9.out; have := HJ25.out; first | omega | exact Nat.le_refl _⟩, ⟨kR HO_3⟩, ⟨bK BK148⟩, ⟨bG⟩⟩
      clear HC54
      try clear c1
      try clear p1
      try clear q1
      try clear hx1
      try clear p2
      try clear c3
      try clear c4
      try clear c5
      try clear c6
      try clear p6
      try clear c14
      try clear c15
      try clear c16
      try clear p16
      try clear q16
      try clear hx16
      try clear c17
      try clear c30
      try clear c30b0
      try clear c30b1
      try clear c30b2
      try clear c44
      try clear c47
      try clear c48
      try clear c49
      try clear c49b0
      try clear c49b1
      try clear c49b2
      try clear c53
      try clear c57
      try clear c58
      try clear c58b0
      try clear c58b1
      try clear c58b2
      try clear c60
      try clear p64
      try clear hcz55_0
      try clear hcz55_1
      try clear hcz55_2
      try clear hcz55_3
      try clear hcz61_0
      try clear hcz61_1
      try clear hcz61_2
      try clear hcz61_3
      try clear hcz63_0
      try clear hcz63_1
      try clear hcz63_2
      try clear hcz63_3
      try clear hcz64_0
      try clear hcz64_1
      try clear hcz64_2
      try clear hcz64_3
      try clear hcz65_0
      try clear hcz65_1
      try clear hcz65_2
      try clear hcz65_3
      try clear hfz55_0
      try clear hfz55_1
      try clear hfz55_2
      try clear hfz55_3
      try clear hfz61_0
      try clear hfz61_1
      try clear hfz61_2
      try clear hfz61_3
      try clear hfz63_0
      try clear hfz63_1
      try clear hfz63_2
      try clear hfz63_3
      try clear hfz64_0
      try clear hfz64_1
      try clear hfz64_2
      try clear hfz64_3
      try clear hfz65_0
      try clear hfz65_1
      try clear hfz65_2
      try clear hfz65_3
      try clear hx160_0
      try clear hx160_1
      try clear hx160_2
      try clear hx160_3
      try clear p1
      try clear p16
      try clear p160
      try clear p2
      try clear q1
      try clear q16
      try clear q160
      obtain ⟨kq, x87_53, rfl, HA, HJ53, HO_3, BK148, HB⟩ := hcut
      cases kq with
      | zero => exact absurd HA.out (by simp [newelref01_Right.j5])
      | succ kj53 =>
       have H := HA.out
       clear HA
       simp only [newelref01_Right.j5] at H
       by_cases c66 : x87_53 = true
       ·subst c66
        have H1 : (some false) = some r := by rw [if_pos rfl] at H; exact H
        clear H
        have H := H1
        clear H1
        obtain rfl := Option.some.inj H
        go_wp2
        go_ret
        exact ⟨eA, bG⟩
       replace c66 := Bool.eq_false_iff.mpr c66
       subst c66
       have H1 : (if x3_9.length < 17592186044416 then (newelref01_Right.l0 kj53 l0 (x3_9 ++ [x4_2]) (wrap64 (x4_2 + 1))) else (none)) = some r := by rw [if_neg (show ¬ (false = true) by decide)] at H; exact H
       clear H
       have H := H1
       clear H1
       by_cases c67 : x3_9.length < 17592186044416
       rotate_left
       ·rw [if_neg c67] at H
        exact absurd H (by simp)
       rw [if_pos c67] at H
       have LMc67 := Aside0.mk c67
       clear c67
       obtain ⟨y155, hy155⟩ : ∃ y_ : List Int, y_ = (x3_9 ++ [x4_2]) := ⟨_, rfl⟩
       replace H : (newelref01_Right.l0 kj53 l0 y155 (wrap64 (x4_2 + 1))) = some r := by first | (rw [hy155]; with_reducible exact H) | (have H2_ := (Option.bind_some _ _).symm.trans H; rw [hy155]; with_reducible exact H2_) | (have H2_ := (Option.bind_some _ _).symm.trans H; with_reducible exact H2_) | with_reducible exact H | (rw [hy155]; exact H) | exact H
       have Ny155 := Aside0.mk hy155
       clear hy155
       have H' := Aside0.mk H
       clear H
       go_wp2_with (first | ((with_reducible refine gate_builtin (b := .append) (xs := #[.tmp 88, .tmp 90]) rfl ?_); (try (refine gate_guard (by rfl) ?_; dsimp only)); at_builtin; refine Kd.R_append (Kd.int .i64) (w0 := w) w.heap.size rfl (.tmp 88) (.tmp 90) 34 3 (.int .i64 0) 8 rfl Try.underlying34 info3 rfl (by decide) (by omega) u3 x3_9 x4_2 [.int .i64 x4_2] (fun _ => True) (fun _ => False) rfl rfl ?aP (fun _ hk => hk.elim) ?aF ?aO ?aB ?aS ?aL ?_; (case aP => exact rfl); (case aB => exact bG); (case aF => exact (fun _ _ => trivial)); (case aO => exact (kR HO_3)); (case aS => exact (below_size bG)); (case aL => have := LMc67.out; omega); intro v156 w68 ho hb hg hat; rw [← Ny155.out] at ho; replace BK148 := Aside0.mk (blk_grown (g := gb148) (o := .cells #[.int .i64 ((rd_T29 l0 x4_2).f0), .string ((rd_T29 l0 x4_2).f1), .string ((rd_T29 l0 x4_2).f2), .slice A147_3 ((rd_T29 l0 x4_2).f3).length c147_3] 29 (0, 0)) (bK BK148) hg (Kd.R_ne HO_3.out BK148.out (by decide))); replace HB := Aside0.mk (hb); have HO157 := Aside0.mk (ho); clear HO_3; clear ho hb hg hat))
       go_roundg kj53
       case measure => have := HJ1.out; have := HK2.out; have := HJ9.out; have := HJ25.out; have := HJ53.out; omega
       case rel => exact ⟨(y155), (wrap64 (x4_2 + 1)), cA, H', ⟨by have := HJ1.out; have := HK2.out; have := HJ9.out; have := HJ25.out; have := HJ53.out; omega⟩, ⟨kR HO157⟩, ⟨bG⟩⟩
     rw [if_pos c30] at H
     obtain ⟨c30b0, c30b1⟩ := eqT c30
     (try (have c30b2 : (((rd_T29 l0 x4_2).f1).toList).isEmpty = true := by simpa using c30))
     clear c30
     have HC31 := Aside0.mk H
     clear H
     obtain ⟨hcz32_0, hcz32_1, hcz32_2, hcz32_3, hfz32_0, hfz32_1, hfz32_2, hfz32_3⟩ := cells4 BK148
     go_upto_block 4 with (fail)
     go_cut [6] (fun v6 wc => ∃ (kq : Nat) (x6_30 : Int), v6 = .int .i64 x6_30 ∧ Aside0 (newelref01_Right.j7 kq l0 x3_9 x4_2 x6_30 ((rd_T29 l0 x4_2).f0) ((rd_T29 l0 x4_2).f1) ((rd_T29 l0 x4_2).f2) ((rd_T29 l0 x4_2).f3) = some r) ∧ Aside0 (kq ≤ kj25) ∧ Aside0 (Kd.R (Kd.int .i64) 3 wc w.heap.size (fun _ => True) u3 x3_9) ∧ Aside0 (wc.heap[gb148]? = some (.cells #[.int .i64 ((rd_T29 l0 x4_2).f0), .string ((rd_T29 l0 x4_2).f1), .string ((rd_T29 l0 x4_2).f2), (.slice A147_3 ((rd_T29 l0 x4_2).f3).length c147_3)] 29 (0, 0))) ∧ Aside0 (Below w.heap.size w wc))
     case first =>
      have H := HC31.out
      clear HC31
      have H' := Aside0.mk H
      clear H
      go_wp2
      go_loopg [6] kj25 (fun kq v6 w' => ∃ (x6_5 : Int), v6 = .int .i64 x6_5 ∧ Aside0 (newelref01_Right.l2 kq l0 x3_9 x4_2 x6_5 ((rd_T29 l0 x4_2).f0) ((rd_T29 l0 x4_2).f1) ((rd_T29 l0 x4_2).f2) ((rd_T29 l0 x4_2).f3) = some r) ∧ Aside0 (kq ≤ kj25) ∧ Aside0 (Kd.R (Kd.int .i64) 3 w' w.heap.size (fun _ => True) u3 x3_9) ∧ Aside0 (w'.heap[gb148]? = some (.cells #[.int .i64 ((rd_T29 l0 x4_2).f0), .string ((rd_T29 l0 x4_2).f1), .string ((rd_T29 l0 x4_2).f2), (.slice A147_3 ((rd_T29 l0 x4_2).f3).length c147_3)] 29 (0, 0))) ∧ Aside0 (Below w.heap.size w w'))
      case atStart => exact ⟨(wrap64 (x4_2 - 1)), cA, H', ⟨Nat.le_refl _⟩, ⟨kR HO_3⟩, ⟨bK BK148⟩, ⟨bG⟩⟩
      clear H'
      try clear c1
      try clear p1
      try clear q1
      try clear hx1
      try clear qi1
      try clear c2
      try clear p2
      try clear q2
      try clear c3
      try clear c3b0
      try clear c3b1
      try clear c3b2
      try clear c4
      try clear c4b0
      try clear c4b1
      try clear c5
      try clear c5b0
      try clear c5b1
      try clear c6
      try clear c6b0
      try clear c6b1
      try clear p6
      try clear c7
      try clear c8
      try clear c8b0
      try clear c9
      try clear c9b0
      try clear c10
      try clear c13
      try clear c13b0
      try clear c13b1
      try clear c14
      try clear p14
      try clear q14
      try clear hx14
      try clear c15
      try clear c15b0
      try clear c16
      try clear c16b0
      try clear c17
      try clear c17b0
      try clear c17b1
      try clear c20
      try clear c20b0
      try clear c20b1
      try clear q23
      try clear c27
      try clear c27b0
      try clear c29
      try clear c30
      try clear c30b0
      try clear c30b1
      try clear c30b2
      try clear hcz12_0
      try clear hcz12_1
      try clear hcz12_2
      try clear hcz12_3
      try clear hcz32_0
      try clear hcz32_1
      try clear hcz32_2
      try clear hcz32_3
      try clear hfz12_0
      try clear hfz12_1
      try clear hfz12_2
      try clear hfz12_3
      try clear hfz32_0
      try clear hfz32_1
      try clear hfz32_2
      try clear hfz32_3
      try clear hx145_0
      try clear hx145_1
      try clear hx145_2
      try clear hx145_3
      try clear hx146_0
      try clear hx146_1
      try clear hx146_2
      try clear hx146_3
      try clear hx147_0
      try clear hx147_1
      try clear hx147_2
      try clear hx147_3
      try clear hx149_0
      try clear p1
      try clear p14
      try clear p145
      try clear p146
      try clear p147
      try clear p149
      try clear p2
      try clear p6
      try clear q1
      try clear q14
      try clear q145
      try clear q146
      try clear q147
      try clear q149
      try clear q2
      try clear q23
      obtain ⟨x6_5, rfl, HA, HK5, HO_3, BK148, HB⟩ := hrel
      cases gk with
      | zero => exact absurd HA.out (by simp [newelref01_Right.l2])
      | succ k5 =>
       have H := HA.out
       clear HA
       simp only [newelref01_Right.l2] at H
       by_cases c33 : x6_5 > 0
       rotate_left
       ·rw [if_neg c33] at H
        have c33b0 := dF c33
        clear c33
        (first | rw [c33b0] | (simp only [i64_w, i32_w]; rw [c33b0]) | skip)
        have H' := Aside0.mk H
        clear H
        try go_wp2
        replace HO_3 := Aside0.mk (Kd.R_drew HO_3.out)
        replace BK148 := Aside0.mk (blk_drew BK148.out)
        replace HB := Aside0.mk (below_drew1 HB.out)
        refine start_ (n := 12) (S := fun w' => True) (ds := []) #[false, false, false, false, false, false, false, false, false, false, false, false] (by kernel_rfl) rfl rfl trivial (fun hHeld => ?_); refine with_tabW newelref01_Right.tab17 newelref01_Right.bits17 (fun HT_ HW_ => ?_)
        generalize wr.drew = w39 at HO_3 BK148 HB hHeld ⊢
        refine pz 0 (some 94) HT_ ?_
        refine pz 1 (some 95) HT_ ?_
        refine pz 2 (some 96) HT_ ?_
        refine pu 3 (some 97) HT_ ?_
        refine pu 4 (some 98) HT_ ?_
        refine pu 5 (some 99) HT_ ?_
        refine pu 6 (some 100) HT_ ?_
        refine pu 7 (some 101) HT_ ?_
        refine pu 8 (some 102) HT_ ?_
        refine pu 9 (some 103) HT_ ?_
        refine pu 10 (some 104) HT_ ?_
        refine pz 11 (some 105) HT_ ?_
        refine done_ (done_of HT_.out (by kernel_rfl)) ?_
        try go_wp2
        go_meet
        case rel => exact ⟨_, (x6_5), cA, H', ⟨by have := HJ1.out; have := HK2.out; have := HJ9.out; have := HJ25.out; have := HK5.out; first | omega | exact Nat.le_refl _⟩, ⟨kR HO_3⟩, ⟨bK BK148⟩, ⟨bG⟩⟩
       rw [if_pos c33] at H
       have c33b0 := dT c33
       clear c33
       (first | rw [c33b0] | (simp only [i64_w, i32_w]; rw [c33b0]) | skip)
       by_cases c34 : 0 ≤ x6_5
       rotate_left
       ·rw [if_neg c34] at H
        exact absurd H (by simp)
       rw [if_pos c34] at H
       have c34b0 := dT c34
       clear c34
       by_cases c35 : x6_5 < (l0.length : Int)
       rotate_left
       ·rw [if_neg c35] at H
        exact absurd H (by simp)
       rw [if_pos c35] at H
       have c35b0 := dT c35
       clear c35
       by_cases c36 : ((rd_T29 l0 x6_5).f0) = ((rd_T29 l0 x4_2).f0)
       rotate_left
       ·rw [if_neg c36] at H
        obtain ⟨c36b0, c36b1⟩ := eqF c36
        have H' := Aside0.mk H
        clear H
        try go_wp2
        replace HO_3 := Aside0.mk (Kd.R_drew HO_3.out)
        replace BK148 := Aside0.mk (blk_drew BK148.out)
        replace HB := Aside0.mk (below_drew1 HB.out)
        have p158 : 0 ≤ (x6_5 : Int) := dA
        have q158 : x6_5 < (l0.length : Int) := dA
        obtain ⟨ad158, A158_3, c158_3, e158, hx158_0, hx158_1, hx158_2, hx158_3, hl158_3, hi158_3⟩ := at_T29 HR0.out x6_5 p158 q158
        have hw158_3 := hx158_3
        have hw158_2 := hx158_2
        have hw158_1 := hx158_1
        have hw158_0 := hx158_0
        obtain rfl : ad147 = ad158 := (by injection e158)
        replace hx158_0 := (HB.out.cell (World.block_lt_of_cell? w _ hx158_0)).trans hx158_0
        replace hx158_1 := (HB.out.cell (World.block_lt_of_cell? w _ hx158_1)).trans hx158_1
        replace hx158_2 := (HB.out.cell (World.block_lt_of_cell? w _ hx158_2)).trans hx158_2
        replace hx158_3 := (HB.out.cell (World.block_lt_of_cell? w _ hx158_3)).trans hx158_3
        have HR158_3 := Aside0.mk hi158_3
        have HC158_3 := Aside0.mk hl158_3
        clear hi158_3 hl158_3
        replace p158 := eq_true p158
        replace q158 := eq_true q158
        refine start_ (n := 12) (S := fun w' => w'.cell? ⟨gb148, 0, none⟩ = some (.int .i64 ((rd_T29 l0 x4_2).f0)) ∧ w'.cell? ⟨gb148, 1, none⟩ = some (.string ((rd_T29 l0 x4_2).f1)) ∧ w'.cell? ⟨gb148, 2, none⟩ = some (.string ((rd_T29 l0 x4_2).f2)) ∧ w'.cell? ⟨gb148, 3, none⟩ = some (.slice A147_3 ((rd_T29 l0 x4_2).f3).length c147_3) ∧ w'.cell? (ad147.add ((x6_5).toNat * 4)) = some (.int .i64 ((rd_T29 l0 x6_5).f0)) ∧ w'.cell? ⟨(ad147.add ((x6_5).toNat * 4)).block, (ad147.add ((x6_5).toNat * 4)).off + 1, none⟩ = some (.string ((rd_T29 l0 x6_5).f1)) ∧ w'.cell? ⟨(ad147.add ((x6_5).toNat * 4)).block, (ad147.add ((x6_5).toNat * 4)).off + 2, none⟩ = some (.string ((rd_T29 l0 x6_5).f2)) ∧ w'.cell? ⟨(ad147.add ((x6_5).toNat * 4)).block, (ad147.add ((x6_5).toNat * 4)).off + 3, none⟩ = some (.slice A158_3 ((rd_T29 l0 x6_5).f3).length c158_3)) (ds := []) #[false, false, false, false, false, false, false, false, false, false, false, false] (by kernel_rfl) rfl rfl ⟨(blk_cell BK148.out 0).trans rfl, (blk_cell BK148.out 1).trans rfl, (blk_cell BK148.out 2).trans rfl, (blk_cell BK148.out 3).trans rfl, ((HB.out.cell (World.block_lt_of_cell? w _ hw158_0)).trans hw158_0), ((HB.out.cell (World.block_lt_of_cell? w _ hw158_1)).trans hw158_1), ((HB.out.cell (World.block_lt_of_cell? w _ hw158_2)).trans hw158_2), ((HB.out.cell (World.block_lt_of_cell? w _ hw158_3)).trans hw158_3)⟩ (fun hHeld => ?_); refine with_tabW newelref01_Right.tab17 newelref01_Right.bits17 (fun HT_ HW_ => ?_)
        generalize wr.drew = w38 at HO_3 BK148 HB HR158_3 hx158_0 hx158_1 hx158_2 hx158_3 hHeld ⊢
        refine pz 0 (some 94) HT_ ?_
        refine pz 1 (some 95) HT_ ?_
        refine pz 2 (some 96) HT_ ?_
        refine pz 3 (some 97) HT_ ?_
        refine pz 4 (some 98) HT_ ?_
        refine pz 5 (some 99) HT_ ?_
        refine pz 6 (some 100) HT_ ?_
        refine pz 8 (some 102) HT_ ?_
        refine tm 7 (some 101) HT_ HW_ hHeld ?_
        refine tm 9 (some 103) HT_ HW_ hHeld ?_
        refine pz 10 (some 104) HT_ ?_
        refine pz 11 (some 105) HT_ ?_
        refine done_ (done_of HT_.out (by kernel_rfl)) ?_
        try go_wp2
        go_roundg k5
        case measure => have := HJ1.out; have := HK2.out; have := HJ9.out; have := HJ25.out; have := HK5.out; omega
        case rel => exact ⟨(wrap64 (x6_5 - 1)), cA, H', ⟨by have := HJ1.out; have := HK2.out; have := HJ9.out; have := HJ25.out; have := HK5.out; omega⟩, ⟨kR HO_3⟩, ⟨bK BK148⟩, ⟨bG⟩⟩
       rw [if_pos c36] at H
       obtain ⟨c36b0, c36b1⟩ := eqT c36
       clear c36
       have H' := Aside0.mk H
       clear H
       try go_wp2
       replace HO_3 := Aside0.mk (Kd.R_drew HO_3.out)
       replace BK148 := Aside0.mk (blk_drew BK148.out)
       replace HB := Aside0.mk (below_drew1 HB.out)
       have p158 : 0 ≤ (x6_5 : Int) := dA
       have q158 : x6_5 < (l0.length : Int) := dA
       obtain ⟨ad158, A158_3, c158_3, e158, hx158_0, hx158_1, hx158_2, hx158_3, hl158_3, hi158_3⟩ := at_T29 HR0.out x6_5 p158 q158
       have hw158_3 := hx158_3
       have hw158_2 := hx158_2
       have hw158_1 := hx158_1
       have hw158_0 := hx158_0
       obtain rfl : ad147 = ad158 := (by injection e158)
       replace hx158_0 := (HB.out.cell (World.block_lt_of_cell? w _ hx158_0)).trans hx158_0
       replace hx158_1 := (HB.out.cell (World.block_lt_of_cell? w _ hx158_1)).trans hx158_1
       replace hx158_2 := (HB.out.cell (World.block_lt_of_cell? w _ hx158_2)).trans hx158_2
       replace hx158_3 := (HB.out.cell (World.block_lt_of_cell? w _ hx158_3)).trans hx158_3
       have HR158_3 := Aside0.mk hi158_3
       have HC158_3 := Aside0.mk hl158_3
       clear hi158_3 hl158_3
       replace p158 := eq_true p158
       replace q158 := eq_true q158
       refine start_ (n := 12) (S := fun w' => w'.cell? ⟨gb148, 0, none⟩ = some (.int .i64 ((rd_T29 l0 x4_2).f0)) ∧ w'.cell? ⟨gb148, 1, none⟩ = some (.string ((rd_T29 l0 x4_2).f1)) ∧ w'.cell? ⟨gb148, 2, none⟩ = some (.string ((rd_T29 l0 x4_2).f2)) ∧ w'.cell? ⟨gb148, 3, none⟩ = some (.slice A147_3 ((rd_T29 l0 x4_2).f3).length c147_3) ∧ w'.cell? (ad147.add ((x6_5).toNat * 4)) = some (.int .i64 ((rd_T29 l0 x6_5).f0)) ∧ w'.cell? ⟨(ad147.add ((x6_5).toNat * 4)).block, (ad147.add ((x6_5).toNat * 4)).off + 1, none⟩ = some (.string ((rd_T29 l0 x6_5).f1)) ∧ w'.cell? ⟨(ad147.add ((x6_5).toNat * 4)).block, (ad147.add ((x6_5).toNat * 4)).off + 2, none⟩ = some (.string ((rd_T29 l0 x6_5).f2)) ∧ w'.cell? ⟨(ad147.add ((x6_5).toNat * 4)).block, (ad147.add ((x6_5).toNat * 4)).off + 3, none⟩ = some (.slice A158_3 ((rd_T29 l0 x6_5).f3).length c158_3)) (ds := []) #[false, false, false, false, false, false, false, false, false, false, false, false] (by kernel_rfl) rfl rfl ⟨(blk_cell BK148.out 0).trans rfl, (blk_cell BK148.out 1).trans rfl, (blk_cell BK148.out 2).trans rfl, (blk_cell BK148.out 3).trans rfl, ((HB.out.cell (World.block_lt_of_cell? w _ hw158_0)).trans hw158_0), ((HB.out.cell (World.block_lt_of_cell? w _ hw158_1)).trans hw158_1), ((HB.out.cell (World.block_lt_of_cell? w _ hw158_2)).trans hw158_2), ((HB.out.cell (World.block_lt_of_cell? w _ hw158_3)).trans hw158_3)⟩ (fun hHeld => ?_); refine with_tabW newelref01_Right.tab17 newelref01_Right.bits17 (fun HT_ HW_ => ?_)
       generalize wr.drew = w37 at HO_3 BK148 HB HR158_3 hx158_0 hx158_1 hx158_2 hx158_3 hHeld ⊢
       refine pz 0 (some 94) HT_ ?_
       refine pz 1 (some 95) HT_ ?_
       refine pz 2 (some 96) HT_ ?_
       refine pz 3 (some 97) HT_ ?_
       refine pz 4 (some 98) HT_ ?_
       refine pz 5 (some 99) HT_ ?_
       refine pz 6 (some 100) HT_ ?_
       refine pz 8 (some 102) HT_ ?_
       refine tm 7 (some 101) HT_ HW_ hHeld ?_
       refine tm 9 (some 103) HT_ HW_ hHeld ?_
       refine pz 10 (some 104) HT_ ?_
       refine pz 11 (some 105) HT_ ?_
       refine done_ (done_of HT_.out (by kernel_rfl)) ?_
       try go_wp2
       go_meet
       case rel => exact ⟨_, (x6_5), cA, H', ⟨by have := HJ1.out; have := HK2.out; have := HJ9.out; have := HJ25.out; have := HK5.out; first | omega | exact Nat.le_refl _⟩, ⟨kR HO_3⟩, ⟨bK BK148⟩, ⟨bG⟩⟩
     clear HC31
     try clear c1
     try clear p1
     try clear q1
     try clear hx1
     try clear qi1
     try clear c2
     try clear p2
     try clear q2
     try clear c3
     try clear c3b0
     try clear c3b1
     try clear c3b2
     try clear c4
     try clear c4b0
     try clear c4b1
     try clear c5
     try clear c5b0
     try clear c5b1
     try clear c6
     try clear c6b0
     try clear c6b1
     try clear p6
     try clear c7
     try clear c8
     try clear c8b0
     try clear c9
     try clear c9b0
     try clear c10
     try clear c13
     try clear c13b0
     try clear c13b1
     try clear c14
     try clear p14
     try clear q14
     try clear hx14
     try clear c15
     try clear c15b0
     try clear p15
     try clear q15
     try clear hx15
     try clear c16
     try clear c16b0
     try clear c17
     try clear c17b0
     try clear c17b1
     try clear c20
     try clear c20b0
     try clear c20b1
     try clear q23
     try clear c27
     try clear c27b0
     try clear c29
     try clear c30
     try clear c30b0
     try clear c30b1
     try clear c30b2
     try clear c33
     try clear c33b0
     try clear c34
     try clear c34b0
     try clear c35
     try clear c35b0
     try clear c36
     try clear c36b0
     try clear c36b1
     try clear hcz12_0
     try clear hcz12_1
     try clear hcz12_2
     try clear hcz12_3
     try clear hcz32_0
     try clear hcz32_1
     try clear hcz32_2
     try clear hcz32_3
     try clear hfz12_0
     try clear hfz12_1
     try clear hfz12_2
     try clear hfz12_3
     try clear hfz32_0
     try clear hfz32_1
     try clear hfz32_2
     try clear hfz32_3
     try clear hx145_0
     try clear hx145_1
     try clear hx145_2
     try clear hx145_3
     try clear hx146_0
     try clear hx146_1
     try clear hx146_2
     try clear hx146_3
     try clear hx147_0
     try clear hx147_1
     try clear hx147_2
     try clear hx147_3
     try clear hx149_0
     try clear hx158_0
     try clear hx158_1
     try clear hx158_2
     try clear hx158_3
     try clear p1
     try clear p14
     try clear p145
     try clear p146
     try clear p147
     try clear p149
     try clear p158
     try clear p2
     try clear p6
     try clear q1
     try clear q14
     try clear q145
     try clear q146
     try clear q147
     try clear q149
     try clear q158
     try clear q2
     try clear q23
     obtain ⟨kq, x6_30, rfl, HA, HJ30, HO_3, BK148, HB⟩ := hcut
     cases kq with
     | zero => exact absurd HA.out (by simp [newelref01_Right.j7])
     | succ kj30 =>
      have H := HA.out
      clear HA
      simp only [newelref01_Right.j7] at H
      have HC40 := Aside0.mk H
      clear H
      go_upto_region 19 with (fail)
      go_cut [140] (fun v140 wc => ∃ (kq : Nat) (x140_39 : Bool), v140 = .bool x140_39 ∧ Aside0 (newelref01_Right.j8 kq l0 x3_9 x4_2 x140_39 = some r) ∧ Aside0 (kq ≤ kj30) ∧ Aside0 (Kd.R (Kd.int .i64) 3 wc w.heap.size (fun _ => True) u3 x3_9) ∧ Aside0 (wc.heap[gb148]? = some (.cells #[.int .i64 ((rd_T29 l0 x4_2).f0), .string ((rd_T29 l0 x4_2).f1), .string ((rd_T29 l0 x4_2).f2), (.slice A147_3 ((rd_T29 l0 x4_2).f3).length c147_3)] 29 (0, 0))) ∧ Aside0 (Below w.heap.size w wc))
      case first =>
       have H := HC40.out
       clear HC40
       by_cases c41 : ((rd_T29 l0 x4_2).f2).toList = ([] : List UInt8)
       ·rw [if_pos c41] at H
        obtain ⟨c41b0, c41b1⟩ := eqT c41
        (try (have c41b2 : (((rd_T29 l0 x4_2).f2).toList).isEmpty = true := by simpa using c41))
        clear c41
        (first | rw [c41b0] | rw [c41b2] | (simp only [i64_w, i32_w]; rw [c41b0]) | skip)
        have H' := Aside0.mk H
        clear H
        try go_wp2
        replace HO_3 := Aside0.mk (Kd.R_drew HO_3.out)
        replace BK148 := Aside0.mk (blk_drew BK148.out)
        replace HB := Aside0.mk (below_drew1 HB.out)
        refine start_ (n := 33) (S := fun w' => w'.cell? ⟨gb148, 0, none⟩ = some (.int .i64 ((rd_T29 l0 x4_2).f0)) ∧ w'.cell? ⟨gb148, 1, none⟩ = some (.string ((rd_T29 l0 x4_2).f1)) ∧ w'.cell? ⟨gb148, 2, none⟩ = some (.string ((rd_T29 l0 x4_2).f2)) ∧ w'.cell? ⟨gb148, 3, none⟩ = some (.slice A147_3 ((rd_T29 l0 x4_2).f3).length c147_3)) (ds := []) #[false, false, false, false, false, false, false, false, false, false, false, false, false, false, false, false, false, false, false, false, false, false, false, false, false, false, false, false, false, false, false, false, false] (by kernel_rfl) rfl rfl ⟨(blk_cell BK148.out 0).trans rfl, (blk_cell BK148.out 1).trans rfl, (blk_cell BK148.out 2).trans rfl, (blk_cell BK148.out 3).trans rfl⟩ (fun hHeld => ?_); refine with_tabW newelref01_Right.tab19 newelref01_Right.bits19 (fun HT_ HW_ => ?_)
        generalize wc.drew = w42 at HO_3 BK148 HB hHeld ⊢
        refine pz 0 (some 108) HT_ ?_
        refine tm 1 (some 109) HT_ HW_ hHeld ?_
        refine pz 2 (some 110) HT_ ?_
        refine pz 3 (some 111) HT_ ?_
        refine pu 4 (some 112) HT_ ?_
        refine pu 5 (some 113) HT_ ?_
        refine pu 6 (some 114) HT_ ?_
        refine pu 7 (some 115) HT_ ?_
        refine pz 8 (some 116) HT_ ?_
        refine pz 9 (some 117) HT_ ?_
        refine pu 10 (some 118) HT_ ?_
        refine pu 11 (some 119) HT_ ?_
        refine pu 12 (some 120) HT_ ?_
        refine pu 13 (some 121) HT_ ?_
        refine pz 14 (some 122) HT_ ?_
        refine pz 15 (some 123) HT_ ?_
        refine pu 16 (some 124) HT_ ?_
        refine pu 17 (some 125) HT_ ?_
        refine pu 18 (some 126) HT_ ?_
        refine pu 19 (some 127) HT_ ?_
        refine pu 20 (some 128) HT_ ?_
        refine pu 21 (some 129) HT_ ?_
        refine pu 22 (some 130) HT_ ?_
        refine pu 23 (some 131) HT_ ?_
        refine pu 24 (some 132) HT_ ?_
        refine pu 25 (some 133) HT_ ?_
        refine pu 26 (some 134) HT_ ?_
        refine pu 27 (some 135) HT_ ?_
        refine pu 28 (some 136) HT_ ?_
        refine pu 29 (some 137) HT_ ?_
        refine pu 30 (some 138) HT_ ?_
        refine pu 31 (some 139) HT_ ?_
        refine pz 32 (some 140) HT_ ?_
        refine done_ (done_of HT_.out (by kernel_rfl)) ?_
        try go_wp2
        go_meet
        case rel => exact ⟨_, (true), cA, H', ⟨by have := HJ1.out; have := HK2.out; have := HJ9.out; have := HJ25.out; have := HJ30.out; first | omega | exact Nat.le_refl _⟩, ⟨kR HO_3⟩, ⟨bK BK148⟩, ⟨bG⟩⟩
       rw [if_neg c41] at H
       obtain ⟨c41b0, c41b1⟩ := eqF c41
       (try (have c41b2 : (((rd_T29 l0 x4_2).f2).toList).isEmpty = false := by simpa using c41))
       (first | rw [c41b0] | rw [c41b2] | (simp only [i64_w, i32_w]; rw [c41b0]) | skip)
       replace H := bi H
       obtain ⟨t159, A430, H⟩ := H
       try dsimp only at H
       have A43 := Aside0.mk A430
       clear A430
       by_cases c44 : t159 = true
       rotate_left
       ·replace c44 := Bool.eq_false_iff.mpr c44
        subst c44
        have H1 : (newelref01_Right.j8 kj30 l0 x3_9 x4_2 true) = some r := by rw [if_neg (show ¬ (false = true) by decide)] at H; exact H
        clear H
        have H := H1
        clear H1
        have H' := Aside0.mk H
        clear H
        try go_wp2
        replace HO_3 := Aside0.mk (Kd.R_drew HO_3.out)
        replace BK148 := Aside0.mk (blk_drew BK148.out)
        replace HB := Aside0.mk (below_drew1 HB.out)
        refine start_ (n := 33) (S := fun w' => w'.cell? ⟨gb148, 0, none⟩ = some (.int .i64 ((rd_T29 l0 x4_2).f0)) ∧ w'.cell? ⟨gb148, 1, none⟩ = some (.string ((rd_T29 l0 x4_2).f1)) ∧ w'.cell? ⟨gb148, 2, none⟩ = some (.string ((rd_T29 l0 x4_2).f2)) ∧ w'.cell? ⟨gb148, 3, none⟩ = some (.slice A147_3 ((rd_T29 l0 x4_2).f3).length c147_3)) (ds := []) #[false, false, false, false, false, false, false, false, false, false, false, false, false, false, false, false, false, false, false, false, false, false, false, false, false, false, false, false, false, false, false, false, false] (by kernel_rfl) rfl rfl ⟨(blk_cell BK148.out 0).trans rfl, (blk_cell BK148.out 1).trans rfl, (blk_cell BK148.out 2).trans rfl, (blk_cell BK148.out 3).trans rfl⟩ (fun hHeld => ?_); refine with_tabW newelref01_Right.tab19 newelref01_Right.bits19 (fun HT_ HW_ => ?_)
        generalize wc.drew = w52 at HO_3 BK148 HB hHeld ⊢
        refine pz 0 (some 108) HT_ ?_
        refine tm 1 (some 109) HT_ HW_ hHeld ?_
        refine pz 2 (some 110) HT_ ?_
        refine pz 3 (some 111) HT_ ?_
        refine pz 4 (some 112) HT_ ?_
        refine tm 5 (some 113) HT_ HW_ hHeld ?_
        refine on 6 (some 114) HT_ (fun K hK => ?_)
        refine goes_ Try.func17 (by kernel_rfl) rfl #[.string ((rd_T29 l0 x4_2).f2)] (by rfl) rfl rfl mA ?_
        with_reducible refine (newelref01_all.calls kj30 ((rd_T29 l0 x4_2).f2) false _ (gS HG) A43.out).mono ?_
        rintro e w' ⟨rfl, ⟨nd, rfl⟩⟩
        refine ⟨_, rfl, ?_⟩
        refine hK.out _ _ ⟨(blk_cell BK148.out 0).trans rfl, (blk_cell BK148.out 1).trans rfl, (blk_cell BK148.out 2).trans rfl, (blk_cell BK148.out 3).trans rfl⟩ (fun hHeld => ?_)
        clear hK K
        refine nz (some 114) ?_
        refine pz 7 (some 115) HT_ ?_
        refine pz 8 (some 116) HT_ ?_
        refine pz 9 (some 117) HT_ ?_
        refine pu 10 (some 118) HT_ ?_
        refine pu 11 (some 119) HT_ ?_
        refine pu 12 (some 120) HT_ ?_
        refine pu 13 (some 121) HT_ ?_
        refine pz 14 (some 122) HT_ ?_
        refine pz 15 (some 123) HT_ ?_
        refine pu 16 (some 124) HT_ ?_
        refine pu 17 (some 125) HT_ ?_
        refine pu 18 (some 126) HT_ ?_
        refine pu 19 (some 127) HT_ ?_
        refine pu 20 (some 128) HT_ ?_
        refine pu 21 (some 129) HT_ ?_
        refine pu 22 (some 130) HT_ ?_
        refine pu 23 (some 131) HT_ ?_
        refine pu 24 (some 132) HT_ ?_
        refine pu 25 (some 133) HT_ ?_
        refine pu 26 (some 134) HT_ ?_
        refine pu 27 (some 135) HT_ ?_
        refine pu 28 (some 136) HT_ ?_
        refine pu 29 (some 137) HT_ ?_
        refine pu 30 (some 138) HT_ ?_
        refine pu 31 (some 139) HT_ ?_
        refine pz 32 (some 140) HT_ ?_
        refine done_ (done_of HT_.out (by kernel_rfl)) ?_
        try go_wp2
        go_meet
        case rel => exact ⟨_, (true), cA, H', ⟨by have := HJ1.out; have := HK2.out; have := HJ9.out; have := HJ25.out; have := HJ30.out; first | omega | exact Nat.le_refl _⟩, ⟨kR HO_3⟩, ⟨bK BK148⟩, ⟨bG⟩⟩
       subst c44
       have H1 : (if (((rd_T29 l0 x4_2).f3).length : Int) > 0 then (newelref01_Right.j8 kj30 l0 x3_9 x4_2 true) else (if 0 ≤ x6_30 then (if x6_30 < (l0.length : Int) then (if ((rd_T29 l0 x6_30).f1).toList = ([] : List UInt8) then (newelref01_Right.j8 kj30 l0 x3_9 x4_2 (((rd_T29 l0 x6_30).f0) == ((rd_T29 l0 x4_2).f0))) else (newelref01_Right.j8 kj30 l0 x3_9 x4_2 false)) else (none)) else (none))) = some r := by rw [if_pos rfl] at H; exact H
       clear H
       have H := H1
       clear H1
       by_cases c45 : (((rd_T29 l0 x4_2).f3).length : Int) > 0
       ·rw [if_pos c45] at H
        have c45b0 := dT c45
        have c45b1 : decide (0 < ((rd_T29 l0 x4_2).f3).length) = true := decide_eq_true (by omega)
        clear c45
        have H' := Aside0.mk H
        clear H
        try go_wp2
        replace HO_3 := Aside0.mk (Kd.R_drew HO_3.out)
        replace BK148 := Aside0.mk (blk_drew BK148.out)
        replace HB := Aside0.mk (below_drew1 HB.out)
        refine start_ (n := 33) (S := fun w' => w'.cell? ⟨gb148, 0, none⟩ = some (.int .i64 ((rd_T29 l0 x4_2).f0)) ∧ w'.cell? ⟨gb148, 1, none⟩ = some (.string ((rd_T29 l0 x4_2).f1)) ∧ w'.cell? ⟨gb148, 2, none⟩ = some (.string ((rd_T29 l0 x4_2).f2)) ∧ w'.cell? ⟨gb148, 3, none⟩ = some (.slice A147_3 ((rd_T29 l0 x4_2).f3).length c147_3)) (ds := []) #[false, false, false, false, false, false, false, false, false, false, false, false, false, false, false, false, false, false, false, false, false, false, false, false, false, false, false, false, false, false, false, false, false] (by kernel_rfl) rfl rfl ⟨(blk_cell BK148.out 0).trans rfl, (blk_cell BK148.out 1).trans rfl, (blk_cell BK148.out 2).trans rfl, (blk_cell BK148.out 3).trans rfl⟩ (fun hHeld => ?_); refine with_tabW newelref01_Right.tab19 newelref01_Right.bits19 (fun HT_ HW_ => ?_)
        generalize wc.drew = w46 at HO_3 BK148 HB hHeld ⊢
        refine pz 0 (some 108) HT_ ?_
        refine tm 1 (some 109) HT_ HW_ hHeld ?_
        refine pz 2 (some 110) HT_ ?_
        refine pz 3 (some 111) HT_ ?_
        refine pz 4 (some 112) HT_ ?_
        refine tm 5 (some 113) HT_ HW_ hHeld ?_
        refine on 6 (some 114) HT_ (fun K hK => ?_)
        refine goes_ Try.func17 (by kernel_rfl) rfl #[.string ((rd_T29 l0 x4_2).f2)] (by rfl) rfl rfl mA ?_
        with_reducible refine (newelref01_all.calls kj30 ((rd_T29 l0 x4_2).f2) true _ (gS HG) A43.out).mono ?_
        rintro e w' ⟨rfl, ⟨nd, rfl⟩⟩
        refine ⟨_, rfl, ?_⟩
        refine hK.out _ _ ⟨(blk_cell BK148.out 0).trans rfl, (blk_cell BK148.out 1).trans rfl, (blk_cell BK148.out 2).trans rfl, (blk_cell BK148.out 3).trans rfl⟩ (fun hHeld => ?_)
        clear hK K
        refine nz (some 114) ?_
        refine pz 7 (some 115) HT_ ?_
        refine pz 8 (some 116) HT_ ?_
        refine pz 9 (some 117) HT_ ?_
        refine pz 10 (some 118) HT_ ?_
        refine tm 11 (some 119) HT_ HW_ hHeld ?_
        refine pz 12 (some 120) HT_ ?_
        refine pz 13 (some 121) HT_ ?_
        refine pz 14 (some 122) HT_ ?_
        refine pz 15 (some 123) HT_ ?_
        refine pu 16 (some 124) HT_ ?_
        refine pu 17 (some 125) HT_ ?_
        refine pu 18 (some 126) HT_ ?_
        refine pu 19 (some 127) HT_ ?_
        refine pu 20 (some 128) HT_ ?_
        refine pu 21 (some 129) HT_ ?_
        refine pu 22 (some 130) HT_ ?_
        refine pu 23 (some 131) HT_ ?_
        refine pu 24 (some 132) HT_ ?_
        refine pu 25 (some 133) HT_ ?_
        refine pu 26 (some 134) HT_ ?_
        refine pu 27 (some 135) HT_ ?_
        refine pu 28 (some 136) HT_ ?_
        refine pu 29 (some 137) HT_ ?_
        refine pu 30 (some 138) HT_ ?_
        refine pu 31 (some 139) HT_ ?_
        refine pz 32 (some 140) HT_ ?_
        refine done_ (done_of HT_.out (by kernel_rfl)) ?_
        try go_wp2
        go_meet
        case rel => exact ⟨_, (true), cA, H', ⟨by have := HJ1.out; have := HK2.out; have := HJ9.out; have := HJ25.out; have := HJ30.out; first | omega | exact Nat.le_refl _⟩, ⟨kR HO_3⟩, ⟨bK BK148⟩, ⟨bG⟩⟩
       rw [if_neg c45] at H
       have c45b0 := dF c45
       have c45b1 : decide (0 < ((rd_T29 l0 x4_2).f3).length) = false := decide_eq_false (by omega)
       clear c45
       by_cases c47 : 0 ≤ x6_30
       rotate_left
       ·rw [if_neg c47] at H
        exact absurd H (by simp)
       rw [if_pos c47] at H
       have c47b0 := dT c47
       clear c47
       by_cases c48 : x6_30 < (l0.length : Int)
       rotate_left
       ·rw [if_neg c48] at H
        exact absurd H (by simp)
       rw [if_pos c48] at H
       have c48b0 := dT c48
       clear c48
       by_cases c49 : ((rd_T29 l0 x6_30).f1).toList = ([] : List UInt8)
       rotate_left
       ·rw [if_neg c49] at H
        obtain ⟨c49b0, c49b1⟩ := eqF c49
        (try (have c49b2 : (((rd_T29 l0 x6_30).f1).toList).isEmpty = false := by simpa using c49))
        have H' := Aside0.mk H
        clear H
        try go_wp2
        replace HO_3 := Aside0.mk (Kd.R_drew HO_3.out)
        replace BK148 := Aside0.mk (blk_drew BK148.out)
        replace HB := Aside0.mk (below_drew1 HB.out)
        have p160 : 0 ≤ (x6_30 : Int) := dA
        have q160 : x6_30 < (l0.length : Int) := dA
        obtain ⟨ad160, A160_3, c160_3, e160, hx160_0, hx160_1, hx160_2, hx160_3, hl160_3, hi160_3⟩ := at_T29 HR0.out x6_30 p160 q160
        have hw160_3 := hx160_3
        have hw160_2 := hx160_2
        have hw160_1 := hx160_1
        have hw160_0 := hx160_0
        obtain rfl : ad147 = ad160 := (by injection e160)
        replace hx160_0 := (HB.out.cell (World.block_lt_of_cell? w _ hx160_0)).trans hx160_0
        replace hx160_1 := (HB.out.cell (World.block_lt_of_cell? w _ hx160_1)).trans hx160_1
        replace hx160_2 := (HB.out.cell (World.block_lt_of_cell? w _ hx160_2)).trans hx160_2
        replace hx160_3 := (HB.out.cell (World.block_lt_of_cell? w _ hx160_3)).trans hx160_3
        have HR160_3 := Aside0.mk hi160_3
        have HC160_3 := Aside0.mk hl160_3
        clear hi160_3 hl160_3
        replace p160 := eq_true p160
        replace q160 := eq_true q160
        refine start_ (n := 33) (S := fun w' => w'.cell? ⟨gb148, 0, none⟩ = some (.int .i64 ((rd_T29 l0 x4_2).f0)) ∧ w'.cell? ⟨gb148, 1, none⟩ = some (.string ((rd_T29 l0 x4_2).f1)) ∧ w'.cell? ⟨gb148, 2, none⟩ = some (.string ((rd_T29 l0 x4_2).f2)) ∧ w'.cell? ⟨gb148, 3, none⟩ = some (.slice A147_3 ((rd_T29 l0 x4_2).f3).length c147_3) ∧ w'.cell? (ad147.add ((x6_30).toNat * 4)) = some (.int .i64 ((rd_T29 l0 x6_30).f0)) ∧ w'.cell? ⟨(ad147.add ((x6_30).toNat * 4)).block, (ad147.add ((x6_30).toNat * 4)).off + 1, none⟩ = some (.string ((rd_T29 l0 x6_30).f1)) ∧ w'.cell? ⟨(ad147.add ((x6_30).toNat * 4)).block, (ad147.add ((x6_30).toNat * 4)).off + 2, none⟩ = some (.string ((rd_T29 l0 x6_30).f2)) ∧ w'.cell? ⟨(ad147.add ((x6_30).toNat * 4)).block, (ad147.add ((x6_30).toNat * 4)).off + 3, none⟩ = some (.slice A160_3 ((rd_T29 l0 x6_30).f3).length c160_3)) (ds := []) #[false, false, false, false, false, false, false, false, false, false, false, false, false, false, false, false, false, false, false, false, false, false, false, false, false, false, false, false, false, false, false, false, false] (by kernel_rfl) rfl rfl ⟨(blk_cell BK148.out 0).trans rfl, (blk_cell BK148.out 1).trans rfl, (blk_cell BK148.out 2).trans rfl, (blk_cell BK148.out 3).trans rfl, ((HB.out.cell (World.block_lt_of_cell? w _ hw160_0)).trans hw160_0), ((HB.out.cell (World.block_lt_of_cell? w _ hw160_1)).trans hw160_1), ((HB.out.cell (World.block_lt_of_cell? w _ hw160_2)).trans hw160_2), ((HB.out.cell (World.block_lt_of_cell? w _ hw160_3)).trans hw160_3)⟩ (fun hHeld => ?_); refine with_tabW newelref01_Right.tab19 newelref01_Right.bits19 (fun HT_ HW_ => ?_)
        generalize wc.drew = w51 at HO_3 BK148 HB HR160_3 hx160_0 hx160_1 hx160_2 hx160_3 hHeld ⊢
        refine pz 0 (some 108) HT_ ?_
        refine tm 1 (some 109) HT_ HW_ hHeld ?_
        refine pz 2 (some 110) HT_ ?_
        refine pz 3 (some 111) HT_ ?_
        refine pz 4 (some 112) HT_ ?_
        refine tm 5 (some 113) HT_ HW_ hHeld ?_
        refine on 6 (some 114) HT_ (fun K hK => ?_)
        refine goes_ Try.func17 (by kernel_rfl) rfl #[.string ((rd_T29 l0 x4_2).f2)] (by rfl) rfl rfl mA ?_
        with_reducible refine (newelref01_all.calls kj30 ((rd_T29 l0 x4_2).f2) true _ (gS HG) A43.out).mono ?_
        rintro e w' ⟨rfl, ⟨nd, rfl⟩⟩
        refine ⟨_, rfl, ?_⟩
        refine hK.out _ _ ⟨(blk_cell BK148.out 0).trans rfl, (blk_cell BK148.out 1).trans rfl, (blk_cell BK148.out 2).trans rfl, (blk_cell BK148.out 3).trans rfl, ((HB.out.cell (World.block_lt_of_cell? w _ hw160_0)).trans hw160_0), ((HB.out.cell (World.block_lt_of_cell? w _ hw160_1)).trans hw160_1), ((HB.out.cell (World.block_lt_of_cell? w _ hw160_2)).trans hw160_2), ((HB.out.cell (World.block_lt_of_cell? w _ hw160_3)).trans hw160_3)⟩ (fun hHeld => ?_)
        clear hK K
        refine nz (some 114) ?_
        refine pz 7 (some 115) HT_ ?_
        refine pz 8 (some 116) HT_ ?_
        refine pz 9 (some 117) HT_ ?_
        refine pz 10 (some 118) HT_ ?_
        refine tm 11 (some 119) HT_ HW_ hHeld ?_
        refine pz 12 (some 120) HT_ ?_
        refine pz 13 (some 121) HT_ ?_
        refine pz 14 (some 122) HT_ ?_
        refine pz 15 (some 123) HT_ ?_
        refine pz 16 (some 124) HT_ ?_
        refine pz 17 (some 125) HT_ ?_
        refine pz 18 (some 126) HT_ ?_
        refine pz 19 (some 127) HT_ ?_
        refine tm 20 (some 128) HT_ HW_ hHeld ?_
        refine pz 21 (some 129) HT_ ?_
        refine pz 22 (some 130) HT_ ?_
        refine pu 23 (some 131) HT_ ?_
        refine pu 24 (some 132) HT_ ?_
        refine pu 25 (some 133) HT_ ?_
        refine pu 26 (some 134) HT_ ?_
        refine pu 27 (some 135) HT_ ?_
        refine pu 28 (some 136) HT_ ?_
        refine pu 29 (some 137) HT_ ?_
        refine pu 30 (some 138) HT_ ?_
        refine pz 31 (some 139) HT_ ?_
        refine pz 32 (some 140) HT_ ?_
        refine done_ (done_of HT_.out (by kernel_rfl)) ?_
        try go_wp2
        go_meet
        case rel => exact ⟨_, (false), cA, H', ⟨by have := HJ1.out; have := HK2.out; have := HJ9.out; have := HJ25.out; have := HJ30.out; first | omega | exact Nat.le_refl _⟩, ⟨kR HO_3⟩, ⟨bK BK148⟩, ⟨bG⟩⟩
       rw [if_pos c49] at H
       obtain ⟨c49b0, c49b1⟩ := eqT c49
       (try (have c49b2 : (((rd_T29 l0 x6_30).f1).toList).isEmpty = true := by simpa using c49))
       clear c49
       have H' := Aside0.mk H
       clear H
       try go_wp2
       replace HO_3 := Aside0.mk (Kd.R_drew HO_3.out)
       replace BK148 := Aside0.mk (blk_drew BK148.out)
       replace HB := Aside0.mk (below_drew1 HB.out)
       have p160 : 0 ≤ (x6_30 : Int) := dA
       have q160 : x6_30 < (l0.length : Int) := dA
       obtain ⟨ad160, A160_3, c160_3, e160, hx160_0, hx160_1, hx160_2, hx160_3, hl160_3, hi160_3⟩ := at_T29 HR0.out x6_30 p160 q160
       have hw160_3 := hx160_3
       have hw160_2 := hx160_2
       have hw160_1 := hx160_1
       have hw160_0 := hx160_0
       obtain rfl : ad147 = ad160 := (by injection e160)
       replace hx160_0 := (HB.out.cell (World.block_lt_of_cell? w _ hx160_0)).trans hx160_0
       replace hx160_1 := (HB.out.cell (World.block_lt_of_cell? w _ hx160_1)).trans hx160_1
       replace hx160_2 := (HB.out.cell (World.block_lt_of_cell? w _ hx160_2)).trans hx160_2
       replace hx160_3 := (HB.out.cell (World.block_lt_of_cell? w _ hx160_3)).trans hx160_3
       have HR160_3 := Aside0.mk hi160_3
       have HC160_3 := Aside0.mk hl160_3
       clear hi160_3 hl160_3
       replace p160 := eq_true p160
       replace q160 := eq_true q160
       have p161 : 0 ≤ (x6_30 : Int) := dA
       have q161 : x6_30 < (l0.length : Int) := dA
       obtain ⟨ad161, A161_3, c161_3, e161, hx161_0, hx161_1, hx161_2, hx161_3, hl161_3, hi161_3⟩ := at_T29 HR0.out x6_30 p161 q161
       have hw161_3 := hx161_3
       have hw161_2 := hx161_2
       have hw161_1 := hx161_1
       have hw161_0 := hx161_0
       obtain rfl : ad147 = ad161 := (by injection e161)
       replace hx161_0 := (HB.out.cell (World.block_lt_of_cell? w _ hx161_0)).trans hx161_0
       replace hx161_1 := (HB.out.cell (World.block_lt_of_cell? w _ hx161_1)).trans hx161_1
       replace hx161_2 := (HB.out.cell (World.block_lt_of_cell? w _ hx161_2)).trans hx161_2
       replace hx161_3 := (HB.out.cell (World.block_lt_of_cell? w _ hx161_3)).trans hx161_3
       have HR161_3 := Aside0.mk hi161_3
       have HC161_3 := Aside0.mk hl161_3
       clear hi161_3 hl161_3
       replace p161 := eq_true p161
       replace q161 := eq_true q161
       have ea_ := Option.some.inj (hx160_3.symm.trans hx161_3)
       injection ea_ with ea_ en_ ec_
       subst ea_
       subst ec_
       clear en_
       refine start_ (n := 33) (S := fun w' => w'.cell? ⟨gb148, 0, none⟩ = some (.int .i64 ((rd_T29 l0 x4_2).f0)) ∧ w'.cell? ⟨gb148, 1, none⟩ = some (.string ((rd_T29 l0 x4_2).f1)) ∧ w'.cell? ⟨gb148, 2, none⟩ = some (.string ((rd_T29 l0 x4_2).f2)) ∧ w'.cell? ⟨gb148, 3, none⟩ = some (.slice A147_3 ((rd_T29 l0 x4_2).f3).length c147_3) ∧ w'.cell? (ad147.add ((x6_30).toNat * 4)) = some (.int .i64 ((rd_T29 l0 x6_30).f0)) ∧ w'.cell? ⟨(ad147.add ((x6_30).toNat * 4)).block, (ad147.add ((x6_30).toNat * 4)).off + 1, none⟩ = some (.string ((rd_T29 l0 x6_30).f1)) ∧ w'.cell? ⟨(ad147.add ((x6_30).toNat * 4)).block, (ad147.add ((x6_30).toNat * 4)).off + 2, none⟩ = some (.string ((rd_T29 l0 x6_30).f2)) ∧ w'.cell? ⟨(ad147.add ((x6_30).toNat * 4)).block, (ad147.add ((x6_30).toNat * 4)).off + 3, none⟩ = some (.slice A160_3 ((rd_T29 l0 x6_30).f3).length c160_3) ∧ w'.cell? (ad147.add ((x6_30).toNat * 4)) = some (.int .i64 ((rd_T29 l0 x6_30).f0)) ∧ w'.cell? ⟨(ad147.add ((x6_30).toNat * 4)).block, (ad147.add ((x6_30).toNat * 4)).off + 1, none⟩ = some (.string ((rd_T29 l0 x6_30).f1)) ∧ w'.cell? ⟨(ad147.add ((x6_30).toNat * 4)).block, (ad147.add ((x6_30).toNat * 4)).off + 2, none⟩ = some (.string ((rd_T29 l0 x6_30).f2)) ∧ w'.cell? ⟨(ad147.add ((x6_30).toNat * 4)).block, (ad147.add ((x6_30).toNat * 4)).off + 3, none⟩ = some (.slice A160_3 ((rd_T29 l0 x6_30).f3).length c160_3)) (ds := []) #[false, false, false, false, false, false, false, false, false, false, false, false, false, false, false, false, false, false, false, false, false, false, false, false, false, false, false, false, false, false, false, false, false] (by kernel_rfl) rfl rfl ⟨(blk_cell BK148.out 0).trans rfl, (blk_cell BK148.out 1).trans rfl, (blk_cell BK148.out 2).trans rfl, (blk_cell BK148.out 3).trans rfl, ((HB.out.cell (World.block_lt_of_cell? w _ hw160_0)).trans hw160_0), ((HB.out.cell (World.block_lt_of_cell? w _ hw160_1)).trans hw160_1), ((HB.out.cell (World.block_lt_of_cell? w _ hw160_2)).trans hw160_2), ((HB.out.cell (World.block_lt_of_cell? w _ hw160_3)).trans hw160_3), ((HB.out.cell (World.block_lt_of_cell? w _ hw161_0)).trans hw161_0), ((HB.out.cell (World.block_lt_of_cell? w _ hw161_1)).trans hw161_1), ((HB.out.cell (World.block_lt_of_cell? w _ hw161_2)).trans hw161_2), ((HB.out.cell (World.block_lt_of_cell? w _ hw161_3)).trans hw161_3)⟩ (fun hHeld => ?_); refine with_tabW newelref01_Right.tab19 newelref01_Right.bits19 (fun HT_ HW_ => ?_)
       generalize wc.drew = w50 at HO_3 BK148 HB HR160_3 HR161_3 hx160_0 hx160_1 hx160_2 hx160_3 hx161_0 hx161_1 hx161_2 hx161_3 hHeld ⊢
       refine pz 0 (some 108) HT_ ?_
       refine tm 1 (some 109) HT_ HW_ hHeld ?_
       refine pz 2 (some 110) HT_ ?_
       refine pz 3 (some 111) HT_ ?_
       refine pz 4 (some 112) HT_ ?_
       refine tm 5 (some 113) HT_ HW_ hHeld ?_
       refine on 6 (some 114) HT_ (fun K hK => ?_)
       refine goes_ Try.func17 (by kernel_rfl) rfl #[.string ((rd_T29 l0 x4_2).f2)] (by rfl) rfl rfl mA ?_
       with_reducible refine (newelref01_all.calls kj30 ((rd_T29 l0 x4_2).f2) true _ (gS HG) A43.out).mono ?_
       rintro e w' ⟨rfl, ⟨nd, rfl⟩⟩
       refine ⟨_, rfl, ?_⟩
       refine hK.out _ _ ⟨(blk_cell BK148.out 0).trans rfl, (blk_cell BK148.out 1).trans rfl, (blk_cell BK148.out 2).trans rfl, (blk_cell BK148.out 3).trans rfl, ((HB.out.cell (World.block_lt_of_cell? w _ hw160_0)).trans hw160_0), ((HB.out.cell (World.block_lt_of_cell? w _ hw160_1)).trans hw160_1), ((HB.out.cell (World.block_lt_of_cell? w _ hw160_2)).trans hw160_2), ((HB.out.cell (World.block_lt_of_cell? w _ hw160_3)).trans hw160_3), ((HB.out.cell (World.block_lt_of_cell? w _ hw161_0)).trans hw161_0), ((HB.out.cell (World.block_lt_of_cell? w _ hw161_1)).trans hw161_1), ((HB.out.cell (World.block_lt_of_cell? w _ hw161_2)).trans hw161_2), ((HB.out.cell (World.block_lt_of_cell? w _ hw161_3)).trans hw161_3)⟩ (fun hHeld => ?_)
       clear hK K
       refine nz (some 114) ?_
       refine pz 7 (some 115) HT_ ?_
       refine pz 8 (some 116) HT_ ?_
       refine pz 9 (some 117) HT_ ?_
       refine pz 10 (some 118) HT_ ?_
       refine tm 11 (some 119) HT_ HW_ hHeld ?_
       refine pz 12 (some 120) HT_ ?_
       refine pz 13 (some 121) HT_ ?_
       refine pz 14 (some 122) HT_ ?_
       refine pz 15 (some 123) HT_ ?_
       refine pz 16 (some 124) HT_ ?_
       refine pz 17 (some 125) HT_ ?_
       refine pz 18 (some 126) HT_ ?_
       refine pz 19 (some 127) HT_ ?_
       refine tm 20 (some 128) HT_ HW_ hHeld ?_
       refine pz 21 (some 129) HT_ ?_
       refine pz 22 (some 130) HT_ ?_
       refine pz 23 (some 131) HT_ ?_
       refine pz 24 (some 132) HT_ ?_
       refine pz 25 (some 133) HT_ ?_
       refine pz 26 (some 134) HT_ ?_
       refine pz 28 (some 136) HT_ ?_
       refine tm 27 (some 135) HT_ HW_ hHeld ?_
       refine tm 29 (some 137) HT_ HW_ hHeld ?_
       refine pz 30 (some 138) HT_ ?_
       refine pz 31 (some 139) HT_ ?_
       refine pz 32 (some 140) HT_ ?_
       refine done_ (done_of HT_.out (by kernel_rfl)) ?_
       try go_wp2
       go_meet
       case rel => exact ⟨_, ((((rd_T29 l0 x6_30).f0) == ((rd_T29 l0 x4_2).f0))), cA, H', ⟨by have := HJ1.out; have := HK2.out; have := HJ9.out; have := HJ25.out; have := HJ30.out; first | omega | exact Nat.le_refl _⟩, ⟨kR HO_3⟩, ⟨bK BK148⟩, ⟨bG⟩⟩
      clear HC40
      try clear c1
      try clear p1
      try clear q1
      try clear hx1
      try clear p2
      try clear c4
      try clear c14
      try clear c16
      try clear p16
      try clear q16
      try clear hx16
      try clear c17
      try clear c44
      try clear c47
      try clear c48
      try clear c49
      try clear c49b0
      try clear c49b1
      try clear c49b2
      try clear hx160_0
      try clear hx160_1
      try clear hx160_2
      try clear hx160_3
      try clear p160
      try clear q160
      obtain ⟨kq, x140_39, rfl, HA, HJ39, HO_3, BK148, HB⟩ := hcut
      cases kq with
      | zero => exact absurd HA.out (by simp [newelref01_Right.j8])
      | succ kj39 =>
       have H := HA.out
       clear HA
       simp only [newelref01_Right.j8] at H
       by_cases c53 : x140_39 = true
       ·subst c53
        have H1 : (some false) = some r := by rw [if_pos rfl] at H; exact H
        clear H
        have H := H1
        clear H1
        obtain rfl := Option.some.inj H
        go_wp2
        go_ret
        exact ⟨eA, bG⟩
       replace c53 := Bool.eq_false_iff.mpr c53
       subst c53
       have H1 : (newelref01_Right.l0 kj39 l0 x3_9 (wrap64 (x4_2 + 1))) = some r := by rw [if_neg (show ¬ (false = true) by decide)] at H; exact H
       clear H
       have H := H1
       clear H1
       have H' := Aside0.mk H
       clear H
       go_wp2
       go_roundg kj39
       case measure => have := HJ1.out; have := HK2.out; have := HJ9.out; have := HJ25.out; have := HJ30.out; have := HJ39.out; omega
       case rel => exact ⟨(x3_9), (wrap64 (x4_2 + 1)), cA, H', ⟨by have := HJ1.out; have := HK2.out; have := HJ9.out; have := HJ25.out; have := HJ30.out; have := HJ39.out; omega⟩, ⟨kR HO_3⟩, ⟨bG⟩⟩
def element_Kids.l0 : Nat → List (S29) → Int → List Int → List (S29) → Int → Int → Option (List Int)
 | 0, _, _, _, _, _, _ => none
 | k + 1, x0, x1, x5, x8, x9, x10 => if x10 < x9 then (if 0 ≤ x10 then (if x10 < (x8.length : Int) then (if ((rd_T29 x8 x10).f0) = x1 then (if x1 ≥ 0 then (if x1 < (x0.length : Int) then (if x5.length < 17592186044416 then (element_Kids.l0 k x0 x1 (x5 ++ [x10]) x8 x9 (wrap64 (x10 + 1))) else (none)) else (element_Kids.l0 k x0 x1 x5 x8 x9 (wrap64 (x10 + 1)))) else (element_Kids.l0 k x0 x1 x5 x8 x9 (wrap64 (x10 + 1)))) else (element_Kids.l0 k x0 x1 x5 x8 x9 (wrap64 (x10 + 1)))) else (none)) else (none)) else (some x5)
def element_Kids.f (k : Nat) (l0 : List (S29)) (a1 : Int) : Option (List Int) := element_Kids.l0 k l0 a1 ([] : List Int) l0 (l0.length : Int) 0
theorem element_Kids.mono_l : ∀ k, (∀ y0 y1 y2 y3 y4 y5, LeO (element_Kids.l0 k y0 y1 y2 y3 y4 y5) (element_Kids.l0 (k + 1) y0 y1 y2 y3 y4 y5))
 | 0 => fun _ _ _ _ _ _ r h => by simp [element_Kids.l0] at h
 | k + 1 => by
  have ih0 := element_Kids.mono_l k
  ·intro y0 y1 y2 y3 y4 y5
   unfold element_Kids.l0
   exact mo
theorem element_Kids.mono : ∀ a0 a1 k, LeO (element_Kids.f k a0 a1) (element_Kids.f (k + 1) a0 a1) := by
 intro a0 a1 k
 have ih0 := element_Kids.mono_l k
 unfold element_Kids.f
 exact mo
theorem element_Kids.calls (k : Nat) (A0 : Option Addr) (c0 : Nat) (l0 : List (S29)) (a1 : Int) (r : List Int) (w : World) (hr0 : Kd.C k29 w A0 l0.length l0) (hc0 : l0.length ≤ c0) (hG : Glob w) (h : element_Kids.f k l0 a1 = some r) :
 Calls Try.prog 11 #[.slice A0 l0.length c0, .int .i64 a1] w fun e w' => ∃ v0_ : Value, e = .returned (v0_) ∧ Kd.R (Kd.int .i64) 3 w' w.heap.size (fun _ => True) v0_ r ∧ Below w.heap.size w w' := by
 have hu29 := Try.underlying29
 have HG := Aside0.mk hG
 clear hG
 have HR0 := Aside0.mk hr0
 have HC0 := Aside0.mk hc0
 clear hr0 hc0
 have HB := Aside0.mk (Below.refl w.heap.size w)
 have H : (element_Kids.l0 k l0 a1 ([] : List Int) l0 (l0.length : Int) 0) = some r := h
 clear h
 have H' := Aside0.mk H
 clear H
 go_enter Try.func11, Try.ntmps11
 go_wp2
 go_loopg [5, 10] k (fun kq v5 v10 w' => ∃ (x5_1 : List Int) (x10_1 : Int), v10 = .int .i64 x10_1 ∧ Aside0 (element_Kids.l0 kq l0 a1 x5_1 l0 (l0.length : Int) x10_1 = some r) ∧ Aside0 (kq ≤ k) ∧ Aside0 (Kd.R (Kd.int .i64) 3 w' w.heap.size (fun _ => True) v5 x5_1) ∧ Aside0 (Below w.heap.size w w'))
 case atStart => exact ⟨(([] : List Int)), (0), cA, H', ⟨Nat.le_refl _⟩, ⟨by first | exact Kd.R_nil _ _ _ _ _ | exact Kd.N_nil _ _ _ _ _ | exact Kd.V_nil _ _ _ _ _ | exact Kd.Q_nil _ _ _ _ _ | exact Kd.S_nil _ _ _ _ _⟩, ⟨bE⟩⟩
 clear H'
 try clear c1
 try clear p2
 obtain ⟨x5_1, x10_1, rfl, HA, HK1, HO_5, HB⟩ := hrel
 cases gk with
 | zero => exact absurd HA.out (by simp [element_Kids.l0])
 | succ k1 =>
  have H := HA.out
  clear HA
  simp only [element_Kids.l0] at H
  by_cases c3 : x10_1 < (l0.length : Int)
  rotate_left
  ·rw [if_neg c3] at H
   have c3b0 := dF c3
   clear c3
   obtain rfl := Option.some.inj H
   go_wp2
   go_ret
   exact ⟨_, by first | rfl | (simp [errW_none, errW_some] <;> rfl) | (simp [*, errW_none, errW_some] <;> rfl), by (with_reducible repeat (first | apply Kd.R_alloc | apply Kd.R_drewN | apply Kd.R_drew)); exact HO_5.out, bE⟩
  rw [if_pos c3] at H
  have c3b0 := dT c3
  clear c3
  by_cases c4 : 0 ≤ x10_1
  rotate_left
  ·rw [if_neg c4] at H
   exact absurd H (by simp)
  rw [if_pos c4] at H
  have c4b0 := dT c4
  clear c4
  by_cases c5 : x10_1 < (l0.length : Int)
  rotate_left
  ·rw [if_neg c5] at H
   exact absurd H (by simp)
  rw [if_pos c5] at H
  have c5b0 := dT c5
  clear c5
  by_cases c6 : ((rd_T29 l0 x10_1).f0) = a1
  rotate_left
  ·rw [if_neg c6] at H
   obtain ⟨c6b0, c6b1⟩ := eqF c6
   have H' := Aside0.mk H
   clear H
   have p122 : 0 ≤ (x10_1 : Int) := dA
   have q122 : x10_1 < (l0.length : Int) := dA
   obtain ⟨ad122, A122_3, c122_3, e122, hx122_0, hx122_1, hx122_2, hx122_3, hl122_3, hi122_3⟩ := at_T29 HR0.out x10_1 p122 q122
   cases e122
   replace hx122_0 := (HB.out.cell (World.block_lt_of_cell? w _ hx122_0)).trans hx122_0
   replace hx122_1 := (HB.out.cell (World.block_lt_of_cell? w _ hx122_1)).trans hx122_1
   replace hx122_2 := (HB.out.cell (World.block_lt_of_cell? w _ hx122_2)).trans hx122_2
   replace hx122_3 := (HB.out.cell (World.block_lt_of_cell? w _ hx122_3)).trans hx122_3
   have HR122_3 := Aside0.mk hi122_3
   have HC122_3 := Aside0.mk hl122_3
   clear hi122_3 hl122_3
   replace p122 := eq_true p122
   replace q122 := eq_true q122
   go_wp2_with (first | ((with_reducible refine gate_dst (N := 7) rfl ?_); (try (refine gate_guard (by rfl) ?_; dsimp only)); refine be 7 #[.int .i64 0, .string (⟨#[]⟩ : ByteArray), .string (⟨#[]⟩ : ByteArray), .slice none 0 0] 29 ?_; intro gb123 hg w17 hbox hb; replace HO_5 := rB HO_5 hb; have BK123 := Aside0.mk (hbox); have GW123 := gW hg; have GE123 := gW hg; replace HB := sB hb; clear hb hbox hg; have hcz18_0 : w17.cell? ⟨gb123, 0, none⟩ = some (.int .i64 0) := (blk_cell BK123.out 0).trans rfl; have hcz18_1 : w17.cell? ⟨gb123, 1, none⟩ = some (.string (⟨#[]⟩ : ByteArray)) := (blk_cell BK123.out 1).trans rfl; have hcz18_2 : w17.cell? ⟨gb123, 2, none⟩ = some (.string (⟨#[]⟩ : ByteArray)) := (blk_cell BK123.out 2).trans rfl; have hcz18_3 : w17.cell? ⟨gb123, 3, none⟩ = some (.slice none 0 0) := (blk_cell BK123.out 3).trans rfl; have hfz18_0 := blk_frozen BK123.out 0; have hfz18_1 := blk_frozen BK123.out 1; have hfz18_2 := blk_frozen BK123.out 2; have hfz18_3 := blk_frozen BK123.out 3))
   go_roundg k1
   case measure => have := HK1.out; omega
   case rel => exact ⟨(x5_1), (wrap64 (x10_1 + 1)), cA, H', ⟨by have := HK1.out; omega⟩, ⟨by (with_reducible repeat (first | apply Kd.R_alloc | apply Kd.R_drewN | apply Kd.R_drew)); exact Kd.R_mono (Kd.R_far (p := ⟨gb123, 3, none⟩) (Kd.R_far (p := ⟨gb123, 2, none⟩) (Kd.R_far (p := ⟨gb123, 1, none⟩) (Kd.R_far (p := ⟨gb123, 0, none⟩) (Kd.R_types HO_5.out BK123.out (by decide)) (fun _ hk => hk.2) (.int .i64 ((rd_T29 l0 x10_1).f0))) (fun _ hk => hk.2) (.string ((rd_T29 l0 x10_1).f1))) (fun _ hk => hk.2) (.string ((rd_T29 l0 x10_1).f2))) (fun _ hk => hk.2) (.slice A122_3 ((rd_T29 l0 x10_1).f3).length c122_3)) (fun _ hk => trivial)⟩, ⟨bG⟩⟩
  rw [if_pos c6] at H
  obtain ⟨c6b0, c6b1⟩ := eqT c6
  clear c6
  by_cases c7 : a1 ≥ 0
  rotate_left
  ·rw [if_neg c7] at H
   have c7b0 := dF c7
   clear c7
   have H' := Aside0.mk H
   clear H
   have p122 : 0 ≤ (x10_1 : Int) := dA
   have q122 : x10_1 < (l0.length : Int) := dA
   obtain ⟨ad122, A122_3, c122_3, e122, hx122_0, hx122_1, hx122_2, hx122_3, hl122_3, hi122_3⟩ := at_T29 HR0.out x10_1 p122 q122
   cases e122
   replace hx122_0 := (HB.out.cell (World.block_lt_of_cell? w _ hx122_0)).trans hx122_0
   replace hx122_1 := (HB.out.cell (World.block_lt_of_cell? w _ hx122_1)).trans hx122_1
   replace hx122_2 := (HB.out.cell (World.block_lt_of_cell? w _ hx122_2)).trans hx122_2
   replace hx122_3 := (HB.out.cell (World.block_lt_of_cell? w _ hx122_3)).trans hx122_3
   have HR122_3 := Aside0.mk hi122_3
   have HC122_3 := Aside0.mk hl122_3
   clear hi122_3 hl122_3
   replace p122 := eq_true p122
   replace q122 := eq_true q122
   go_wp2_with (first | ((with_reducible refine gate_dst (N := 7) rfl ?_); (try (refine gate_guard (by rfl) ?_; dsimp only)); refine be 7 #[.int .i64 0, .string (⟨#[]⟩ : ByteArray), .string (⟨#[]⟩ : ByteArray), .slice none 0 0] 29 ?_; intro gb123 hg w15 hbox hb; replace HO_5 := rB HO_5 hb; have BK123 := Aside0.mk (hbox); have GW123 := gW hg; have GE123 := gW hg; replace HB := sB hb; clear hb hbox hg; have hcz16_0 : w15.cell? ⟨gb123, 0, none⟩ = some (.int .i64 0) := (blk_cell BK123.out 0).trans rfl; have hcz16_1 : w15.cell? ⟨gb123, 1, none⟩ = some (.string (⟨#[]⟩ : ByteArray)) := (blk_cell BK123.out 1).trans rfl; have hcz16_2 : w15.cell? ⟨gb123, 2, none⟩ = some (.string (⟨#[]⟩ : ByteArray)) := (blk_cell BK123.out 2).trans rfl; have hcz16_3 : w15.cell? ⟨gb123, 3, none⟩ = some (.slice none 0 0) := (blk_cell BK123.out 3).trans rfl; have hfz16_0 := blk_frozen BK123.out 0; have hfz16_1 := blk_frozen BK123.out 1; have hfz16_2 := blk_frozen BK123.out 2; have hfz16_3 := blk_frozen BK123.out 3))
   go_roundg k1
   case measure => have := HK1.out; omega
   case rel => exact ⟨(x5_1), (wrap64 (x10_1 + 1)), cA, H', ⟨by have := HK1.out; omega⟩, ⟨by (with_reducible repeat (first | apply Kd.R_alloc | apply Kd.R_drewN | apply Kd.R_drew)); exact Kd.R_mono (Kd.R_far (p := ⟨gb123, 3, none⟩) (Kd.R_far (p := ⟨gb123, 2, none⟩) (Kd.R_far (p := ⟨gb123, 1, none⟩) (Kd.R_far (p := ⟨gb123, 0, none⟩) (Kd.R_types HO_5.out BK123.out (by decide)) (fun _ hk => hk.2) (.int .i64 ((rd_T29 l0 x10_1).f0))) (fun _ hk => hk.2) (.string ((rd_T29 l0 x10_1).f1))) (fun _ hk => hk.2) (.string ((rd_T29 l0 x10_1).f2))) (fun _ hk => hk.2) (.slice A122_3 ((rd_T29 l0 x10_1).f3).length c122_3)) (fun _ hk => trivial)⟩, ⟨bG⟩⟩
  rw [if_pos c7] at H
  have c7b0 := dT c7
  clear c7
  by_cases c8 : a1 < (l0.length : Int)
  rotate_left
  ·rw [if_neg c8] at H
   have c8b0 := dF c8
   clear c8
   have H' := Aside0.mk H
   clear H
   have p122 : 0 ≤ (x10_1 : Int) := dA
   have q122 : x10_1 < (l0.length : Int) := dA
   obtain ⟨ad122, A122_3, c122_3, e122, hx122_0, hx122_1, hx122_2, hx122_3, hl122_3, hi122_3⟩ := at_T29 HR0.out x10_1 p122 q122
   cases e122
   replace hx122_0 := (HB.out.cell (World.block_lt_of_cell? w _ hx122_0)).trans hx122_0
   replace hx122_1 := (HB.out.cell (World.block_lt_of_cell? w _ hx122_1)).trans hx122_1
   replace hx122_2 := (HB.out.cell (World.block_lt_of_cell? w _ hx122_2)).trans hx122_2
   replace hx122_3 := (HB.out.cell (World.block_lt_of_cell? w _ hx122_3)).trans hx122_3
   have HR122_3 := Aside0.mk hi122_3
   have HC122_3 := Aside0.mk hl122_3
   clear hi122_3 hl122_3
   replace p122 := eq_true p122
   replace q122 := eq_true q122
   go_wp2_with (first | ((with_reducible refine gate_dst (N := 7) rfl ?_); (try (refine gate_guard (by rfl) ?_; dsimp only)); refine be 7 #[.int .i64 0, .string (⟨#[]⟩ : ByteArray), .string (⟨#[]⟩ : ByteArray), .slice none 0 0] 29 ?_; intro gb123 hg w13 hbox hb; replace HO_5 := rB HO_5 hb; have BK123 := Aside0.mk (hbox); have GW123 := gW hg; have GE123 := gW hg; replace HB := sB hb; clear hb hbox hg; have hcz14_0 : w13.cell? ⟨gb123, 0, none⟩ = some (.int .i64 0) := (blk_cell BK123.out 0).trans rfl; have hcz14_1 : w13.cell? ⟨gb123, 1, none⟩ = some (.string (⟨#[]⟩ : ByteArray)) := (blk_cell BK123.out 1).trans rfl; have hcz14_2 : w13.cell? ⟨gb123, 2, none⟩ = some (.string (⟨#[]⟩ : ByteArray)) := (blk_cell BK123.out 2).trans rfl; have hcz14_3 : w13.cell? ⟨gb123, 3, none⟩ = some (.slice none 0 0) := (blk_cell BK123.out 3).trans rfl; have hfz14_0 := blk_frozen BK123.out 0; have hfz14_1 := blk_frozen BK123.out 1; have hfz14_2 := blk_frozen BK123.out 2; have hfz14_3 := blk_frozen BK123.out 3))
   go_roundg k1
   case measure => have := HK1.out; omega
   case rel => exact ⟨(x5_1), (wrap64 (x10_1 + 1)), cA, H', ⟨by have := HK1.out; omega⟩, ⟨by (with_reducible repeat (first | apply Kd.R_alloc | apply Kd.R_drewN | apply Kd.R_drew)); exact Kd.R_mono (Kd.R_far (p := ⟨gb123, 3, none⟩) (Kd.R_far (p := ⟨gb123, 2, none⟩) (Kd.R_far (p := ⟨gb123, 1, none⟩) (Kd.R_far (p := ⟨gb123, 0, none⟩) (Kd.R_types HO_5.out BK123.out (by decide)) (fun _ hk => hk.2) (.int .i64 ((rd_T29 l0 x10_1).f0))) (fun _ hk => hk.2) (.string ((rd_T29 l0 x10_1).f1))) (fun _ hk => hk.2) (.string ((rd_T29 l0 x10_1).f2))) (fun _ hk => hk.2) (.slice A122_3 ((rd_T29 l0 x10_1).f3).length c122_3)) (fun _ hk => trivial)⟩, ⟨bG⟩⟩
  rw [if_pos c8] at H
  have c8b0 := dT c8
  clear c8
  by_cases c9 : x5_1.length < 17592186044416
  rotate_left
  ·rw [if_neg c9] at H
   exact absurd H (by simp)
  rw [if_pos c9] at H
  have LMc9 := Aside0.mk c9
  clear c9
  obtain ⟨y124, hy124⟩ : ∃ y_ : List Int, y_ = (x5_1 ++ [x10_1]) := ⟨_, rfl⟩
  replace H : (element_Kids.l0 k1 l0 a1 y124 l0 (l0.length : Int) (wrap64 (x10_1 + 1))) = some r := by first | (rw [hy124]; with_reducible exact H) | (have H2_ := (Option.bind_some _ _).symm.trans H; rw [hy124]; with_reducible exact H2_) | (have H2_ := (Option.bind_some _ _).symm.trans H; with_reducible exact H2_) | with_reducible exact H | (rw [hy124]; exact H) | exact H
  have Ny124 := Aside0.mk hy124
  clear hy124
  have H' := Aside0.mk H
  clear H
  have p122 : 0 ≤ (x10_1 : Int) := dA
  have q122 : x10_1 < (l0.length : Int) := dA
  obtain ⟨ad122, A122_3, c122_3, e122, hx122_0, hx122_1, hx122_2, hx122_3, hl122_3, hi122_3⟩ := at_T29 HR0.out x10_1 p122 q122
  cases e122
  replace hx122_0 := (HB.out.cell (World.block_lt_of_cell? w _ hx122_0)).trans hx122_0
  replace hx122_1 := (HB.out.cell (World.block_lt_of_cell? w _ hx122_1)).trans hx122_1
  replace hx122_2 := (HB.out.cell (World.block_lt_of_cell? w _ hx122_2)).trans hx122_2
  replace hx122_3 := (HB.out.cell (World.block_lt_of_cell? w _ hx122_3)).trans hx122_3
  have HR122_3 := Aside0.mk hi122_3
  have HC122_3 := Aside0.mk hl122_3
  clear hi122_3 hl122_3
  replace p122 := eq_true p122
  replace q122 := eq_true q122
  go_wp2_with (first | ((with_reducible refine gate_dst (N := 7) rfl ?_); (try (refine gate_guard (by rfl) ?_; dsimp only)); refine be 7 #[.int .i64 0, .string (⟨#[]⟩ : ByteArray), .string (⟨#[]⟩ : ByteArray), .slice none 0 0] 29 ?_; intro gb123 hg w10 hbox hb; replace HO_5 := rB HO_5 hb; have BK123 := Aside0.mk (hbox); have GW123 := gW hg; have GE123 := gW hg; replace HB := sB hb; clear hb hbox hg; have hcz11_0 : w10.cell? ⟨gb123, 0, none⟩ = some (.int .i64 0) := (blk_cell BK123.out 0).trans rfl; have hcz11_1 : w10.cell? ⟨gb123, 1, none⟩ = some (.string (⟨#[]⟩ : ByteArray)) := (blk_cell BK123.out 1).trans rfl; have hcz11_2 : w10.cell? ⟨gb123, 2, none⟩ = some (.string (⟨#[]⟩ : ByteArray)) := (blk_cell BK123.out 2).trans rfl; have hcz11_3 : w10.cell? ⟨gb123, 3, none⟩ = some (.slice none 0 0) := (blk_cell BK123.out 3).trans rfl; have hfz11_0 := blk_frozen BK123.out 0; have hfz11_1 := blk_frozen BK123.out 1; have hfz11_2 := blk_frozen BK123.out 2; have hfz11_3 := blk_frozen BK123.out 3) | ((with_reducible refine gate_builtin (b := .append) (xs := #[.tmp 29, .tmp 31]) rfl ?_); (try (refine gate_guard (by rfl) ?_; dsimp only)); at_builtin; refine Kd.R_append (Kd.int .i64) (w0 := w) w.heap.size rfl (.tmp 29) (.tmp 31) 34 3 (.int .i64 0) 8 rfl Try.underlying34 info3 rfl (by decide) (by omega) u5 x5_1 x10_1 [.int .i64 x10_1] (fun _ => True) (fun _ => False) rfl (by first | (go_simp; done) | (go_simp; rfl)) ?aP (fun _ hk => hk.elim) ?aF ?aO ?aB ?aS ?aL ?_; (case aP => exact rfl); (case aB => exact bG); (case aF => exact (fun _ _ => trivial)); (case aO => exact (by (with_reducible repeat (first | apply Kd.R_alloc | apply Kd.R_drewN | apply Kd.R_drew)); exact Kd.R_mono (Kd.R_far (p := ⟨gb123, 3, none⟩) (Kd.R_far (p := ⟨gb123, 2, none⟩) (Kd.R_far (p := ⟨gb123, 1, none⟩) (Kd.R_far (p := ⟨gb123, 0, none⟩) (Kd.R_types HO_5.out BK123.out (by decide)) (fun _ hk => hk.2) (.int .i64 ((rd_T29 l0 x10_1).f0))) (fun _ hk => hk.2) (.string ((rd_T29 l0 x10_1).f1))) (fun _ hk => hk.2) (.string ((rd_T29 l0 x10_1).f2))) (fun _ hk => hk.2) (.slice A122_3 ((rd_T29 l0 x10_1).f3).length c122_3)) (fun _ hk => trivial))); (case aS => exact (below_size bG)); (case aL => have := LMc9.out; omega); intro v125 w12 ho hb hg hat; rw [← Ny124.out] at ho; replace BK123 := Aside0.mk (blk_grown (g := gb123) (o := .cells #[.int .i64 ((rd_T29 l0 x10_1).f0), .string ((rd_T29 l0 x10_1).f1), .string ((rd_T29 l0 x10_1).f2), .slice A122_3 ((rd_T29 l0 x10_1).f3).length c122_3] 29 (0, 0)) (bP BK123) hg (Kd.R_ne HO_5.out BK123.out (by decide))); replace HB := Aside0.mk (hb); have HO126 := Aside0.mk (ho); clear HO_5; clear ho hb hg hat))
  go_roundg k1
  case measure => have := HK1.out; omega
  case rel => exact ⟨(y124), (wrap64 (x10_1 + 1)), cA, H', ⟨by have := HK1.out; omega⟩, ⟨kR HO126⟩, ⟨bG⟩⟩
end Go.Proofs.Ytkoogebfdinbnaa.Q
namespace Go.Proofs.Ytkoogebfdinbnaa.Q
open Go.RowKit Go.Proofs.YtkoogebfdinbnaaW.PrintWords Go.Proofs.YtkoogebfdinbnaaW.PrintLast Go.Proofs.YtkoogebfdinbnaaW.Own Go.Proofs.YtkoogebfdinbnaaW.PrintMore
set_option linter.unusedVariables false
set_option linter.unusedSimpArgs false
namespace Tk
open Go
abbrev Tok := S40
abbrev Att := S68
def bs (l : List UInt8) : ByteArray := ⟨l.toArray⟩
def letter (c : UInt8) : Bool := (65 ≤ c.toNat && c.toNat ≤ 90) || (97 ≤ c.toNat && c.toNat ≤ 122) || c.toNat == 95
def digit (c : UInt8) : Bool := 48 ≤ c.toNat && c.toNat ≤ 57
def within (c : UInt8) : Bool := letter c || digit c || c.toNat == 45 || c.toNat == 46 || c.toNat == 58
def space (c : UInt8) : Bool := c.toNat == 9 || c.toNat == 10 || c.toNat == 13 || c.toNat == 32
def allowed (c : UInt8) : Bool := decide (32 < c.toNat) || space c
def head : List UInt8 → List UInt8
  | [] => []
  | c :: r => if letter c then c :: r.takeWhile within else []
def skip (l : List UInt8) : List UInt8 := l.dropWhile space
def behind (x l : List UInt8) : Option (List UInt8) := if x.isPrefixOf l then some (l.drop x.length) else none
def upto (x l : List UInt8) : Option (List UInt8 × List UInt8) := if 0 ≤ Lib.index l x then some (l.take (Lib.index l x).toNat, l.drop ((Lib.index l x).toNat + x.length)) else none
def digitOf (base : Nat) (c : UInt8) : Option Nat :=
  let v := if digit c then some (c.toNat - 48) else if 97 ≤ c.toNat ∧ c.toNat ≤ 102 then some (c.toNat - 87) else if 65 ≤ c.toNat ∧ c.toNat ≤ 70 then some (c.toNat - 55) else none
  v.bind fun n => if n < base then some n else none
def number (base : Nat) : Nat → List UInt8 → Option Nat
  | v, [] => some v
  | v, c :: r => (digitOf base c).bind fun d => number base (v * base + d) r
def may (v : Nat) : Bool := v == 9 || v == 10 || v == 13 || (decide (32 ≤ v) && decide (v ≤ 1114111) && (decide (v < 55296) || decide (57343 < v)))
def numbered (base : Nat) (l : List UInt8) : Option (List UInt8) :=
  if l = [] ∨ 6 < l.length then none else (number base 0 l).bind fun v => if may v then some (Utf8.encode (v : Int)).data.toList else none
def named (l : List UInt8) : Option (List UInt8) :=
  if l = [108, 116] then some [60] else if l = [103, 116] then some [62] else if l = [97, 109, 112] then some [38] else if l = [113, 117, 111, 116] then some [34] else if l = [97, 112, 111, 115] then some [39] else none
def entity : List UInt8 → Option (List UInt8)
  | 35 :: 120 :: r => numbered 16 r
  | 35 :: r => numbered 10 r
  | l => named l
def ents : Nat → List UInt8 → Option (List UInt8)
  | 0, _ => none
  | n + 1, l => match upto [38] l with
    | none => some l
    | some (a, b) => match upto [59] b with
      | none => none
      | some (nm, r) => (entity nm).bind fun c => (ents n r).map fun t => a ++ (c ++ t)
def entities (l : List UInt8) : Option (List UInt8) := ents (l.length + 1) l
def tk (kind : Int) (name text : List UInt8) (attrs : List Att) (empty : Bool) : Tok := ⟨kind, bs name, bs text, attrs, empty⟩
def at_ (n v : List UInt8) : Att := ⟨bs n, bs v⟩
def comment (l : List UInt8) : Option (Tok × List UInt8) :=
  (upto [45, 45, 62] l).bind fun p => if 0 ≤ Lib.index p.1 [45, 45] ∨ Lib.hasSuffix p.1 [45] = true then none else some (tk 4 [] p.1 [] false, p.2)
def data (l : List UInt8) : Option (Tok × List UInt8) := (upto [93, 93, 62] l).map fun p => (tk 3 [] p.1 [] false, p.2)
def prolog (first : Bool) (l : List UInt8) : Option (Tok × List UInt8) := (upto [63, 62] l).bind fun p => if first then some (tk 5 [] p.1 [] false, p.2) else none
def close (l : List UInt8) : Option (Tok × List UInt8) :=
  if head l = [] then none else (behind [62] (skip (l.drop (head l).length))).map fun r => (tk 2 (head l) [] [] false, r)
def value (l : List UInt8) : Option (List UInt8 × List UInt8) :=
  let q := if [34].isPrefixOf l then [34] else [39]
  (behind q l).bind fun r => (upto q r).bind fun p => if 0 ≤ Lib.index p.1 [60] then none else (entities p.1).map fun v => (v, p.2)
def attr (l : List UInt8) : Option (Att × List UInt8) :=
  if head l = [] then none else (behind [61] (skip (l.drop (head l).length))).bind fun r => (value (skip r)).map fun p => (at_ (head l) p.1, p.2)
def attrs : Nat → List UInt8 → List Att → List UInt8 → Option (Tok × List UInt8)
  | 0, _, _, _ => none
  | n + 1, nm, ys, l =>
    let l1 := skip l
    match behind [62] l1 with
    | some r => some (tk 1 nm [] ys false, r)
    | none => match behind [47, 62] l1 with
      | some r => some (tk 1 nm [] ys true, r)
      | none => if l1.length = l.length then none else (attr l1).bind fun p => if ys.any (fun x => x.f0.toList == p.1.f0.toList) then none else attrs n nm (ys ++ [p.1]) p.2
def opening (l : List UInt8) : Option (Tok × List UInt8) := if head l = [] then none else attrs (l.length + 1) (head l) [] (l.drop (head l).length)
def text (l : List UInt8) : Option (Tok × List UInt8) :=
  let t := l.takeWhile (· != 60)
  (entities t).map fun x => (tk 3 [] x [] false, l.drop t.length)
def next (first : Bool) (l : List UInt8) : Option (Tok × List UInt8) :=
  match behind [60, 33, 45, 45] l with
  | some r => comment r
  | none => match behind [60, 33, 91, 67, 68, 65, 84, 65, 91] l with
    | some r => data r
    | none => match behind [60, 63] l with
      | some r => prolog first r
      | none => match behind [60, 47] l with
        | some r => close r
        | none => match behind [60] l with
          | some r => opening r
          | none => text l
def pieces : Nat → Bool → List UInt8 → Option (List Tok)
  | 0, _, _ => none
  | n + 1, first, l => if l = [] then some [] else (next first l).bind fun p => (pieces n false p.2).map fun t => p.1 :: t
def split (l : List UInt8) : List Tok × Int :=
  if 20000 < l.length then ([], 3) else if l.any (fun c => !allowed c) then ([], 4) else match pieces (l.length + 1) true l with
    | some t => (t, 0)
    | none => ([], 5)
theorem bytes_all {α : Type} [DecidableEq α] {f : Int → Option α} {g : UInt8 → α} (h : (List.range 256).all (fun n => decide (f (n : Int) = some (g (UInt8.ofNat n)))) = true) (c : UInt8) : f (c.toNat : Int) = some (g c) := by
  have hc : c.toNat < 256 := c.toNat_lt
  have := of_decide_eq_true (List.all_eq_true.1 h c.toNat (List.mem_range.2 hc))
  rwa [UInt8.ofNat_toNat] at this
end Tk
end Go.Proofs.Ytkoogebfdinbnaa.Q
namespace Go.Proofs.Ytkoogebfdinbnaa.Q
open Go.RowKit Go.Proofs.YtkoogebfdinbnaaW.PrintWords Go.Proofs.YtkoogebfdinbnaaW.PrintLast Go.Proofs.YtkoogebfdinbnaaW.Own Go.Proofs.YtkoogebfdinbnaaW.PrintMore
set_option linter.unusedVariables false
set_option linter.unusedSimpArgs false
namespace El
open Go
abbrev Nd := S29
abbrev Tok := S40
abbrev Att := S68
def zn : Nd := z29
def nul : ByteArray := ⟨#[]⟩
def inner (op : List Int) : Int := op.getLast?.getD (-1)
def lastI (l : List Nd) (p : Int) : Option Nat := l.zipIdx.foldl (fun a x => if x.1.f0 = p then some x.2 else a) none
theorem lastI_snoc (l : List Nd) (n : Nd) (p : Int) : lastI (l ++ [n]) p = if n.f0 = p then some l.length else lastI l p := by
  unfold lastI
  rw [List.zipIdx_append, List.foldl_append]
  simp
theorem lastI_lt (l : List Nd) (p : Int) (k : Nat) (h : lastI l p = some k) : k < l.length := by
  rw [← List.reverse_reverse l] at h ⊢
  generalize l.reverse = m at *
  induction m with
  | nil => simp [lastI] at h
  | cons n m ih =>
    rw [List.reverse_cons, lastI_snoc] at h
    rw [List.reverse_cons, List.length_append, List.length_singleton]
    split at h
    · injection h with h; omega
    · have := ih h; omega
theorem lastI_set (l : List Nd) (k : Nat) (n : Nd) (p : Int) (hn : ∀ x, l[k]? = some x → n.f0 = x.f0) : lastI (l.set k n) p = lastI l p := by
  rw [← List.reverse_reverse l] at hn ⊢
  generalize l.reverse = m at *
  induction m with
  | nil => rfl
  | cons x m ih =>
    rw [List.reverse_cons] at hn ⊢
    rcases Nat.lt_or_ge k m.reverse.length with hk | hk
    · rw [List.set_append_left _ _ hk, lastI_snoc, lastI_snoc, List.length_set, ih]
      intro y hy
      exact hn y (by rw [List.getElem?_append_left hk]; exact hy)
    · rw [List.set_append_right _ _ hk]
      rcases Nat.eq_or_lt_of_le hk with he | hlt
      · have := hn x (by rw [← he, List.getElem?_append_right (Nat.le_refl _), Nat.sub_self]; rfl)
        rw [← he, Nat.sub_self, List.set_cons_zero, lastI_snoc, lastI_snoc, this]
      · rw [show k - m.reverse.length = (k - m.reverse.length - 1) + 1 from by omega, List.set_cons_succ, List.set_nil]
abbrev St := List Nd × List Int
def put (l : List Nd) (op : List Int) (name text : ByteArray) (at_ : List Att) : Option (List Nd) := if l.length < 2000 then some (l ++ [⟨inner op, name, text, at_⟩]) else none
def begin_ (l : List Nd) (op : List Int) (t : Tok) : Except Int St :=
  if t.f1 = nul then .error 5 else if op = [] ∧ l ≠ [] then .error 6 else if 20 ≤ op.length then .error 7 else
    match put l op t.f1 nul t.f3 with
    | none => .error 3
    | some l' => .ok (l', if t.f4 = true then op else op ++ [(l.length : Int)])
def end_ (l : List Nd) (op : List Int) (t : Tok) : Except Int St :=
  if inner op < 0 then .error 6 else if (l.getD (inner op).toNat zn).f1 = t.f1 then .ok (l, op.dropLast) else .error 6
def blank (s : ByteArray) : Bool := s.data.toList.all Tk.space
def text (l : List Nd) (op : List Int) (s : ByteArray) : Except Int St :=
  if inner op < 0 then (if blank s then .ok (l, op) else .error 6) else if s = nul then .ok (l, op) else
    match lastI l (inner op) with
    | some k => if (l.getD k zn).f1 = nul then .ok (l.set k { l.getD k zn with f2 := (l.getD k zn).f2 ++ s }, op) else
        match put l op nul s [] with
        | none => .error 3
        | some l' => .ok (l', op)
    | none => match put l op nul s [] with
        | none => .error 3
        | some l' => .ok (l', op)
def take (l : List Nd) (op : List Int) (t : Tok) : Except Int St :=
  if t.f0 = 4 then .ok (l, op) else if t.f0 = 5 then .ok (l, op) else if t.f0 = 1 then begin_ l op t else if t.f0 = 2 then end_ l op t else if t.f0 = 3 then text l op t.f2 else .error 5
def all : List Nd → List Int → List Tok → Except Int St
  | l, op, [] => .ok (l, op)
  | l, op, t :: r => match take l op t with
    | .error e => .error e
    | .ok s => all s.1 s.2 r
def tree (ts : List Tok) : List Nd × Int :=
  match all [] [] ts with
  | .error e => ([], e)
  | .ok s => if s.1 = [] ∨ s.2 ≠ [] then ([], 6) else (s.1, 0)
def MapIs (D : DataW Unit) (l : List Nd) : Prop := ∀ p : Int, (Lit.int .i64 p).wf = true → Maps.has D (.int .i64 p) = (lastI l p).isSome ∧ ∀ k, lastI l p = some k → ∀ z, D.atKey (.int .i64 p) z = .lit (.int .i64 (k : Int))
theorem MapIs.none : MapIs (.map []) [] := fun p _ => ⟨rfl, fun k h => by simp [lastI] at h⟩
theorem isKey (p : Int) (hp : (Lit.int .i64 p).wf = true) : WideAt.IsKeyLit (.int .i64 p) := by
  trivial
theorem MapIs.snoc {D : DataW Unit} {l : List Nd} (h : MapIs D l) (hD : Maps.IsMap D) (n : Nd) (hp : (Lit.int .i64 n.f0).wf = true) : MapIs (D.put (.int .i64 n.f0) (.lit (.int .i64 (l.length : Int)))) (l ++ [n]) := by
  intro q hq
  rw [lastI_snoc]
  by_cases he : n.f0 = q
  · subst he
    rw [if_pos rfl]
    refine ⟨Maps.has_put_same hD (isKey _ hp) _, fun k hk z => ?_⟩
    injection hk with hk
    rw [Maps.atKey_put_same hD (isKey _ hp), hk]
  · have hne : (Lit.int .i64 q : Lit) ≠ Lit.int .i64 n.f0 := fun h => by injection h with _ h; exact he h.symm
    rw [if_neg he, Maps.has_put_other hne]
    refine ⟨(h q hq).1, fun k hk z => ?_⟩
    rw [Maps.atKey_put_other hne]
    exact (h q hq).2 k hk z
theorem MapIs.set {D : DataW Unit} {l : List Nd} (h : MapIs D l) (k : Nat) (n : Nd) (hn : ∀ x, l[k]? = some x → n.f0 = x.f0) : MapIs D (l.set k n) := by
  intro q hq
  rw [lastI_set l k n q hn]
  exact h q hq
end El
end Go.Proofs.Ytkoogebfdinbnaa.Q
namespace Go.Proofs.Ytkoogebfdinbnaa.Q
open Go.RowKit Go.Proofs.YtkoogebfdinbnaaW.PrintWords Go.Proofs.YtkoogebfdinbnaaW.PrintLast Go.Proofs.YtkoogebfdinbnaaW.Own Go.Proofs.YtkoogebfdinbnaaW.PrintMore
attribute [local go_sem] max2_int min2_int max_two min_two max_three min_three max_four min_four   -- for this text's walks alone
set_option linter.unusedVariables false
set_option linter.unusedSimpArgs false
set_option maxHeartbeats 20000000
set_option maxRecDepth 100000
def BAt (w : World) (B g N : Nat) (l : List El.Nd) (op : List Int) : Prop :=
 ∃ v1 v2 m n D, w.heap[g]? = some (.cells #[v1, v2, .map (some m)] 59 (0, 0)) ∧ Kd.S k29 29 w B (fun k => k < N) v1 l ∧ Kd.R (Kd.int .i64) 3 w B (fun _ => True) v2 op ∧ w.ownsMap Try.prog 3 (plainElem (H := Unit) Try.prog 3) m n D ∧ n ≤ l.length ∧ El.MapIs D l ∧ B ≤ g ∧ B ≤ m ∧ 0 < B
theorem map_at {P : Program} {k m n : Nat} {R : Value → Option (DataW Unit × List MemPlace)} {D : DataW Unit} {w w1 : World} (h : w.ownsMap P k R m n D) (e : w1.heap[m]? = w.heap[m]?) : w1.ownsMap P k R m n D := by
 obtain ⟨es, clock, hb, r⟩ := h
 exact ⟨es, clock, e.trans hb, r⟩
theorem map_ne {P : Program} {k m n g t : Nat} {R : Value → Option (DataW Unit × List MemPlace)} {D : DataW Unit} {w : World} {cells : Array Value} {fr : Nat × Nat} (h : w.ownsMap P k R m n D) (hb : w.heap[g]? = some (.cells cells t fr)) : m ≠ g := by
 rintro rfl
 obtain ⟨es, clock, hb', r⟩ := h
 rw [hb] at hb'
 cases hb'
theorem BAt.below {w w1 : World} {B g N : Nat} {l : List El.Nd} {op : List Int} (h : BAt w B g N l op) (hb : Below w.heap.size w w1) : BAt w1 B g N l op := by
 obtain ⟨v1, v2, m, n, D, h1, h2, h3, h4, r⟩ := h
 exact ⟨v1, v2, m, n, D, blk_below h1 hb, Kd.S_below h2 hb, Kd.R_below h3 hb, map_at h4 (hb.block m h4.lt), r⟩
theorem BAt.now {w : World} {B g N : Nat} {l : List El.Nd} {op : List Int} (h : BAt w B g N l op) : BAt w B g w.heap.size l op := by
 obtain ⟨v1, v2, m, n, D, h1, h2, r⟩ := h
 exact ⟨v1, v2, m, n, D, h1, Kd.S_mono (Kd.S_bound h2) (fun k hk => hk.2.2.1), r⟩
theorem BAt.ge {w : World} {B g N : Nat} {l : List El.Nd} {op : List Int} (h : BAt w B g N l op) : B ≤ g ∧ g < w.heap.size ∧ 0 < B := by
 obtain ⟨v1, v2, m, n, D, h1, h2, h3, h4, h5, h6, h7, h8, h9⟩ := h
 exact ⟨h7, blk_lt h1, h9⟩
def Stay (w w' : World) : Prop := ∀ (k : Nat) (o : Array Value), w.heap[k]? = some (.cells o 40 (0, 0)) → w'.heap[k]? = some (.cells o 40 (0, 0))
theorem Stay.trans {w w1 w2 : World} (h : Stay w w1) (h2 : Stay w1 w2) : Stay w w2 := fun k o hk => h2 k o (h k o hk)
theorem Stay.below {w w1 : World} (hb : Below w.heap.size w w1) : Stay w w1 := fun k o hk => blk_below hk hb
theorem Stay.map {P : Program} {k m n : Nat} {R : Value → Option (DataW Unit × List MemPlace)} {D : DataW Unit} {w w1 : World} (hm : w.ownsMap P k R m n D) (hg : w.grownBy w1 (some m)) : Stay w w1 := fun k o hk => blk_grown hk hg (fun h => map_ne hm hk (by injection h with h; exact h.symm))
theorem Stay.row {w w1 : World} {v : Value} {e : Nat} (hty : ∀ k, v.ownBlock = some k → ∃ cells, w.heap[k]? = some (.cells cells e (0, 0))) (he : e ≠ 40) (hg : w.grownBy w1 v.ownBlock) : Stay w w1 := fun k o hk => blk_grown hk hg (fun h => by
 obtain ⟨cells, hc⟩ := hty k h.symm
 rw [hk] at hc
 injection hc with hc
 injection hc with _ hc
 exact he hc.symm)
theorem Stay.set {w : World} {g t : Nat} {cells : Array Value} (hb : w.heap[g]? = some (.cells cells t (0, 0))) (ht : t ≠ 40) (i : Nat) (u : Value) : Stay w (w.setCell ⟨g, i, none⟩ u) := fun k o hk => blk_far hk (fun e => by
 have e : k = g := e
 subst e
 rw [hk] at hb
 injection hb with hb
 injection hb with _ hb
 exact ht hb.symm) u
theorem last_at (op : List Int) (h : op ≠ []) : rd op ((op.length : Int) - 1) = El.inner op := by
 unfold rd El.inner
 have hl : op.length ≠ 0 := fun h0 => h (List.eq_nil_of_length_eq_zero h0)
 rw [show ((op.length : Int) - 1).toNat = op.length - 1 from by omega, List.getLast?_eq_getElem?]
 rw [List.getD_eq_getElem?_getD, List.getElem?_eq_getElem (by omega)]
 rfl
theorem element_builder_inner.calls (B g N : Nat) (l : List El.Nd) (op : List Int) (w : World) (h : BAt w B g N l op) (hop : op.length ≤ 100000) :
 Calls Try.prog 46 #[.pointer (some ⟨g, 0, none⟩)] w fun e w' => e = .returned (.int .i64 (El.inner op)) ∧ Drawn0 w w' := by
 obtain ⟨v1, v2, m, n, D, h1, h2, h3, _⟩ := h
 obtain ⟨A2, c2, rfl⟩ := Kd.R_slice h3
 have x1 := (blk_cell h1 1).trans rfl
 have HC := (Kd.R_reads' h3).2.2
 have hu := Try.underlying59
 clear h1 h2 h3
 by_cases ho : op = []
 ·subst ho
  go_enter Try.func46, Try.ntmps46
  go_wp2
  go_ret
  exact ⟨rfl, Drawn0.refl _⟩
 have hl : op.length ≠ 0 := fun h0 => ho (List.eq_nil_of_length_eq_zero h0)
 have e1 : ((op.length : Int) == 0) = false := beq_eq_false_iff_ne.mpr (by omega)
 have e1' : (op.length == 0) = false := beq_eq_false_iff_ne.mpr hl
 have ew : wrap64 ((op.length : Int) - 1) = (op.length : Int) - 1 := by unfold wrap64; omega
 obtain ⟨ad, e_, hx0⟩ := Kd.at_int HC ((op.length : Int) - 1) (by omega) (by omega)
 cases e_
 rw [last_at op ho] at hx0
 have ew' : IntKind.i64.wrap ((op.length : Int) - 1) = (op.length : Int) - 1 := by rw [i64_w]; exact ew
 have hx1 : w.cell? (ad.add (op.length - 1)) = some (.int .i64 (El.inner op)) := by rw [show ((op.length : Int) - 1).toNat = op.length - 1 from by omega] at hx0; exact hx0
 have p1 := eq_true (show (0 : Int) ≤ (op.length : Int) - 1 by omega)
 have p2 := eq_true (show (op.length : Int) - 1 < (op.length : Int) by omega)
 clear HC
 go_enter Try.func46, Try.ntmps46
 go_wp2
 go_quiet (fail)
 go_wp2
 go_ret
 exact ⟨rfl, ⟨_, rfl⟩⟩
theorem ndInfo : (Try.prog.info? 29).map (fun i => (i.zero, i.size, i.bytes)) = some (some (.agg #[.int .i64 0, .string ⟨#[]⟩, .string ⟨#[]⟩, .slice none 0 0]), 4, 64) := by kernel_rfl
theorem S_map {α : Type} {d : Kd α} {e base : Nat} {ok : Nat → Prop} {w w1 : World} {v : Value} {xs : List α} {P : Program} {k m n : Nat} {R : Value → Option (DataW Unit × List MemPlace)} {D : DataW Unit} (h : Kd.S d e w base ok v xs) (hm : w.ownsMap P k R m n D) (hg : w.grownBy w1 (some m)) : Kd.S d e w1 base ok v xs := by
 refine Kd.S_mono (Kd.S_grown (ok := fun k => ok k ∧ k ≠ m) (Kd.S_mono (Kd.S_bound h) (fun k hk => ⟨hk.1, ?_⟩)) hg (fun k hk h => hk.2 (by injection h))) (fun _ hk => hk.1)
 rintro rfl
 obtain ⟨_, _, _, q, hq, cells, hc⟩ := hk
 exact map_ne hm hc rfl
theorem R_map {α : Type} {d : Kd α} {e base : Nat} {ok : Nat → Prop} {w w1 : World} {v : Value} {xs : List α} {P : Program} {k m n : Nat} {R : Value → Option (DataW Unit × List MemPlace)} {D : DataW Unit} (h : d.R e w base ok v xs) (hm : w.ownsMap P k R m n D) (hg : w.grownBy w1 (some m)) : d.R e w1 base ok v xs := by
 refine Kd.R_mono (Kd.R_grown (ok := fun k => ok k ∧ k ≠ m) (Kd.R_mono (Kd.R_bound h) (fun k hk => ⟨hk.1, ?_⟩)) hg (fun k hk h => hk.2 (by injection h))) (fun _ hk => hk.1)
 rintro rfl
 obtain ⟨_, _, _, q, hq, cells, hc⟩ := hk
 exact map_ne hm hc rfl
theorem map_off {α : Type} {d : Kd α} {e base : Nat} {ok : Nat → Prop} {w : World} {v : Value} {xs : List α} {P : Program} {k m n : Nat} {R : Value → Option (DataW Unit × List MemPlace)} {D : DataW Unit} (hm : w.ownsMap P k R m n D) (h : Kd.S d e w base ok v xs) : some m ≠ v.ownBlock := by
 intro he
 obtain ⟨cells, hc⟩ := Kd.S_typed h m he.symm
 exact map_ne hm hc rfl
theorem node_apart {w : World} {B : Nat} {ok okp : Nat → Prop} {v va : Value} {L : List El.Nd} {xs : List El.Att} (ha : Kd.R k68 68 w B okp va xs) (h2 : Kd.S k29 29 w B ok v L) :
 Kd.R k68 68 w B (fun k => okp k ∧ some k ≠ v.ownBlock) va xs := by
 refine Kd.R_mono (Kd.R_bound ha) (fun k hk => ?_)
 obtain ⟨hok, _, _, q, hq, cells, hc⟩ := hk
 have hq' : q = 68 := by simpa [k68, Kd.iso, Kd.pair, Kd.string, Kd.scalar] using hq
 subst hq'
 refine ⟨hok, fun he => ?_⟩
 obtain ⟨cells', hc'⟩ := Kd.S_typed h2 k he.symm
 rw [hc'] at hc
 injection hc with hc
 injection hc with _ hc
 exact absurd hc (by decide)
theorem int_wf (p : Int) (h0 : -9223372036854775808 ≤ p) (h1 : p ≤ 9223372036854775807) : (Lit.int .i64 p).wf = true := by
 have e1 : IntKind.i64.min = -9223372036854775808 := by decide
 have e2 : IntKind.i64.max = 9223372036854775807 := by decide
 show (decide (IntKind.i64.min ≤ p) && decide (p ≤ IntKind.i64.max)) = true
 rw [e1, e2, Bool.and_eq_true]
 exact ⟨decide_eq_true h0, decide_eq_true h1⟩
theorem inner_range (l : List El.Nd) (op : List Int) (hw : ∀ i ∈ op, 0 ≤ i ∧ i < (l.length : Int)) : -1 ≤ El.inner op ∧ (El.inner op < (l.length : Int) ∨ El.inner op = -1) := by
 unfold El.inner
 cases h : op.getLast? with
 | none => exact ⟨Int.le_refl _, .inr rfl⟩
 | some x =>
  have := hw x (List.mem_of_getLast? h)
  exact ⟨by show -1 ≤ x; omega, .inl this.2⟩
theorem element_builder_put.full (B g N : Nat) (l : List El.Nd) (op : List Int) (nd : El.Nd) (va : Value) (w : World) (h : BAt w B g N l op) (hl : 2000 ≤ l.length) (hl2 : l.length ≤ 100000) :
 Calls Try.prog 44 #[.pointer (some ⟨g, 0, none⟩), .agg #[.int .i64 nd.f0, .string nd.f1, .string nd.f2, va]] w fun e w' => e = .returned (.int .i64 3) ∧ Below w.heap.size w w' := by
 obtain ⟨v1, v2, m, n, D, h1, h2, h3, _⟩ := h
 obtain ⟨A1, c1, rfl⟩ := Kd.S_slice h2
 have x0 := (blk_cell (blk_alloc h1 (.cells #[.int .i64 nd.f0, .string nd.f1, .string nd.f2, va] 29)) 0).trans rfl
 have hu := Try.underlying59
 have d1 : decide ((2000 : Int) ≤ (l.length : Int)) = true := decide_eq_true (by omega)
 have HB := Aside0.mk (below_alloc (Below.refl w.heap.size w) (.cells #[.int .i64 nd.f0, .string nd.f1, .string nd.f2, va] 29))
 clear h1 h2 h3
 go_enter Try.func44, Try.ntmps44
 go_wp2
 go_ret
 exact ⟨rfl, HB.out⟩
theorem element_builder_put.room (B g N : Nat) (l : List El.Nd) (op : List Int) (nd : El.Nd) (va : Value) (w : World) (h : BAt w B g N l op) (hN : N ≤ w.heap.size) (ha : Kd.R k68 68 w B (fun k => N ≤ k) va nd.f3) (hl : l.length < 2000) (hop : op.length ≤ 100000) (hin : ∀ i ∈ op, 0 ≤ i ∧ i < (l.length : Int)) :
 Calls Try.prog 44 #[.pointer (some ⟨g, 0, none⟩), .agg #[.int .i64 nd.f0, .string nd.f1, .string nd.f2, va]] w fun e w' => e = .returned (.int .i64 0) ∧ BAt w' B g w'.heap.size (l ++ [⟨El.inner op, nd.f1, nd.f2, nd.f3⟩]) op ∧ Below B w w' ∧ Stay w w' := by
 have H := Aside0.mk h
 obtain ⟨hgB, hgl, hpos⟩ := h.ge
 obtain ⟨v1, v2, m, n, D, h1, h2, h3, h4, h5, h6, h7, h8, h9⟩ := h
 obtain ⟨A1, c1, rfl⟩ := Kd.S_slice h2
 obtain ⟨A2, c2, rfl⟩ := Kd.R_slice h3
 obtain ⟨A0, c0, rfl⟩ := Kd.R_slice ha
 have x0 := (blk_cell (blk_alloc h1 (.cells #[.int .i64 nd.f0, .string nd.f1, .string nd.f2, .slice A0 nd.f3.length c0] 29)) 0).trans rfl
 have hu := Try.underlying59
 have d1 : decide ((2000 : Int) ≤ (l.length : Int)) = false := decide_eq_false (by omega)
 obtain ⟨p, hp⟩ : ∃ p, p = El.inner op := ⟨_, rfl⟩
 have hpr := inner_range l op hin
 rw [← hp] at hpr
 have HP := Lib.hid hp
 have HPR := Lib.hid hpr
 rw [← hp]
 have HN := Lib.hid hN
 have HL := Lib.hid hl
 have HGE := Lib.hid (show B ≤ g ∧ g < w.heap.size ∧ 0 < B ∧ B ≤ m ∧ n ≤ l.length from ⟨hgB, hgl, hpos, h8, h5⟩)
 have H1 := Aside0.mk h1
 have H2 := Aside0.mk h2
 have H3 := Aside0.mk h3
 have H4 := Aside0.mk h4
 have H6 := Aside0.mk h6
 have HA := Aside0.mk ha
 have HB0 := Aside0.mk (below_alloc (Below.refl w.heap.size w) (.cells #[.int .i64 nd.f0, .string nd.f1, .string nd.f2, .slice A0 nd.f3.length c0] 29))
 have CI := Aside0.mk (fun W (hW : Below w.heap.size w W) => element_builder_inner.calls B g N l op W (H.out.below hW) hop)
 rw [← hp] at CI
 clear h1 h2 h3 h4 h5 h6 h7 h8 h9 ha hp hpr hgB hgl hpos hN hl hop hin H
 go_enter Try.func44, Try.ntmps44
 go_wp2_with (first | (go_at_call 46; (with_reducible refine (CI.out _ HB0.out).mono ?_); rintro e w1 ⟨rfl, ⟨nd1, rfl⟩⟩))
 obtain ⟨W, hW⟩ : ∃ W, W = (((w.alloc (.cells #[.int .i64 nd.f0, .string nd.f1, .string nd.f2, .slice A0 nd.f3.length c0] 29)).drewN nd1).setCell ⟨w.heap.size, 0, none⟩ (.int .i64 p)) := ⟨_, rfl⟩
 have hX : W.heap[w.heap.size]? = some (.cells #[.int .i64 p, .string nd.f1, .string nd.f2, .slice A0 nd.f3.length c0] 29 (0, 0)) := by
  rw [hW]
  exact blk_set (blk_drewN (heap_alloc_new w (.cells #[.int .i64 nd.f0, .string nd.f1, .string nd.f2, .slice A0 nd.f3.length c0] 29)) nd1) 0 (.int .i64 p)
 have hBW : Below w.heap.size w W := by
  rw [hW]
  exact below_set (pw_below_drewN HB0.out nd1) (Nat.le_refl _)
 rw [← hW]
 clear hW HB0 CI
 have g1 := Aside0.mk (blk_below H1.out hBW)
 have g2 := Aside0.mk (Kd.S_below H2.out hBW)
 have g3 := Aside0.mk (Kd.R_below H3.out hBW)
 have g4 := Aside0.mk (map_at H4.out (hBW.block m H4.out.lt))
 have gA := Aside0.mk (Kd.R_below HA.out hBW)
 have HX := Aside0.mk hX
 have HBW := Aside0.mk (hBW.mono (Nat.le_trans HGE.out.1 (Nat.le_of_lt HGE.out.2.1)))
 have HSZ := Lib.hid hBW.size
 have HST := Aside0.mk (Stay.below hBW)
 clear H1 H2 H3 H4 HA hX hBW
 have x0 := (blk_cell g1.out 0).trans rfl
 have x2 := (blk_cell g1.out 2).trans rfl
 have y0 := (blk_cell HX.out 0).trans rfl
 have hwp := int_wf p (by have := HPR.out; omega) (by have := HPR.out; have := HL.out; omega)
 have hwl := int_wf (l.length : Int) (by omega) (by have := HL.out; omega)
 have hn : n < maxLen := by have := HGE.out.2.2.2.2; have := HL.out; unfold maxLen; omega
 have HWL := Lib.hid hwl
 have HWP := Lib.hid hwp
 go_still_tail 11, (by kernel_rfl)
 go_wp2_with (first | (at_mapUpdate; go_loud (refine wpList_mapUpdate_own _ rfl _ _ _ 57 rfl 3 3 (Maps.int_keyed Try.underlying3) Try.underlying57 _ m n D rfl (World.ownsMap.drew g4.out) hn _ _ (.int .i64 p) rfl rfl (Maps.keyOf_int_mk Try.underlying3 hwp) (.lit (.int .i64 (l.length : Int))) [] (plainElem_int Try.underlying3 hwl) ?_; intro w1 hown1 hgrow1)))
 have hmg := map_ne g4.out g1.out
 have k1 := Aside0.mk (blk_grown (blk_drew g1.out) hgrow1 (fun h => hmg (by injection h with h; exact h.symm)))
 have kX := Aside0.mk (blk_grown (blk_drew HX.out) hgrow1 (fun h => map_ne g4.out HX.out (by injection h with h; exact h.symm)))
 have k2 := Aside0.mk (S_map (Kd.S_drew g2.out) (World.ownsMap.drew g4.out) hgrow1)
 have k3 := Aside0.mk (R_map (Kd.R_drew g3.out) (World.ownsMap.drew g4.out) hgrow1)
 have kA := Aside0.mk (node_apart (ok := fun k => k < N) (R_map (Kd.R_drew gA.out) (World.ownsMap.drew g4.out) hgrow1) k2.out)
 have hWB : B ≤ W.heap.size := by have := HSZ.out; have := HGE.out; omega
 have kB := Aside0.mk (Below.grown (below_drew HBW.out) hgrow1 hWB (fun k hk => by injection hk with hk; rw [← hk]; exact HGE.out.2.2.2.1))
 have k4 := Aside0.mk hown1
 have kS := Aside0.mk (HST.out.trans (show Stay W w1 from Stay.map (w := W.drew) (World.ownsMap.drew g4.out) hgrow1))
 clear HST
 have HMG := Lib.hid hmg
 have hw1 : W.heap.size ≤ w1.heap.size := by obtain ⟨_, _, _, hs_, _⟩ := hgrow1; exact hs_
 have HW1 := Lib.hid (show w.heap.size ≤ w1.heap.size ∧ B ≤ w1.heap.size from ⟨Nat.le_trans HSZ.out hw1, Nat.le_trans hWB hw1⟩)
 have HMP := Aside0.mk (El.MapIs.snoc H6.out (World.ownsMap.isMap g4.out) ⟨p, nd.f1, nd.f2, nd.f3⟩ HWP.out)
 clear hgrow1 hown1 hmg hw1 hWB g1 g2 g3 g4 gA HX HBW H6 hwp hwl hn x0 x2 y0 HSZ
 clear W
 have x0 := (blk_cell k1.out 0).trans rfl
 have z0 := blk_frozen k1.out 0
 have x0a := fun o => (blk_cell (blk_alloc k1.out o) 0).trans rfl
 have y0 := (blk_cell kX.out 0).trans rfl
 have y1 := (blk_cell kX.out 1).trans rfl
 have y2 := (blk_cell kX.out 2).trans rfl
 have y3 := (blk_cell kX.out 3).trans rfl
 have hll := HL.out
 go_region_law (refine Kd.S_append_step k29 (w0 := w) (W := w1.drew) B (by rfl) (.tmp 29) (.tmp 31) 23 29 _ 64 rfl Try.underlying23 ndInfo rfl (by decide) (by decide) (.slice A1 l.length c1) l ⟨p, nd.f1, nd.f2, nd.f3⟩ [.int .i64 p, .string nd.f1, .string nd.f2, .slice A0 nd.f3.length c0] (fun k => True) (fun k => N ≤ k ∧ some k ≠ (Value.slice A1 l.length c1).ownBlock) rfl rfl (k29_mkM _ _ _ ⟨p, nd.f1, nd.f2, nd.f3⟩ (Kd.R_drew kA.out)) (fun k hk => ⟨trivial, hk.2⟩) (fun _ _ => trivial) (Kd.S_mono (Kd.S_drew k2.out) (fun k hk => ⟨trivial, fun h => by have := h.1; omega⟩)) (below_drew kB.out) HW1.out.2 (by omega) ?_; intro v1 w2 r1 b1 gg at1; obtain ⟨A3, c3, rfl⟩ := Kd.S_slice r1; have R1 := Aside0.mk r1; have B1 := Aside0.mk b1; have G1 := Aside0.mk (blk_grown (blk_drew k1.out) gg (Kd.S_ne k2.out k1.out (by decide))); have G3 := Aside0.mk (Kd.R_over' (Kd.R_drew k3.out) (Kd.S_typed (Kd.S_drew k2.out)) (by decide) gg); have G4 := Aside0.mk (World.ownsMap.kept (World.ownsMap.drew k4.out) gg (map_off k4.out k2.out)); have GS := Aside0.mk (kS.out.trans (show Stay w1 w2 from Stay.row (w := w1.drew) (Kd.S_typed (Kd.S_drew k2.out)) (by decide) gg)); clear r1 b1 gg at1; have zz2 := blk_frozen G1.out 0; have yy2 := (blk_cell G1.out 0).trans rfl)
 all_goals
  go_wp2
  go_ret
  have hGE := HGE.out
  have G2 := blk_set G1.out 0 (.slice A3 (l ++ [(⟨p, nd.f1, nd.f2, nd.f3⟩ : El.Nd)]).length c3)
  have R2 := Kd.S_set R1.out G1.out (by decide) 0 (.slice A3 (l ++ [(⟨p, nd.f1, nd.f2, nd.f3⟩ : El.Nd)]).length c3)
  have R3 := Kd.R_set G3.out G1.out (by decide) 0 (.slice A3 (l ++ [(⟨p, nd.f1, nd.f2, nd.f3⟩ : El.Nd)]).length c3)
  have B2 := B1.out.setCell (p := ⟨g, 0, none⟩) hGE.1 (.slice A3 (l ++ [(⟨p, nd.f1, nd.f2, nd.f3⟩ : El.Nd)]).length c3)
  have M2 := World.ownsMap.setCell G4.out (a := ⟨g, 0, none⟩) HMG.out (.slice A3 (l ++ [(⟨p, nd.f1, nd.f2, nd.f3⟩ : El.Nd)]).length c3)
  have el : (l ++ [(⟨p, nd.f1, nd.f2, nd.f3⟩ : El.Nd)]).length = l.length + 1 := by simp
  rw [el] at G2 R2 B2 R3 M2
  exact ⟨rfl, ⟨_, _, m, n + 1, _, by simpa using G2, Kd.S_mono (Kd.S_bound R2) (fun k hk => hk.2.2.1), R3, M2, by rw [el]; omega, HMP.out, hGE.1, hGE.2.2.2.1, hGE.2.2.1⟩, B2, GS.out.trans (Stay.set G1.out (by decide) 0 _)⟩
theorem cloneInfo : (Try.prog.info? 68).map (fun i => (i.zero, i.size, i.bytes)) = some (some (.agg #[.string ⟨#[]⟩, .string ⟨#[]⟩]), 2, 32) := by kernel_rfl
theorem equalIn_slice {P : Program} (w : World) (d : Nat) (t e : TypeId) (a : Option Addr) (n c : Nat) (h : P.underlying t = some (.slice e)) : (Op.equalIn (d + 1) t (.slice a n c) (.slice none 0 0)).run P w = .ok a.isNone w := by
 cases a <;> simp [Op.equalIn, run_underlying h]
theorem eql_slice {P : Program} (w : World) (t e : TypeId) (a : Option Addr) (n c : Nat) (h : P.underlying t = some (.slice e)) : (binOp .eql t (.slice a n c) (.slice none 0 0)).run P w = .ok (.bool a.isNone) w := by
 simp only [binOp]
 simp [Op.equal, Op.maxDepth, equalIn_slice w 9999 t e a n c h]
theorem api_Attr_45.calls (A0 : Option Addr) (c0 : Nat) (l0 : List S68) (w : World) (hr0 : Kd.C k68 w A0 l0.length l0) (hl : l0.length ≤ 1000000) :
 Calls Try.prog 45 #[.slice A0 l0.length c0] w fun e w' => ∃ v0_ : Value, e = .returned v0_ ∧ Kd.R k68 68 w' w.heap.size (fun _ => True) v0_ l0 ∧ Below w.heap.size w w' := by
 have HR0 := Aside0.mk hr0
 clear hr0
 go_enter Try.func45, Try.ntmps45
 cases A0 with
 | none =>
  have hq : (binOp .eql 27 (.slice none l0.length c0) (.slice none 0 0)).run Try.prog w = .ok (.bool true) w := eql_slice w 27 68 none l0.length c0 Try.underlying27
  have h0 : l0 = [] := by
   refine List.eq_nil_of_length_eq_zero (Classical.byContradiction fun h => ?_)
   obtain ⟨ad, h, _⟩ := HR0.out.2.2 (by omega)
   cases h
  subst h0
  have hq2 : (binOp .eql 27 (.slice none 0 c0) (.slice none 0 0)).run Try.prog w = .ok (.bool true) w := hq
  go_wp2
  go_ret
  exact ⟨_, rfl, Kd.R_nil _ _ _ _ _, Below.refl _ _⟩
 | some ad =>
  have hq : (binOp .eql 27 (.slice (some ad) l0.length c0) (.slice none 0 0)).run Try.prog w = .ok (.bool false) w := eql_slice w 27 68 (some ad) l0.length c0 Try.underlying27
  have hlt : w.heap.size ≤ (w.alloc (.cells #[] 68)).heap.size := (below_alloc (Below.refl _ w) _).size
  have hX : Kd.R k68 68 (w.alloc (.cells #[] 68)) w.heap.size (fun _ => True) (.slice (some ⟨w.heap.size, 0, none⟩) 0 0) [] :=
   ⟨fun _ _ => trivial, [], World.ownsRow_lit w #[] 0 (Nat.le_refl _) (Nat.zero_le _) rfl, Reps.none _ _⟩
  have HX := Aside0.mk hX
  have HB := Aside0.mk (below_alloc (Below.refl w.heap.size w) (.cells #[] 68))
  have HC := Aside0.mk (Kd.C_below HR0.out HB.out)
  clear hX
  go_wp2_with (first | (at_builtin; go_loud (refine Kd.R_append_rows k68 (w0 := w) w.heap.size rfl _ _ 27 68 _ 32 rfl Try.underlying27 cloneInfo rfl (by decide) (by decide) _ [] l0 (some ad) l0.length c0 (fun _ => True) (fun _ => False) rfl rfl HX.out HC.out (fun x cs h => by obtain rfl := k68_open h; exact k68_mkM _ _ _ x) (fun _ h => h.elim) (fun _ _ => trivial) HB.out hlt (by simp only [List.length_nil]; omega) ?_; intro v1 w1 hr1 hb1 _ _)))
  go_ret
  exact ⟨_, rfl, by simpa using hr1, hb1⟩
theorem size_nul (s : ByteArray) : s.toList.isEmpty = decide (s = El.nul) := by
 rw [Bool.eq_iff_iff, List.isEmpty_iff, decide_eq_true_eq, toList_data]
 constructor
 ·intro h
  cases s with | mk d => cases d with | mk l => exact congrArg (fun x : List UInt8 => (⟨⟨x⟩⟩ : ByteArray)) h
 ·rintro rfl; rfl
theorem intInfo : (Try.prog.info? 3).map (fun i => (i.zero, i.size, i.bytes)) = some (some (.int .i64 0), 1, 8) := by kernel_rfl
theorem element_builder_begin.early (B g N : Nat) (l : List El.Nd) (op : List Int) (t : El.Tok) (va : Value) (r : Int) (w : World) (h : BAt w B g N l op) (hl : l.length ≤ 100000) (hop : op.length ≤ 100000)
 (hr : (if t.f1 = El.nul then some (5 : Int) else if op = [] ∧ l ≠ [] then some 6 else if 20 ≤ op.length then some 7 else none) = some r) :
 Calls Try.prog 29 #[.pointer (some ⟨g, 0, none⟩), .agg #[.int .i64 t.f0, .string t.f1, .string t.f2, va, .bool t.f4]] w fun e w' => e = .returned (.int .i64 r) ∧ Below w.heap.size w w' := by
 obtain ⟨v1, v2, m, n, D, h1, h2, h3, _⟩ := h
 obtain ⟨A1, c1, rfl⟩ := Kd.S_slice h2
 obtain ⟨A2, c2, rfl⟩ := Kd.R_slice h3
 obtain ⟨W, hW⟩ : ∃ W, W = w.alloc (.cells #[.int .i64 t.f0, .string t.f1, .string t.f2, va, .bool t.f4] 40) := ⟨_, rfl⟩
 have x0 := (blk_cell (blk_alloc h1 (.cells #[.int .i64 t.f0, .string t.f1, .string t.f2, va, .bool t.f4] 40)) 0).trans rfl
 have x1 := (blk_cell (blk_alloc h1 (.cells #[.int .i64 t.f0, .string t.f1, .string t.f2, va, .bool t.f4] 40)) 1).trans rfl
 have y1 := (blk_cell (heap_alloc_new w (.cells #[.int .i64 t.f0, .string t.f1, .string t.f2, va, .bool t.f4] 40)) 1).trans rfl
 have hu := Try.underlying59
 have ht := Try.underlying40
 have HB := Aside0.mk (below_alloc (Below.refl w.heap.size w) (.cells #[.int .i64 t.f0, .string t.f1, .string t.f2, va, .bool t.f4] 40))
 have s1 := size_nul t.f1
 clear h1 h2 h3 hW
 go_enter Try.func29, Try.ntmps29
 by_cases c1_ : t.f1 = El.nul
 ·rw [if_pos c1_] at hr
  obtain rfl := Option.some.inj hr
  rw [decide_eq_true c1_] at s1
  clear c1_ hr
  go_wp2
  go_ret
  exact ⟨rfl, HB.out⟩
 rw [if_neg c1_] at hr
 rw [decide_eq_false c1_] at s1
 by_cases c2_ : op = [] ∧ l ≠ []
 ·rw [if_pos c2_] at hr
  obtain rfl := Option.some.inj hr
  obtain ⟨rfl, c3_⟩ := c2_
  have hll : l.length ≠ 0 := fun h => c3_ (List.eq_nil_of_length_eq_zero h)
  have d1 : decide ((0 : Int) < (l.length : Int)) = true := decide_eq_true (by omega)
  have d2 : decide (0 < l.length) = true := decide_eq_true (by omega)
  clear c1_ c3_ hr hll
  go_wp2
  go_ret
  exact ⟨rfl, HB.out⟩
 rw [if_neg c2_] at hr
 by_cases c4_ : 20 ≤ op.length
 rotate_left
 ·rw [if_neg c4_] at hr
  cases hr
 rw [if_pos c4_] at hr
 obtain rfl := Option.some.inj hr
 have d0 : ((op.length : Int) == 0) = false := beq_eq_false_iff_ne.mpr (by omega)
 have d0' : (op.length == 0) = false := beq_eq_false_iff_ne.mpr (by omega)
 have d1 : decide ((20 : Int) ≤ (op.length : Int)) = true := decide_eq_true (by omega)
 have d2 : decide (20 ≤ op.length) = true := decide_eq_true (by omega)
 clear c1_ c2_ hr c4_
 go_wp2
 go_ret
 exact ⟨rfl, HB.out⟩
theorem map_offR {α : Type} {d : Kd α} {e base : Nat} {ok : Nat → Prop} {w : World} {v : Value} {xs : List α} {P : Program} {k m n : Nat} {R : Value → Option (DataW Unit × List MemPlace)} {D : DataW Unit} (hm : w.ownsMap P k R m n D) (h : d.R e w base ok v xs) : some m ≠ v.ownBlock := by
 intro he
 obtain ⟨cells, hc⟩ := Kd.R_typed h m he.symm
 exact map_ne hm hc rfl
theorem element_builder_begin.full (B g N : Nat) (l : List El.Nd) (op : List Int) (t : El.Tok) (A3 : Option Addr) (c3 : Nat) (w : World) (h : BAt w B g N l op) (hc3 : Kd.C k68 w A3 t.f3.length t.f3) (hlen : t.f3.length ≤ 1000000) (hl : 2000 ≤ l.length) (hl2 : l.length ≤ 100000) (hop : op.length < 20) (hin : ∀ i ∈ op, 0 ≤ i ∧ i < (l.length : Int)) (hn : t.f1 ≠ El.nul) (hroot : ¬ (op = [] ∧ l ≠ [])) :
 Calls Try.prog 29 #[.pointer (some ⟨g, 0, none⟩), .agg #[.int .i64 t.f0, .string t.f1, .string t.f2, .slice A3 t.f3.length c3, .bool t.f4]] w fun e w' => e = .returned (.int .i64 3) ∧ Below w.heap.size w w' := by
 have H := Aside0.mk h
 obtain ⟨hgB, hgl, hpos⟩ := h.ge
 have HGE := Lib.hid (show B ≤ g ∧ g < w.heap.size ∧ 0 < B from ⟨hgB, hgl, hpos⟩)
 obtain ⟨v1, v2, m, n, D, h1, h2, h3, _⟩ := h
 obtain ⟨A1, c1, rfl⟩ := Kd.S_slice h2
 obtain ⟨A2, c2, rfl⟩ := Kd.R_slice h3
 obtain ⟨W, hW⟩ : ∃ W, W = w.alloc (.cells #[.int .i64 t.f0, .string t.f1, .string t.f2, .slice A3 t.f3.length c3, .bool t.f4] 40) := ⟨_, rfl⟩
 have hX : W.heap[w.heap.size]? = some (.cells #[.int .i64 t.f0, .string t.f1, .string t.f2, .slice A3 t.f3.length c3, .bool t.f4] 40 (0, 0)) := by rw [hW]; exact heap_alloc_new w _
 have hBW : Below w.heap.size w W := by rw [hW]; exact below_alloc (Below.refl _ _) _
 have x0 := (blk_cell (blk_below h1 hBW) 0).trans rfl
 have x1 := (blk_cell (blk_below h1 hBW) 1).trans rfl
 have y1 := (blk_cell hX 1).trans rfl
 have y3 := (blk_cell hX 3).trans rfl
 rw [hW] at x0 x1 y1 y3
 have hu := Try.underlying59
 have ht := Try.underlying40
 have hu2 := Try.underlying29
 have s1 := size_nul t.f1
 rw [decide_eq_false hn] at s1
 have d4 : decide ((20 : Int) ≤ (op.length : Int)) = false := decide_eq_false (by omega)
 have d4' : decide (20 ≤ op.length) = false := decide_eq_false (by omega)
 have HB := Aside0.mk hBW
 have HX := Aside0.mk hX
 have HW := Aside0.mk ((H.out.now).below hBW).now
 have HC := Aside0.mk (Kd.C_below hc3 hBW)
 have HIN := Lib.hid hin
 have HL := Lib.hid (And.intro hl hl2)
 have HOP := Lib.hid hop
 have HWS := Lib.hid (show w.heap.size ≤ W.heap.size ∧ B ≤ W.heap.size from ⟨hBW.size, by have := hBW.size; omega⟩)
 have WS := Aside0.mk hW
 clear h1 h2 h3 hX hBW H hc3 hin hn hgB hgl hpos hl hl2
 go_enter Try.func29, Try.ntmps29
 have key : (((op.length : Int) == 0) = true ∧ (op.length == 0) = true ∧ decide ((0 : Int) < (l.length : Int)) = false ∧ decide (0 < l.length) = false) ∨ (((op.length : Int) == 0) = false ∧ (op.length == 0) = false) := by
  by_cases h0 : op = []
  ·left
   have hl0 : l = [] := Classical.byContradiction fun h => hroot ⟨h0, h⟩
   subst h0; subst hl0
   exact ⟨rfl, rfl, rfl, rfl⟩
  ·right
   exact ⟨beq_eq_false_iff_ne.mpr (fun h => h0 (List.eq_nil_of_length_eq_zero (by omega))), beq_eq_false_iff_ne.mpr (fun h => h0 (List.eq_nil_of_length_eq_zero h))⟩
 clear hroot hW hop
 rcases key with ⟨k1, k1', k2, k2'⟩ | ⟨k1, k1'⟩
 ·go_wp2
  rw [← WS.out]
  clear x0 x1 y1 y3
  have y1 := (blk_cell HX.out 1).trans rfl
  have y3 := (blk_cell HX.out 3).trans rfl
  go_region_law (first | (go_simp; go_at_call 45; (with_reducible refine (api_Attr_45.calls A3 c3 t.f3 _ (Kd.C_drew HC.out) hlen).mono ?_); rintro e w1 ⟨v, rfl, hr, hb⟩; obtain ⟨Av, cv, rfl⟩ := Kd.R_slice hr; have B1 := Aside0.mk (BAt.below (HW.out.below (below_drew (Below.refl _ _))) hb); have RA := Aside0.mk (Kd.R_lower (Kd.R_mono (ok' := fun k => W.heap.size ≤ k) (Kd.R_bound hr) (fun k hk => hk.2.1)) HWS.out.2); have X1 := Aside0.mk (blk_below (blk_drew HX.out) hb); have N1 := Aside0.mk (show W.heap.size ≤ w1.heap.size from hb.size); have BB1 := Aside0.mk (show Below w.heap.size w w1 from (below_drew HB.out).trans (hb.mono HWS.out.1)); clear hr hb; have z1 := (blk_cell X1.out 1).trans rfl) | (go_simp; go_at_call 44; (with_reducible refine (element_builder_put.full B g W.heap.size l op (⟨0, t.f1, (⟨#[]⟩ : ByteArray), t.f3⟩ : El.Nd) _ _ B1.out HL.out.1 HL.out.2).mono ?_); rintro e w2 ⟨rfl, hb2⟩; have B2 := Aside0.mk (below_step BB1.out hb2); clear hb2))
  all_goals
   go_wp2
   go_ret
   exact ⟨rfl, B2.out⟩
 ·go_wp2
  rw [← WS.out]
  clear x0 x1 y1 y3
  have y1 := (blk_cell HX.out 1).trans rfl
  have y3 := (blk_cell HX.out 3).trans rfl
  go_region_law (first | (go_simp; go_at_call 45; (with_reducible refine (api_Attr_45.calls A3 c3 t.f3 _ (Kd.C_drew HC.out) hlen).mono ?_); rintro e w1 ⟨v, rfl, hr, hb⟩; obtain ⟨Av, cv, rfl⟩ := Kd.R_slice hr; have B1 := Aside0.mk (BAt.below (HW.out.below (below_drew (Below.refl _ _))) hb); have RA := Aside0.mk (Kd.R_lower (Kd.R_mono (ok' := fun k => W.heap.size ≤ k) (Kd.R_bound hr) (fun k hk => hk.2.1)) HWS.out.2); have X1 := Aside0.mk (blk_below (blk_drew HX.out) hb); have N1 := Aside0.mk (show W.heap.size ≤ w1.heap.size from hb.size); have BB1 := Aside0.mk (show Below w.heap.size w w1 from (below_drew HB.out).trans (hb.mono HWS.out.1)); clear hr hb; have z1 := (blk_cell X1.out 1).trans rfl) | (go_simp; go_at_call 44; (with_reducible refine (element_builder_put.full B g W.heap.size l op (⟨0, t.f1, (⟨#[]⟩ : ByteArray), t.f3⟩ : El.Nd) _ _ B1.out HL.out.1 HL.out.2).mono ?_); rintro e w2 ⟨rfl, hb2⟩; have B2 := Aside0.mk (below_step BB1.out hb2); clear hb2))
  all_goals
   go_wp2
   go_ret
   exact ⟨rfl, B2.out⟩
theorem element_builder_begin.room (B g N : Nat) (l : List El.Nd) (op : List Int) (t : El.Tok) (A3 : Option Addr) (c3 : Nat) (w : World) (h : BAt w B g N l op) (hc3 : Kd.C k68 w A3 t.f3.length t.f3) (hlen : t.f3.length ≤ 1000000) (hl : l.length < 2000) (hl2 : l.length ≤ 100000) (hop : op.length < 20) (hin : ∀ i ∈ op, 0 ≤ i ∧ i < (l.length : Int)) (hn : t.f1 ≠ El.nul) (hroot : ¬ (op = [] ∧ l ≠ [])) :
 Calls Try.prog 29 #[.pointer (some ⟨g, 0, none⟩), .agg #[.int .i64 t.f0, .string t.f1, .string t.f2, .slice A3 t.f3.length c3, .bool t.f4]] w fun e w' => e = .returned (.int .i64 0) ∧ BAt w' B g w'.heap.size (l ++ [⟨El.inner op, t.f1, El.nul, t.f3⟩]) (if t.f4 = true then op else op ++ [(l.length : Int)]) ∧ Below B w w' := by
 obtain ⟨op', hop'⟩ : ∃ op', op' = if t.f4 = true then op else op ++ [(l.length : Int)] := ⟨_, rfl⟩
 rw [← hop']
 have HO' := Lib.hid hop'
 clear hop'
 have H := Aside0.mk h
 obtain ⟨hgB, hgl, hpos⟩ := h.ge
 have HGE := Lib.hid (show B ≤ g ∧ g < w.heap.size ∧ 0 < B from ⟨hgB, hgl, hpos⟩)
 obtain ⟨v1, v2, m, n, D, h1, h2, h3, _⟩ := h
 obtain ⟨A1, c1, rfl⟩ := Kd.S_slice h2
 obtain ⟨A2, c2, rfl⟩ := Kd.R_slice h3
 obtain ⟨W, hW⟩ : ∃ W, W = w.alloc (.cells #[.int .i64 t.f0, .string t.f1, .string t.f2, .slice A3 t.f3.length c3, .bool t.f4] 40) := ⟨_, rfl⟩
 have hX : W.heap[w.heap.size]? = some (.cells #[.int .i64 t.f0, .string t.f1, .string t.f2, .slice A3 t.f3.length c3, .bool t.f4] 40 (0, 0)) := by rw [hW]; exact heap_alloc_new w _
 have hBW : Below w.heap.size w W := by rw [hW]; exact below_alloc (Below.refl _ _) _
 have x0 := (blk_cell (blk_below h1 hBW) 0).trans rfl
 have x1 := (blk_cell (blk_below h1 hBW) 1).trans rfl
 have y1 := (blk_cell hX 1).trans rfl
 have y3 := (blk_cell hX 3).trans rfl
 rw [hW] at x0 x1 y1 y3
 have hu := Try.underlying59
 have ht := Try.underlying40
 have hu2 := Try.underlying29
 have s1 := size_nul t.f1
 rw [decide_eq_false hn] at s1
 have d4 : decide ((20 : Int) ≤ (op.length : Int)) = false := decide_eq_false (by omega)
 have d4' : decide (20 ≤ op.length) = false := decide_eq_false (by omega)
 have HB := Aside0.mk hBW
 have HX := Aside0.mk hX
 have HW := Aside0.mk ((H.out.now).below hBW).now
 have HC := Aside0.mk (Kd.C_below hc3 hBW)
 have HIN := Lib.hid hin
 have HL := Lib.hid (And.intro hl hl2)
 have HOP := Lib.hid hop
 have HWS := Lib.hid (show w.heap.size ≤ W.heap.size ∧ B ≤ W.heap.size from ⟨hBW.size, by have := hBW.size; omega⟩)
 have WS := Aside0.mk hW
 clear h1 h2 h3 hX hBW H hc3 hin hn hgB hgl hpos hl hl2
 go_enter Try.func29, Try.ntmps29
 have key : (((op.length : Int) == 0) = true ∧ (op.length == 0) = true ∧ decide ((0 : Int) < (l.length : Int)) = false ∧ decide (0 < l.length) = false) ∨ (((op.length : Int) == 0) = false ∧ (op.length == 0) = false) := by
  by_cases h0 : op = []
  ·left
   have hl0 : l = [] := Classical.byContradiction fun h => hroot ⟨h0, h⟩
   subst h0; subst hl0
   exact ⟨rfl, rfl, rfl, rfl⟩
  ·right
   exact ⟨beq_eq_false_iff_ne.mpr (fun h => h0 (List.eq_nil_of_length_eq_zero (by omega))), beq_eq_false_iff_ne.mpr (fun h => h0 (List.eq_nil_of_length_eq_zero h))⟩
 clear hroot hW hop
 rcases key with ⟨k1, k1', k2, k2'⟩ | ⟨k1, k1'⟩
 ·go_wp2
  rw [← WS.out]
  clear x0 x1 y1 y3
  have y1 := (blk_cell HX.out 1).trans rfl
  have y3 := (blk_cell HX.out 3).trans rfl
  go_region_law (first | (go_simp; go_at_call 45; (with_reducible refine (api_Attr_45.calls A3 c3 t.f3 _ (Kd.C_drew HC.out) hlen).mono ?_); rintro e w1 ⟨v, rfl, hr, hb⟩; obtain ⟨Av, cv, rfl⟩ := Kd.R_slice hr; have B1 := Aside0.mk (BAt.below (HW.out.below (below_drew (Below.refl _ _))) hb); have RA := Aside0.mk (Kd.R_lower (Kd.R_mono (ok' := fun k => W.heap.size ≤ k) (Kd.R_bound hr) (fun k hk => hk.2.1)) HWS.out.2); have X1 := Aside0.mk (blk_below (blk_drew HX.out) hb); have N1 := Aside0.mk (show W.heap.size ≤ w1.heap.size from hb.size); have BB1 := Aside0.mk (show Below w.heap.size w w1 from (below_drew HB.out).trans (hb.mono HWS.out.1)); clear hr hb; have z1 := (blk_cell X1.out 1).trans rfl) | (go_simp; go_at_call 44; (with_reducible refine (element_builder_put.room B g W.heap.size l op (⟨0, t.f1, (⟨#[]⟩ : ByteArray), t.f3⟩ : El.Nd) _ _ B1.out N1.out RA.out HL.out.1 (by have := HOP.out; omega) HIN.out).mono ?_); rintro e w2 ⟨rfl, hbt, hb2, hS⟩; have T2 := Aside0.mk hbt; have B2 := Aside0.mk (show Below B w w2 from (BB1.out.mono (Nat.le_of_lt (Nat.lt_of_le_of_lt HGE.out.1 HGE.out.2.1))).trans hb2); have X2 := Aside0.mk (hS _ _ X1.out); have z4 := (blk_cell X2.out 4).trans rfl; clear hbt hb2 hS))
  all_goals
   cases hf : t.f4 with
   | true =>
    rw [hf] at z4
    go_wp2
    go_ret
    have ho := HO'.out
    rw [hf, if_pos rfl] at ho
    rw [ho]
    exact ⟨rfl, T2.out, B2.out⟩
   | false =>
    rw [hf] at z4
    obtain ⟨l2, hl2⟩ : ∃ l2, l2 = l ++ [(⟨El.inner op, t.f1, El.nul, t.f3⟩ : El.Nd)] := ⟨_, rfl⟩
    have hlen2 : l2.length = l.length + 1 := by rw [hl2]; simp
    have hT2 : BAt w2 B g w2.heap.size l2 op := by rw [hl2]; exact T2.out
    obtain ⟨v1, v2, m', n', D', h1, h2, h3, h4, h5, h6, h7, h8, h9⟩ := hT2
    obtain ⟨A1', c1', rfl⟩ := Kd.S_slice h2
    obtain ⟨A2', c2', rfl⟩ := Kd.R_slice h3
    have hll := HL.out
    have hoo := HOP.out
    have ew : wrap64 ((l2.length : Int) - 1) = (l.length : Int) := by unfold wrap64; omega
    have ew' : IntKind.i64.wrap ((l2.length : Int) - 1) = (l.length : Int) := by rw [i64_w]; exact ew
    have hmg := map_ne h4 h1
    have HL2 := Lib.hid hl2
    have HN2 := Lib.hid (And.intro h5 hlen2)
    have HH := Lib.hid (And.intro h7 (And.intro h8 (And.intro h9 hmg)))
    have k1 := Aside0.mk h1
    have k2 := Aside0.mk h2
    have k3 := Aside0.mk h3
    have k4 := Aside0.mk h4
    have k6 := Aside0.mk h6
    clear h1 h2 h3 h4 h5 h6 h7 h8 h9 hmg hl2 hlen2 T2
    (try rw [hf])
    have x0 := (blk_cell k1.out 0).trans rfl
    have x1 := (blk_cell k1.out 1).trans rfl
    have zf := blk_frozen k1.out 1
    have x1a := fun o => (blk_cell (blk_alloc k1.out o) 1).trans rfl
    have hw2 : B ≤ w2.heap.size := by have := blk_lt k1.out; have := HH.out.1; omega
    go_wp2
    go_region_law (refine Kd.R_append_step (Kd.int .i64) (w0 := w) (W := w2.drew) B (by rfl) (.tmp 50) (.tmp 57) 34 3 _ 8 rfl Try.underlying34 intInfo rfl (by decide) (by decide) (.slice A2' op.length c2') op (l.length : Int) [.int .i64 (l.length : Int)] (fun _ => True) (fun _ => False) rfl rfl rfl (fun _ h => h.elim) (fun _ _ => trivial) (Kd.R_drew k3.out) (below_drew B2.out) hw2 (by omega) ?_; intro v3 w3 r1 b1 gg at1; obtain ⟨A4, c4, rfl⟩ := Kd.R_slice r1; have R1 := Aside0.mk r1; have BB3 := Aside0.mk b1; have G1 := Aside0.mk (blk_grown (blk_drew k1.out) gg (Kd.R_ne (Kd.R_drew k3.out) (blk_drew k1.out) (by decide))); have G2 := Aside0.mk (Kd.S_over' (Kd.S_drew k2.out) (Kd.R_typed (Kd.R_drew k3.out)) (by decide) gg); have G4 := Aside0.mk (World.ownsMap.kept (World.ownsMap.drew k4.out) gg (map_offR (World.ownsMap.drew k4.out) (Kd.R_drew k3.out))); clear r1 b1 gg at1; have zz := blk_frozen G1.out 1; have yy := (blk_cell G1.out 1).trans rfl)
    all_goals
     go_wp2
     go_ret
     have hH := HH.out
     have P1 := blk_set G1.out 1 (.slice A4 (op ++ [(l.length : Int)]).length c4)
     have P2 := Kd.S_set G2.out G1.out (by decide) 1 (.slice A4 (op ++ [(l.length : Int)]).length c4)
     have P3 := Kd.R_set R1.out G1.out (by decide) 1 (.slice A4 (op ++ [(l.length : Int)]).length c4)
     have PB := BB3.out.setCell (p := ⟨g, 1, none⟩) hH.1 (.slice A4 (op ++ [(l.length : Int)]).length c4)
     have PM := World.ownsMap.setCell G4.out (a := ⟨g, 1, none⟩) hH.2.2.2 (.slice A4 (op ++ [(l.length : Int)]).length c4)
     have el : (op ++ [(l.length : Int)]).length = op.length + 1 := by simp
     rw [el] at P1 P2 PB P3 PM
     have ho := HO'.out
     rw [hf, if_neg (show ¬ (false = true) by decide)] at ho
     rw [← HL2.out, ho]
     exact ⟨rfl, ⟨_, _, m', n', _, by simpa using P1, Kd.S_mono (Kd.S_bound P2) (fun k hk => hk.2.2.1), P3, PM, HN2.out.1, k6.out, hH.1, hH.2.1, hH.2.2.1⟩, PB⟩
 ·go_wp2
  rw [← WS.out]
  clear x0 x1 y1 y3
  have y1 := (blk_cell HX.out 1).trans rfl
  have y3 := (blk_cell HX.out 3).trans rfl
  go_region_law (first | (go_simp; go_at_call 45; (with_reducible refine (api_Attr_45.calls A3 c3 t.f3 _ (Kd.C_drew HC.out) hlen).mono ?_); rintro e w1 ⟨v, rfl, hr, hb⟩; obtain ⟨Av, cv, rfl⟩ := Kd.R_slice hr; have B1 := Aside0.mk (BAt.below (HW.out.below (below_drew (Below.refl _ _))) hb); have RA := Aside0.mk (Kd.R_lower (Kd.R_mono (ok' := fun k => W.heap.size ≤ k) (Kd.R_bound hr) (fun k hk => hk.2.1)) HWS.out.2); have X1 := Aside0.mk (blk_below (blk_drew HX.out) hb); have N1 := Aside0.mk (show W.heap.size ≤ w1.heap.size from hb.size); have BB1 := Aside0.mk (show Below w.heap.size w w1 from (below_drew HB.out).trans (hb.mono HWS.out.1)); clear hr hb; have z1 := (blk_cell X1.out 1).trans rfl) | (go_simp; go_at_call 44; (with_reducible refine (element_builder_put.room B g W.heap.size l op (⟨0, t.f1, (⟨#[]⟩ : ByteArray), t.f3⟩ : El.Nd) _ _ B1.out N1.out RA.out HL.out.1 (by have := HOP.out; omega) HIN.out).mono ?_); rintro e w2 ⟨rfl, hbt, hb2, hS⟩; have T2 := Aside0.mk hbt; have B2 := Aside0.mk (show Below B w w2 from (BB1.out.mono (Nat.le_of_lt (Nat.lt_of_le_of_lt HGE.out.1 HGE.out.2.1))).trans hb2); have X2 := Aside0.mk (hS _ _ X1.out); have z4 := (blk_cell X2.out 4).trans rfl; clear hbt hb2 hS))
  all_goals
   cases hf : t.f4 with
   | true =>
    rw [hf] at z4
    go_wp2
    go_ret
    have ho := HO'.out
    rw [hf, if_pos rfl] at ho
    rw [ho]
    exact ⟨rfl, T2.out, B2.out⟩
   | false =>
    rw [hf] at z4
    obtain ⟨l2, hl2⟩ : ∃ l2, l2 = l ++ [(⟨El.inner op, t.f1, El.nul, t.f3⟩ : El.Nd)] := ⟨_, rfl⟩
    have hlen2 : l2.length = l.length + 1 := by rw [hl2]; simp
    have hT2 : BAt w2 B g w2.heap.size l2 op := by rw [hl2]; exact T2.out
    obtain ⟨v1, v2, m', n', D', h1, h2, h3, h4, h5, h6, h7, h8, h9⟩ := hT2
    obtain ⟨A1', c1', rfl⟩ := Kd.S_slice h2
    obtain ⟨A2', c2', rfl⟩ := Kd.R_slice h3
    have hll := HL.out
    have hoo := HOP.out
    have ew : wrap64 ((l2.length : Int) - 1) = (l.length : Int) := by unfold wrap64; omega
    have ew' : IntKind.i64.wrap ((l2.length : Int) - 1) = (l.length : Int) := by rw [i64_w]; exact ew
    have hmg := map_ne h4 h1
    have HL2 := Lib.hid hl2
    have HN2 := Lib.hid (And.intro h5 hlen2)
    have HH := Lib.hid (And.intro h7 (And.intro h8 (And.intro h9 hmg)))
    have k1 := Aside0.mk h1
    have k2 := Aside0.mk h2
    have k3 := Aside0.mk h3
    have k4 := Aside0.mk h4
    have k6 := Aside0.mk h6
    clear h1 h2 h3 h4 h5 h6 h7 h8 h9 hmg hl2 hlen2 T2
    (try rw [hf])
    have x0 := (blk_cell k1.out 0).trans rfl
    have x1 := (blk_cell k1.out 1).trans rfl
    have zf := blk_frozen k1.out 1
    have x1a := fun o => (blk_cell (blk_alloc k1.out o) 1).trans rfl
    have hw2 : B ≤ w2.heap.size := by have := blk_lt k1.out; have := HH.out.1; omega
    go_wp2
    go_region_law (refine Kd.R_append_step (Kd.int .i64) (w0 := w) (W := w2.drew) B (by rfl) (.tmp 50) (.tmp 57) 34 3 _ 8 rfl Try.underlying34 intInfo rfl (by decide) (by decide) (.slice A2' op.length c2') op (l.length : Int) [.int .i64 (l.length : Int)] (fun _ => True) (fun _ => False) rfl rfl rfl (fun _ h => h.elim) (fun _ _ => trivial) (Kd.R_drew k3.out) (below_drew B2.out) hw2 (by omega) ?_; intro v3 w3 r1 b1 gg at1; obtain ⟨A4, c4, rfl⟩ := Kd.R_slice r1; have R1 := Aside0.mk r1; have BB3 := Aside0.mk b1; have G1 := Aside0.mk (blk_grown (blk_drew k1.out) gg (Kd.R_ne (Kd.R_drew k3.out) (blk_drew k1.out) (by decide))); have G2 := Aside0.mk (Kd.S_over' (Kd.S_drew k2.out) (Kd.R_typed (Kd.R_drew k3.out)) (by decide) gg); have G4 := Aside0.mk (World.ownsMap.kept (World.ownsMap.drew k4.out) gg (map_offR (World.ownsMap.drew k4.out) (Kd.R_drew k3.out))); clear r1 b1 gg at1; have zz := blk_frozen G1.out 1; have yy := (blk_cell G1.out 1).trans rfl)
    all_goals
     go_wp2
     go_ret
     have hH := HH.out
     have P1 := blk_set G1.out 1 (.slice A4 (op ++ [(l.length : Int)]).length c4)
     have P2 := Kd.S_set G2.out G1.out (by decide) 1 (.slice A4 (op ++ [(l.length : Int)]).length c4)
     have P3 := Kd.R_set R1.out G1.out (by decide) 1 (.slice A4 (op ++ [(l.length : Int)]).length c4)
     have PB := BB3.out.setCell (p := ⟨g, 1, none⟩) hH.1 (.slice A4 (op ++ [(l.length : Int)]).length c4)
     have PM := World.ownsMap.setCell G4.out (a := ⟨g, 1, none⟩) hH.2.2.2 (.slice A4 (op ++ [(l.length : Int)]).length c4)
     have el : (op ++ [(l.length : Int)]).length = op.length + 1 := by simp
     rw [el] at P1 P2 PB P3 PM
     have ho := HO'.out
     rw [hf, if_neg (show ¬ (false = true) by decide)] at ho
     rw [← HL2.out, ho]
     exact ⟨rfl, ⟨_, _, m', n', _, by simpa using P1, Kd.S_mono (Kd.S_bound P2) (fun k hk => hk.2.2.1), P3, PM, HN2.out.1, k6.out, hH.1, hH.2.1, hH.2.2.1⟩, PB⟩
end Go.Proofs.Ytkoogebfdinbnaa.Q
namespace Go.Proofs
open Go.Shelf
def Try.lays169_ren : Go.Shelf.Ren := ⟨fun | 169 => 19 | n => n, fun | 70 => 47 | 9 => 9 | 0 => 0 | 72 => 50 | 37 => 48 | 127 => 69 | 3 => 3 | 5 => 5 | n => n, fun | n => n⟩
theorem Try.lays169 : Go.Proofs.Lays.n169 Try.prog Try.lays169_ren := {
  mixed := by kernel_rfl
  f169 := Try.func19.trans (congrArg some (by kernel_rfl))
  t0 := Try.underlying0
  a0 := Try.isAgg0
  z0 := Try.sizeOf0
  v0 := Try.zeroValue0
  t3 := Try.underlying3
  a3 := Try.isAgg3
  z3 := Try.sizeOf3
  v3 := Try.zeroValue3
  t9 := Try.underlying9
  a9 := Try.isAgg9
  z9 := Try.sizeOf9
  v9 := Try.zeroValue9
  t37 := Try.underlying48
  a37 := Try.isAgg48
  z37 := Try.sizeOf48
  v37 := Try.zeroValue48
  t70 := Try.underlying47
  a70 := Try.isAgg47
  z70 := Try.sizeOf47
  v70 := Try.zeroValue47
  t72 := Try.underlying50
  a72 := Try.isAgg50
  z72 := Try.sizeOf50
  v72 := Try.zeroValue50
  t127 := Try.underlying69
  a127 := Try.isAgg69
  z127 := Try.sizeOf69
  v127 := Try.zeroValue69 }
theorem Try.Builder_Extra_169 : Builder.Extra Try.prog Try.lays169_ren := {
  sizeBuilder := by kernel_rfl
  liesBuilder := by kernel_rfl
  t5 := Try.underlying5
  a5 := Try.isAgg5
  z5 := Try.sizeOf5
  v5 := Try.zeroValue5
  infoByte := by kernel_rfl
  cellsByte := by kernel_rfl
  sizeByte := by kernel_rfl
  neB5 := by decide }
open Go.RowKit in
theorem Try.Builder_String_any (B b : Nat) (l : List UInt8) (w : World) (h : Lib.IsBuilder 50 5 B b (Lib.byteCells l) w) (hBw : B ≤ w.heap.size) :
    Calls Try.prog 19 #[.pointer (some ⟨b, 0, none⟩)] w fun e w' => e = .returned (.string ⟨l.toArray⟩) ∧ Below B w w' := Any.Builder_String_any Try.lays169 Try.Builder_Extra_169 B b l w h hBw
def Try.lays137_ren : Go.Shelf.Ren := ⟨fun | 137 => 58 | 217 => 67 | 266 => 75 | n => n, fun | 9 => 9 | 5 => 5 | 3 => 3 | n => n, fun | n => n⟩
theorem Try.lays137 : Go.Proofs.Lays.n137 Try.prog Try.lays137_ren := {
  mixed := by kernel_rfl
  f137 := Try.func58.trans (congrArg some (by kernel_rfl))
  f217 := Try.func67.trans (congrArg some (by kernel_rfl))
  f266 := Try.func75.trans (congrArg some (by kernel_rfl))
  t3 := Try.underlying3
  a3 := Try.isAgg3
  z3 := Try.sizeOf3
  v3 := Try.zeroValue3
  t5 := Try.underlying5
  a5 := Try.isAgg5
  z5 := Try.sizeOf5
  v5 := Try.zeroValue5
  t9 := Try.underlying9
  a9 := Try.isAgg9
  z9 := Try.sizeOf9
  v9 := Try.zeroValue9 }
open Go.RowKit in
theorem Try.strings_IndexByte (s : ByteArray) (c : Int) (w : World) :
    Calls Try.prog 58 #[.string s, .int .u8 c] w fun e w' => e = .returned (.int .i64 (Lib.indexByte s.data.toList c.toNat.toUInt8)) ∧ w' = w := Any.strings_IndexByte Try.lays137 s c w
def Try.lays210_ren : Go.Shelf.Ren := ⟨fun | 210 => 60 | 206 => 69 | n => n, fun | 9 => 9 | 4 => 4 | 3 => 3 | n => n, fun | n => n⟩
def Try.lays103_ren : Go.Shelf.Ren := ⟨fun | 103 => 48 | 210 => 60 | 206 => 69 | n => n, fun | 9 => 9 | 4 => 4 | 24 => 79 | 3 => 3 | n => n, fun | n => n⟩
theorem Try.lays103 : Go.Proofs.Lays.n103 Try.prog Try.lays103_ren := {
  mixed := by kernel_rfl
  f103 := Try.func48.trans (congrArg some (by kernel_rfl))
  f206 := Try.func69.trans (congrArg some (by kernel_rfl))
  f210 := Try.func60.trans (congrArg some (by kernel_rfl))
  t3 := Try.underlying3
  a3 := Try.isAgg3
  z3 := Try.sizeOf3
  v3 := Try.zeroValue3
  t4 := Try.underlying4
  a4 := Try.isAgg4
  z4 := Try.sizeOf4
  v4 := Try.zeroValue4
  t9 := Try.underlying9
  a9 := Try.isAgg9
  z9 := Try.sizeOf9
  v9 := Try.zeroValue9
  t24 := Try.underlying79
  a24 := Try.isAgg79
  z24 := Try.sizeOf79
  v24 := Try.zeroValue79 }
open Go.RowKit in
theorem Try.strings_CutPrefix (s p : ByteArray) (w : World) :
    Calls Try.prog 48 #[.string s, .string p] w fun e w' => e = .returned (.tuple #[.string ⟨(Lib.trimPrefix s.data.toList p.data.toList).toArray⟩, .bool (Lib.hasPrefix s.data.toList p.data.toList)]) ∧ w' = w := Any.strings_CutPrefix Try.lays103 s p w
def Try.lays219_ren : Go.Shelf.Ren := ⟨fun | 219 => 71 | 217 => 67 | 225 => 78 | 224 => 79 | 267 => 80 | 266 => 75 | 314 => 84 | n => n, fun | 9 => 9 | 3 => 3 | 4 => 4 | 5 => 5 | 46 => 32 | 146 => 99 | 51 => 98 | n => n, fun | 1 => 0 | n => n⟩
def Try.lays144_ren : Go.Shelf.Ren := ⟨fun | 144 => 50 | 143 => 62 | 219 => 71 | 217 => 67 | 225 => 78 | 224 => 79 | 267 => 80 | 266 => 75 | 314 => 84 | n => n, fun | 9 => 9 | 4 => 4 | 3 => 3 | 5 => 5 | 46 => 32 | 146 => 99 | 51 => 98 | n => n, fun | 1 => 0 | n => n⟩
theorem Try.lays144 : Go.Proofs.Lays.n144 Try.prog Try.lays144_ren := {
  mixed := by kernel_rfl
  f143 := Try.func62.trans (congrArg some (by kernel_rfl))
  f144 := Try.func50.trans (congrArg some (by kernel_rfl))
  f217 := Try.func67.trans (congrArg some (by kernel_rfl))
  f219 := Try.func71.trans (congrArg some (by kernel_rfl))
  f224 := Try.func79.trans (congrArg some (by kernel_rfl))
  f225 := Try.func78.trans (congrArg some (by kernel_rfl))
  f266 := Try.func75.trans (congrArg some (by kernel_rfl))
  f267 := Try.func80.trans (congrArg some (by kernel_rfl))
  f314 := Try.func84.trans (congrArg some (by kernel_rfl))
  t3 := Try.underlying3
  a3 := Try.isAgg3
  z3 := Try.sizeOf3
  v3 := Try.zeroValue3
  t4 := Try.underlying4
  a4 := Try.isAgg4
  z4 := Try.sizeOf4
  v4 := Try.zeroValue4
  t5 := Try.underlying5
  a5 := Try.isAgg5
  z5 := Try.sizeOf5
  v5 := Try.zeroValue5
  t9 := Try.underlying9
  a9 := Try.isAgg9
  z9 := Try.sizeOf9
  v9 := Try.zeroValue9
  t46 := Try.underlying32
  a46 := Try.isAgg32
  z46 := Try.sizeOf32
  v46 := Try.zeroValue32
  t51 := Try.underlying98
  a51 := Try.isAgg98
  z51 := Try.sizeOf98
  v51 := Try.zeroValue98
  t146 := Try.underlying99
  a146 := Try.isAgg99
  z146 := Try.sizeOf99
  v146 := Try.zeroValue99
  g1 := by kernel_rfl }
open Go.RowKit Go.Lib in
theorem Try.strings_Contains (s sub : ByteArray) (m : Int) (w : World) (hs : s.size < 4294967281) (hm : w.cell? ⟨0, 0, none⟩ = some (.int .i64 m)) :
    Calls Try.prog 50 #[.string s, .string sub] w fun e w' => e = .returned (.bool (Lib.contains s.data.toList sub.data.toList)) ∧ w' = w := Any.strings_Contains Try.lays144 s sub m w hs hm
def Try.lays145_ren : Go.Shelf.Ren := ⟨fun | 145 => 61 | 220 => 70 | 219 => 71 | 217 => 67 | 225 => 78 | 224 => 79 | 267 => 80 | 266 => 75 | 314 => 84 | n => n, fun | 9 => 9 | 4 => 4 | 59 => 91 | 3 => 3 | 5 => 5 | 46 => 32 | 146 => 99 | 51 => 98 | n => n, fun | 1 => 0 | n => n⟩
theorem Try.lays145 : Go.Proofs.Lays.n145 Try.prog Try.lays145_ren := {
  mixed := by kernel_rfl
  f145 := Try.func61.trans (congrArg some (by kernel_rfl))
  f217 := Try.func67.trans (congrArg some (by kernel_rfl))
  f219 := Try.func71.trans (congrArg some (by kernel_rfl))
  f220 := Try.func70.trans (congrArg some (by kernel_rfl))
  f224 := Try.func79.trans (congrArg some (by kernel_rfl))
  f225 := Try.func78.trans (congrArg some (by kernel_rfl))
  f266 := Try.func75.trans (congrArg some (by kernel_rfl))
  f267 := Try.func80.trans (congrArg some (by kernel_rfl))
  f314 := Try.func84.trans (congrArg some (by kernel_rfl))
  t3 := Try.underlying3
  a3 := Try.isAgg3
  z3 := Try.sizeOf3
  v3 := Try.zeroValue3
  t4 := Try.underlying4
  a4 := Try.isAgg4
  z4 := Try.sizeOf4
  v4 := Try.zeroValue4
  t5 := Try.underlying5
  a5 := Try.isAgg5
  z5 := Try.sizeOf5
  v5 := Try.zeroValue5
  t9 := Try.underlying9
  a9 := Try.isAgg9
  z9 := Try.sizeOf9
  v9 := Try.zeroValue9
  t46 := Try.underlying32
  a46 := Try.isAgg32
  z46 := Try.sizeOf32
  v46 := Try.zeroValue32
  t51 := Try.underlying98
  a51 := Try.isAgg98
  z51 := Try.sizeOf98
  v51 := Try.zeroValue98
  t59 := Try.underlying91
  a59 := Try.isAgg91
  z59 := Try.sizeOf91
  v59 := Try.zeroValue91
  t146 := Try.underlying99
  a146 := Try.isAgg99
  z146 := Try.sizeOf99
  v146 := Try.zeroValue99
  g1 := by kernel_rfl }
open Go.RowKit Go.Lib in
theorem Try.strings_Cut (s sep : ByteArray) (m : Int) (w : World) (hs : s.size < 4294967281) (hm : w.cell? ⟨0, 0, none⟩ = some (.int .i64 m)) :
    Calls Try.prog 61 #[.string s, .string sep] w fun e w' => e = .returned (.tuple #[.string ⟨(Lib.cut s.data.toList sep.data.toList).1.toArray⟩, .string ⟨(Lib.cut s.data.toList sep.data.toList).2.1.toArray⟩, .bool (Lib.cut s.data.toList sep.data.toList).2.2]) ∧ ∃ n, w' = w.drewN n := Any.strings_Cut Try.lays145 s sep m w hs hm
def Try.lays99_ren : Go.Shelf.Ren := ⟨fun | 99 => 74 | 206 => 69 | n => n, fun | 9 => 9 | 4 => 4 | 3 => 3 | n => n, fun | n => n⟩
theorem Try.lays99 : Go.Proofs.Lays.n99 Try.prog Try.lays99_ren := {
  mixed := by kernel_rfl
  f99 := Try.func74.trans (congrArg some (by kernel_rfl))
  f206 := Try.func69.trans (congrArg some (by kernel_rfl))
  t3 := Try.underlying3
  a3 := Try.isAgg3
  z3 := Try.sizeOf3
  v3 := Try.zeroValue3
  t4 := Try.underlying4
  a4 := Try.isAgg4
  z4 := Try.sizeOf4
  v4 := Try.zeroValue4
  t9 := Try.underlying9
  a9 := Try.isAgg9
  z9 := Try.sizeOf9
  v9 := Try.zeroValue9 }
open Go.RowKit Go.Lib in
theorem Try.strings_HasPrefix (s p : ByteArray) (w : World) :
    Calls Try.prog 74 #[.string s, .string p] w fun e w' => e = .returned (.bool (Lib.hasPrefix s.data.toList p.data.toList)) ∧ w' = w := Any.strings_HasPrefix Try.lays99 s p w
def Try.lays100_ren : Go.Shelf.Ren := ⟨fun | 100 => 51 | 207 => 63 | n => n, fun | 9 => 9 | 4 => 4 | 3 => 3 | n => n, fun | n => n⟩
theorem Try.lays100 : Go.Proofs.Lays.n100 Try.prog Try.lays100_ren := {
  mixed := by kernel_rfl
  f100 := Try.func51.trans (congrArg some (by kernel_rfl))
  f207 := Try.func63.trans (congrArg some (by kernel_rfl))
  t3 := Try.underlying3
  a3 := Try.isAgg3
  z3 := Try.sizeOf3
  v3 := Try.zeroValue3
  t4 := Try.underlying4
  a4 := Try.isAgg4
  z4 := Try.sizeOf4
  v4 := Try.zeroValue4
  t9 := Try.underlying9
  a9 := Try.isAgg9
  z9 := Try.sizeOf9
  v9 := Try.zeroValue9 }
open Go.RowKit Go.Lib in
theorem Try.strings_HasSuffix (s p : ByteArray) (w : World) (hs : s.size ≤ 9223372036854775807) :
    Calls Try.prog 51 #[.string s, .string p] w fun e w' => e = .returned (.bool (Lib.hasSuffix s.data.toList p.data.toList)) ∧ w' = w := Any.strings_HasSuffix Try.lays100 s p w hs
end Go.Proofs
namespace Go.Proofs.Ytkoogebfdinbnaa.Q
open Go.RowKit Go.Proofs.YtkoogebfdinbnaaW.PrintWords Go.Proofs.YtkoogebfdinbnaaW.PrintLast Go.Proofs.YtkoogebfdinbnaaW.Own Go.Proofs.YtkoogebfdinbnaaW.PrintMore
set_option linter.unusedVariables false
set_option linter.unusedSimpArgs false
namespace Bld
open Go Go.RowKit
theorem sizeB : (Try.prog.info? 50).map (fun i => i.size) = some 2 := by kernel_rfl
theorem liesB : liesAt Try.prog Try.prog.depth 50 (2 / Try.prog.cellsOf 50) 0 50 1 = true := by kernel_rfl
theorem infoByte : (Try.prog.info? 5).map (fun i => (i.zero, i.size, i.bytes)) = some (some (.int .u8 0), 1, 1) := by kernel_rfl
set_option maxHeartbeats 1000000 in
set_option maxRecDepth 100000 in
theorem copyCheck_used (b : Nat) (w : World) (h0 : w.cell? ⟨b, 0, none⟩ = some (.pointer (some ⟨b, 0, none⟩))) :
    Calls Try.prog 28 #[.pointer (some ⟨b, 0, none⟩)] w fun e w' => e = .returned (.tuple #[]) ∧ w' = w := by
  obtain ⟨j, hj, _⟩ := Option.map_eq_some_iff.1 sizeB
  go_enter Try.func28, Try.ntmps28
  go_wp2
  rw [Lib.run_neq_ptr_same w _ Try.underlying47 hj]
  go_wp2
  go_end0
  exact ⟨rfl, rfl⟩
set_option maxHeartbeats 1000000 in
set_option maxRecDepth 100000 in
theorem copyCheck_fresh (b : Nat) (w : World) (h0 : w.cell? ⟨b, 0, none⟩ = some (.pointer none)) (hsh : w.shape? b = some (50, 2)) (hfz : w.frozen? ⟨b, 0, none⟩ = false) :
    Calls Try.prog 28 #[.pointer (some ⟨b, 0, none⟩)] w fun e w' => e = .returned (.tuple #[]) ∧ w' = w.setCell ⟨b, 0, none⟩ (.pointer (some ⟨b, 0, none⟩)) := by
  obtain ⟨j, hj, hjs⟩ := Option.map_eq_some_iff.1 sizeB
  go_enter Try.func28, Try.ntmps28
  go_wp2
  rw [Lib.run_to_unsafe w ⟨b, 0, none⟩ Try.underlying47 Try.underlying72 hj (by rw [hjs]; decide) hsh (Nat.zero_lt_succ 1)]
  simp only [Result.andThen]
  rw [Oper.upon_value]
  go_wp2
  rw [run_callFunc_extern Try.func43 (by kernel_rfl) (by kernel_rfl) (by kernel_rfl) (e := Extern.AbiNoEscape.same) (by kernel_rfl)]
  rw [Lib.run_noEscape]
  simp only [Result.andThen]
  rw [Oper.upon_value]
  go_wp2
  rw [Lib.run_from_unsafe w ⟨b, 0, none⟩ Try.underlying72 Try.underlying47 hj hsh liesB]
  simp only [Result.andThen]
  rw [Oper.upon_value]
  go_wp2
  go_end0
  exact ⟨rfl, rfl⟩
def Off (w w' : World) : Prop := ∀ (k : Nat) (o : Array Value) (t : Nat), t ≠ 50 → t ≠ 5 → w.heap[k]? = some (.cells o t (0, 0)) → w'.heap[k]? = some (.cells o t (0, 0))
theorem Off.refl (w : World) : Off w w := fun _ _ _ _ _ h => h
theorem Off.trans {w w1 w2 : World} (h : Off w w1) (h2 : Off w1 w2) : Off w w2 := fun k o t h3 h4 h5 => h2 k o t h3 h4 (h k o t h3 h4 h5)
theorem Off.set {w : World} {b : Nat} {cs : Array Value} (hb : w.heap[b]? = some (.cells cs 50 (0, 0))) (i : Nat) (u : Value) : Off w (w.setCell ⟨b, i, none⟩ u) := fun k o t h1 _ hk => blk_far hk (fun e => by
  have e : k = b := e
  subst e
  rw [hk] at hb
  injection hb with hb
  injection hb with _ hb
  exact h1 hb) u
theorem Off.row {w w1 : World} {B n : Nat} {v : Value} {xs : List Value} (ho : w.ownsRow B 5 1 v n xs) (hg : w.grownBy w1 v.ownBlock) : Off w w1 := fun k o t _ h2 hk => blk_grown hk hg (fun e => by
  obtain ⟨cells, hc⟩ := own_typed ho k e.symm
  rw [hk] at hc
  injection hc with hc
  injection hc with _ hc
  exact h2 hc)
theorem copyCheck (B b : Nat) (bs : List Value) (w : World) (h : Lib.IsBuilder 50 5 B b bs w) :
    Calls Try.prog 28 #[.pointer (some ⟨b, 0, none⟩)] w fun e w' => e = .returned (.tuple #[]) ∧ (Lib.BuilderAt 50 5 B b (.pointer (some ⟨b, 0, none⟩)) bs w' ∧ Below B w w' ∧ Off w w') := by
  rcases h with h | h
  · refine (copyCheck_fresh b w h.cell0 h.shape h.frozen0).mono ?_
    rintro e w' ⟨rfl, rfl⟩
    exact ⟨rfl, h.used _, (Below.refl B w).setCell (p := ⟨b, 0, none⟩) h.1 _, Off.set h.2.choose_spec.1 0 _⟩
  · refine (copyCheck_used b w h.cell0).mono ?_
    rintro e w' ⟨rfl, rfl⟩
    exact ⟨rfl, h, Below.refl B _, Off.refl _⟩
set_option maxHeartbeats 2000000 in
set_option maxRecDepth 100000 in
theorem WriteString (B b : Nat) (bs : List Value) (s : ByteArray) (w : World) (h : Lib.IsBuilder 50 5 B b bs w) (hlen : bs.length + s.size ≤ 140737488355328) (hBw : B ≤ w.heap.size) :
    Calls Try.prog 18 #[.pointer (some ⟨b, 0, none⟩), .string s] w fun e w' => e = .returned (.tuple #[.int .i64 s.size, .nilIface]) ∧ (Lib.BuilderAt 50 5 B b (.pointer (some ⟨b, 0, none⟩)) (bs ++ Lib.strCells s) w' ∧ Below B w w' ∧ Off w w') := by
  obtain ⟨i0, hi, hz0, hz1, hz2⟩ := info_parts infoByte
  go_enter Try.func18, Try.ntmps18
  go_wp2_with (go_at_call 28; refine (copyCheck B b bs _ h).mono ?_)
  rintro e w1 ⟨rfl, h1, hb1, ho1⟩
  obtain ⟨hB, v, hbk, hown, hne⟩ := h1
  have c0 : w1.cell? ⟨b, 0, none⟩ = some (.pointer (some ⟨b, 0, none⟩)) := by rw [Lib.cell_of_heap hbk]; rfl
  have c1 : w1.cell? ⟨b, 1, none⟩ = some v := by rw [Lib.cell_of_heap hbk]; rfl
  go_wp2_with (at_builtin; refine Lib.wpList_append_own_string _ rfl _ _ 48 9 rfl B 5 i0 Try.underlying48 Try.underlying9 hi hz0 hz1 hz2 _ _ _ rfl hown s rfl ?c3 ?c4 ?c5 ?_)
  case c3 => unfold maxLen; omega
  case c4 => omega
  case c5 => have := hb1.size; omega
  intro v' w2 hown' hgrow _
  have hlt : b < w1.heap.size := by
    rcases Nat.lt_or_ge b w1.heap.size with h' | h'
    · exact h'
    · simp [Array.getElem?_eq_none h'] at hbk
  have hb2 : w2.heap[b]? = some (.cells #[.pointer (some ⟨b, 0, none⟩), v] 50 (0, 0)) := by
    rw [hgrow.block b hlt (fun e => hne e.symm)]
    exact hbk
  have d0 : w2.cell? ⟨b, 0, none⟩ = some (.pointer (some ⟨b, 0, none⟩)) := by rw [Lib.cell_of_heap hb2]; rfl
  have d1 : w2.cell? ⟨b, 1, none⟩ = some v := by rw [Lib.cell_of_heap hb2]; rfl
  have f1 : w2.frozen? ⟨b, 1, none⟩ = false := Lib.frozen_of_heap hb2 1
  obtain ⟨ao, n', cap, rfl⟩ : ∃ ao n' cap, v' = .slice ao n' cap := by
    rcases hown'.2 with ⟨hv, _⟩ | ⟨g, cap, cur, hv, _⟩
    · exact ⟨_, _, _, hv⟩
    · exact ⟨_, _, _, hv⟩
  go_wp2
  go_ret2
  refine ⟨rfl, ?_, ?_, (ho1.trans (Off.row hown hgrow)).trans (Off.set hb2 1 _)⟩
  · exact Lib.BuilderAt.put (T := 50) (e := 5) hB hb2 (bs' := bs ++ Lib.strCells s) (by simpa [Lib.strCells_length] using hown') (by decide)
  · exact (hb1.grown hgrow (by have := hb1.size; omega) (fun k hk => (hown.lt k hk).1)).setCell (p := ⟨b, 1, none⟩) hB _
def Holds (B b : Nat) (s : ByteArray) (w : World) : Prop := Lib.IsBuilder 50 5 B b (Lib.byteCells s.data.toList) w ∧ B ≤ w.heap.size
theorem byteCells_app (a b : ByteArray) : Lib.byteCells a.data.toList ++ Lib.strCells b = Lib.byteCells (a ++ b).data.toList := by
  simp [Lib.byteCells, Lib.strCells]
theorem at_below {B b : Nat} {p : Value} {bs : List Value} {w w1 : World} (h : Lib.BuilderAt 50 5 B b p bs w) (hb : Below w.heap.size w w1) : Lib.BuilderAt 50 5 B b p bs w1 := by
  have hlt := h.lt
  obtain ⟨hB, v, hk, ho, hne⟩ := h
  exact ⟨hB, v, by rw [hb.block b hlt]; exact hk, own_move ho (fun k hk => hb.block k (own_lt ho k hk)), hne⟩
theorem Holds.below {B b : Nat} {s : ByteArray} {w w1 : World} (h : Holds B b s w) (hb : Below w.heap.size w w1) : Holds B b s w1 :=
  ⟨h.1.imp (fun h => at_below h hb) (fun h => at_below h hb), Nat.le_trans h.2 hb.size⟩
theorem Holds.write {B b : Nat} {s t : ByteArray} {w : World} (h : Holds B b s w) (hlen : s.size + t.size ≤ 140737488355328) :
    Calls Try.prog 18 #[.pointer (some ⟨b, 0, none⟩), .string t] w fun e w' => e = .returned (.tuple #[.int .i64 t.size, .nilIface]) ∧ Holds B b (s ++ t) w' ∧ Below B w w' := by
  refine (WriteString B b _ t w h.1 (by rw [Lib.byteCells_length, Array.length_toList]; exact hlen) h.2).mono ?_
  rintro e w' ⟨he, h1, hb, _⟩
  refine ⟨he, ⟨?_, Nat.le_trans h.2 hb.size⟩, hb⟩
  rw [← byteCells_app]
  exact .inr h1
theorem Holds.writeS {B b : Nat} {s t : ByteArray} {w : World} (h : Holds B b s w) (hlen : s.size + t.size ≤ 140737488355328) :
    Calls Try.prog 18 #[.pointer (some ⟨b, 0, none⟩), .string t] w fun e w' => e = .returned (.tuple #[.int .i64 t.size, .nilIface]) ∧ Holds B b (s ++ t) w' ∧ Below B w w' ∧ Off w w' := by
  refine (WriteString B b _ t w h.1 (by rw [Lib.byteCells_length, Array.length_toList]; exact hlen) h.2).mono ?_
  rintro e w' ⟨he, h1, hb, ho⟩
  refine ⟨he, ⟨?_, Nat.le_trans h.2 hb.size⟩, hb, ho⟩
  rw [← byteCells_app]
  exact .inr h1
theorem Holds.string {B b : Nat} {s : ByteArray} {w : World} (h : Holds B b s w) :
    Calls Try.prog 19 #[.pointer (some ⟨b, 0, none⟩)] w fun e w' => e = .returned (.string s) ∧ Below B w w' :=
  (Try.Builder_String_any B b s.data.toList w h.1 h.2).mono fun e w' hh => ⟨by rw [hh.1], hh.2⟩
theorem Holds.fresh (w : World) : Holds w.heap.size w.heap.size ⟨#[]⟩ (w.alloc (.cells #[.pointer none, .slice none 0 0] 50)) :=
  ⟨.inl ⟨Nat.le_refl _, .slice none 0 0, by show (w.heap.push _)[w.heap.size]? = _; simp, ⟨by simp [Lib.byteCells], .inl ⟨rfl, rfl⟩⟩, by simp [Value.ownBlock]⟩, by simp⟩
end Bld
end Go.Proofs.Ytkoogebfdinbnaa.Q
namespace Go.Proofs.Ytkoogebfdinbnaa.Q
open Go.RowKit Go.Proofs.YtkoogebfdinbnaaW.PrintWords Go.Proofs.YtkoogebfdinbnaaW.PrintLast Go.Proofs.YtkoogebfdinbnaaW.Own Go.Proofs.YtkoogebfdinbnaaW.PrintMore
attribute [local go_sem] max2_int min2_int max_two min_two max_three min_three max_four min_four   -- for this text's walks alone
set_option linter.unusedVariables false
set_option linter.unusedSimpArgs false
set_option maxHeartbeats 20000000
set_option maxRecDepth 100000
def El.gather (l : List S29) (ks : List Int) : ByteArray := ks.foldl (fun s k => if (rd_T29 l k).f1 = El.nul then s ++ (rd_T29 l k).f2 else s) El.nul
def El.room (l : List S29) (ks : List Int) : Nat := (ks.map fun k => (rd_T29 l k).f2.size).sum
theorem gather_snoc (l : List S29) (ks : List Int) (k : Int) : El.gather l (ks ++ [k]) = if (rd_T29 l k).f1 = El.nul then El.gather l ks ++ (rd_T29 l k).f2 else El.gather l ks := by
 unfold El.gather
 rw [List.foldl_append]
 rfl
theorem gather_size (l : List S29) (ks : List Int) : (El.gather l ks).size ≤ El.room l ks := by
 rw [← List.reverse_reverse ks]
 generalize ks.reverse = m
 induction m with
 | nil => exact Nat.zero_le _
 | cons k m ih =>
  rw [List.reverse_cons, gather_snoc]
  have e : El.room l (m.reverse ++ [k]) = El.room l m.reverse + (rd_T29 l k).f2.size := by simp [El.room]
  rw [e]
  split
  ·rw [ByteArray.size_append]; omega
  ·omega
theorem room_cons (l : List S29) (a b : List Int) (x : Int) : El.room l (a ++ x :: b) = El.room l a + ((rd_T29 l x).f2.size + El.room l b) := by simp [El.room]
theorem room_take (l : List S29) (ks : List Int) (i : Nat) (h : i < ks.length) : El.room l (ks.take i) + (rd_T29 l (ks[i]'h)).f2.size ≤ El.room l ks := by
 have e : ks = ks.take i ++ ks[i] :: ks.drop (i + 1) := by rw [List.getElem_cons_drop, List.take_append_drop]
 have e2 := room_cons l (ks.take i) (ks.drop (i + 1)) (ks[i]'h)
 rw [← e] at e2
 omega
def element_Inner.f (k : Nat) (l0 : List S29) (a1 : Int) : Option ByteArray := (element_Kids.f k l0 a1).bind fun ks => if (∀ x ∈ ks, 0 ≤ x ∧ x < (l0.length : Int)) ∧ El.room l0 ks ≤ 140737488355328 ∧ ks.length ≤ 1000000000 then some (El.gather l0 ks) else none
theorem element_Inner.mono : ∀ a0 a1 k, LeO (element_Inner.f k a0 a1) (element_Inner.f (k + 1) a0 a1) := by
 intro a0 a1 k r h
 unfold element_Inner.f at h ⊢
 obtain ⟨ks, h1, h2⟩ := Option.bind_eq_some_iff.1 h
 rw [element_Kids.mono a0 a1 k ks h1]
 exact h2
theorem rd_ints (ks : List Int) (i : Nat) (h : i < ks.length) : rd ks (i : Int) = ks[i] := by
 simp [rd, List.getD, h]
theorem off_row {w w1 : World} {B : Nat} {v : Value} {ks : List Int} (h : Kd.R (Kd.int .i64) 3 w B (fun _ => True) v ks) (ho : Bld.Off w w1) : Kd.R (Kd.int .i64) 3 w1 B (fun _ => True) v ks := by
 refine Kd.R_mono (Kd.R_move (Kd.R_bound h) (fun k hk => ?_)) (fun _ _ => trivial)
 obtain ⟨_, _, _, q, hq, cells, hc⟩ := hk
 have hq' : q = 3 := by simpa [Kd.int, Kd.scalar] using hq
 subst hq'
 rw [hc]
 exact ho k cells 3 (by decide) (by decide) hc
theorem element_Inner.calls (k : Nat) (A0 : Option Addr) (c0 : Nat) (l0 : List S29) (a1 : Int) (r : ByteArray) (w : World) (hr0 : Kd.C k29 w A0 l0.length l0) (hc0 : l0.length ≤ c0) (hG : Glob w) (h : element_Inner.f k l0 a1 = some r) :
 Calls Try.prog 12 #[.slice A0 l0.length c0, .int .i64 a1] w fun e w' => e = .returned (.string r) ∧ Below w.heap.size w w' := by
 unfold element_Inner.f at h
 obtain ⟨ks, hks, h⟩ := Option.bind_eq_some_iff.1 h
 split at h
 ·rename_i hcond
  obtain ⟨hrange, hroom, hkl⟩ := hcond
  obtain rfl := Option.some.inj h
  have HR0 := Aside0.mk hr0
  have HRNG := Lib.hid hrange
  have HRM := Aside0.mk hroom
  have HKL := Aside0.mk hkl
  have HK := Aside0.mk hks
  have HG := Aside0.mk hG
  have HC0 := Aside0.mk hc0
  clear hr0 hroom h hG hrange hkl hks hc0
  have hu := Try.underlying50
  have hun := Try.underlying29
  have HB0 := Aside0.mk ((Below.refl w.heap.size w).alloc (Nat.le_refl _) (.cells #[.pointer none, .slice none 0 0] 50))
  have HF := Aside0.mk (Bld.Holds.fresh w)
  have CK := Aside0.mk (element_Kids.calls k A0 c0 l0 a1 ks _ (Kd.C_below HR0.out HB0.out) HC0.out (HG.out.step HB0.out) HK.out)
  go_enter Try.func12, Try.ntmps12
  go_wp2_with (first | (go_at_call 11; (with_reducible refine (CK.out).mono ?_); rintro e w1 ⟨v, rfl, hr, hb⟩; obtain ⟨A2, c2, rfl⟩ := Kd.R_slice hr; have HH := Aside0.mk (HF.out.below hb); have HB1 := Aside0.mk (below_step HB0.out hb); have HI := Aside0.mk hr; have HW1 := Lib.hid hb.size; clear hr hb))
  have HI1 := Aside0.mk (Kd.R_lower HI.out (show w.heap.size ≤ _ from HB0.out.size))
  clear HI HB0 HF CK HW1
  go_loopg [12] ks.length (fun g v12 w' => ∃ i : Nat, i + g = ks.length ∧ v12 = .int .i64 i ∧ Aside0 (Bld.Holds w.heap.size w.heap.size (El.gather l0 (ks.take i)) w') ∧ Aside0 (Kd.R (Kd.int .i64) 3 w' w.heap.size (fun _ => True) (.slice A2 ks.length c2) ks) ∧ Aside0 (Below w.heap.size w w'))
  case atStart => exact ⟨0, by omega, rfl, ⟨by rw [List.take_zero]; exact HH.out⟩, HI1, HB1⟩
  clear HH HI1 HB1
  obtain ⟨i, hig, rfl, HH, HI, HB⟩ := hrel
  by_cases hi : i < ks.length
  rotate_left
  ·obtain rfl : i = ks.length := by omega
   have d1 : decide ((ks.length : Int) < (ks.length : Int)) = false := decide_eq_false (by omega)
   go_wp2_with (fail)
   refine HH.out.string.mono ?_
   rintro e w3 ⟨rfl, hb3⟩
   go_wp2
   go_ret
   exact ⟨by first | rfl | (rw [List.take_length]; rfl), HB.out.trans (hb3.mono (Nat.le_refl _))⟩
  obtain ⟨g, rfl⟩ : ∃ g, gk = g + 1 := ⟨gk - 1, by omega⟩
  have hkl := HKL.out
  have hrng := HRNG.out (ks[i]'hi) (List.getElem_mem hi)
  obtain ⟨ai, e_, hk0⟩ := Kd.at_int (Kd.R_reads' HI.out).2.2 (i : Int) (by omega) (by omega)
  cases e_
  rw [rd_ints ks i hi] at hk0
  have hsz := room_take l0 ks i hi
  have hgs := gather_size l0 (ks.take i)
  have hgt : El.gather l0 (ks.take (i + 1)) = if (rd_T29 l0 (ks[i]'hi)).f1 = El.nul then El.gather l0 (ks.take i) ++ (rd_T29 l0 (ks[i]'hi)).f2 else El.gather l0 (ks.take i) := by
   rw [List.take_succ_eq_append_getElem hi, gather_snoc]
  obtain ⟨x, hx⟩ : ∃ x, x = ks[i]'hi := ⟨_, rfl⟩
  rw [← hx] at hrng hk0 hsz hgt
  obtain ⟨ad, A3, c3, e_, q0, q1, q2, _⟩ := at_T29 (Kd.C_below HR0.out HB.out) x hrng.1 hrng.2
  cases e_
  obtain ⟨nd, hnd⟩ : ∃ nd, nd = rd_T29 l0 x := ⟨_, rfl⟩
  rw [← hnd] at q0 q1 q2 hsz hgt
  simp only [Int.toNat_natCast] at hk0
  have hroom := HRM.out
  have d1 : decide ((i : Int) < (ks.length : Int)) = true := decide_eq_true (by omega)
  have d1' : decide (i < ks.length) = true := decide_eq_true hi
  have p1 := eq_true (show (0 : Int) ≤ (i : Int) by omega)
  have p2 := eq_true (show (i : Int) < (ks.length : Int) by omega)
  have p3 := eq_true hi
  have r1 := eq_true hrng.1
  have r2 := eq_true hrng.2
  have ew : wrap64 ((i : Int) + 1) = ((i + 1 : Nat) : Int) := by unfold wrap64; omega
  have s1 := size_nul nd.f1
  have HQ := Aside0.mk (show (El.gather l0 (ks.take i)).size + nd.f2.size ≤ 140737488355328 by omega)
  by_cases hn : nd.f1 = El.nul
  rotate_left
  ·rw [decide_eq_false hn] at s1
   rw [if_neg hn] at hgt
   have HGT := Aside0.mk hgt
   clear hgt hn hnd hx hsz hgs hroom hrng
   go_wp2_with (fail)
   go_roundg g
   case measure => omega
   case rel => exact ⟨i + 1, by omega, by first | rfl | (rw [ew]) | go_num, ⟨by rw [HGT.out]; exact HH.out⟩, HI, HB⟩
  rw [decide_eq_true hn] at s1
  rw [if_pos hn] at hgt
  have HGT := Aside0.mk hgt
  clear hgt hn hnd hx hsz hgs hroom hrng
  go_wp2_with (first | (go_at_call 18; (with_reducible refine (HH.out.writeS HQ.out).mono ?_); rintro e w3 ⟨rfl, hh3, hb3, ho3⟩; have HH3 := Aside0.mk hh3; have HB3 := Aside0.mk (HB.out.trans hb3); have HI3 := Aside0.mk (off_row HI.out ho3); clear hh3 hb3 ho3))
  go_roundg g
  case measure => omega
  case rel => exact ⟨i + 1, by omega, by first | rfl | (rw [ew]) | go_num, ⟨by rw [HGT.out]; exact HH3.out⟩, HI3, HB3⟩
 ·exact absurd h (by simp)
theorem element_builder_end.no (B g N : Nat) (l : List El.Nd) (op : List Int) (t : El.Tok) (va : Value) (w : World) (h : BAt w B g N l op) (hop : op.length ≤ 100000) (hl : l.length ≤ 100000) (hneg : El.inner op < 0) :
 Calls Try.prog 30 #[.pointer (some ⟨g, 0, none⟩), .agg #[.int .i64 t.f0, .string t.f1, .string t.f2, va, .bool t.f4]] w fun e w' => e = .returned (.int .i64 6) ∧ Below w.heap.size w w' := by
 have HB0 := Aside0.mk (below_alloc (Below.refl w.heap.size w) (.cells #[.int .i64 t.f0, .string t.f1, .string t.f2, va, .bool t.f4] 40))
 have CI := Aside0.mk (fun W (hW : Below w.heap.size w W) => element_builder_inner.calls B g N l op W (h.below hW) hop)
 obtain ⟨p, hp⟩ : ∃ p, p = El.inner op := ⟨_, rfl⟩
 rw [← hp] at CI hneg
 have d1 : decide (p < 0) = true := decide_eq_true hneg
 clear h hp
 go_enter Try.func30, Try.ntmps30
 go_wp2_with (first | (go_at_call 46; (with_reducible refine (CI.out _ HB0.out).mono ?_); rintro e w1 ⟨rfl, ⟨nd1, rfl⟩⟩))
 go_quiet (fail)
 go_wp2
 go_ret
 exact ⟨rfl, pw_below_drewN (pw_below_drewN HB0.out _) _⟩
theorem element_builder_end.other (B g N : Nat) (l : List El.Nd) (op : List Int) (t : El.Tok) (va : Value) (w : World) (h : BAt w B g N l op) (hop : op.length ≤ 100000) (hl : l.length ≤ 100000) (h0 : 0 ≤ El.inner op) (h1 : El.inner op < (l.length : Int)) (hne : ¬ (rd_T29 l (El.inner op)).f1 = t.f1) :
 Calls Try.prog 30 #[.pointer (some ⟨g, 0, none⟩), .agg #[.int .i64 t.f0, .string t.f1, .string t.f2, va, .bool t.f4]] w fun e w' => e = .returned (.int .i64 6) ∧ Below w.heap.size w w' := by
 obtain ⟨W, hW⟩ : ∃ W, W = w.alloc (.cells #[.int .i64 t.f0, .string t.f1, .string t.f2, va, .bool t.f4] 40) := ⟨_, rfl⟩
 have hBW : Below w.heap.size w W := by rw [hW]; exact below_alloc (Below.refl _ _) _
 have y1 : W.cell? ⟨w.heap.size, 1, none⟩ = some (.string t.f1) := by rw [hW]; exact (blk_cell (heap_alloc_new w (.cells #[.int .i64 t.f0, .string t.f1, .string t.f2, va, .bool t.f4] 40)) 1).trans rfl
 have HB0 := Aside0.mk hBW
 have CI := Aside0.mk (fun W (hW : Below w.heap.size w W) => element_builder_inner.calls B g N l op W (h.below hW) hop)
 have hbt := h.below hBW
 obtain ⟨v1, v2, m, n, D, g1, g2, _⟩ := hbt
 obtain ⟨A1, c1, rfl⟩ := Kd.S_slice g2
 have x0 := (blk_cell g1 0).trans rfl
 obtain ⟨ad, A3, c3, e_, q0, q1, _⟩ := at_T29 (Kd.S_reads' g2).2.2 (El.inner op) h0 h1
 cases e_
 obtain ⟨p, hp⟩ : ∃ p, p = El.inner op := ⟨_, rfl⟩
 rw [← hp] at CI h0 h1 q0 q1 hne
 have d1 : decide (p < 0) = false := decide_eq_false (by omega)
 have p1 := eq_true h0
 have p2 := eq_true h1
 have s1 : ((rd_T29 l p).f1.toList == t.f1.toList) = false := by
  rw [Bool.eq_false_iff]; intro h; rw [beq_iff_eq, toList_data, toList_data] at h
  exact hne (ByteArray.ext (Array.toList_inj.1 h))
 have hu := Try.underlying59
 have ht := Try.underlying40
 have hu2 := Try.underlying29
 rw [hW] at x0 q0 q1 y1
 clear g1 g2 hp h hne
 go_enter Try.func30, Try.ntmps30
 rw [hW] at HB0
 clear hW hBW
 go_wp2_with (first | (go_at_call 46; (with_reducible refine (CI.out _ HB0.out).mono ?_); rintro e w1 ⟨rfl, ⟨nd1, rfl⟩⟩))
 go_quiet (fail)
 go_wp2
 go_ret
 exact ⟨rfl, pw_below_drewN (pw_below_drewN HB0.out _) _⟩
theorem element_builder_end.yes (B g N : Nat) (l : List El.Nd) (op : List Int) (t : El.Tok) (va : Value) (w : World) (h : BAt w B g N l op) (hop : op.length ≤ 100000) (hl : l.length ≤ 100000) (h0 : 0 ≤ El.inner op) (h1 : El.inner op < (l.length : Int)) (hne : (rd_T29 l (El.inner op)).f1 = t.f1) :
 Calls Try.prog 30 #[.pointer (some ⟨g, 0, none⟩), .agg #[.int .i64 t.f0, .string t.f1, .string t.f2, va, .bool t.f4]] w fun e w' => e = .returned (.int .i64 0) ∧ BAt w' B g w'.heap.size l op.dropLast ∧ Below B w w' := by
 have hop0 : op.length ≠ 0 := fun he => by
  rw [List.eq_nil_of_length_eq_zero he] at h0
  exact absurd h0 (by decide)
 obtain ⟨W, hW⟩ : ∃ W, W = w.alloc (.cells #[.int .i64 t.f0, .string t.f1, .string t.f2, va, .bool t.f4] 40) := ⟨_, rfl⟩
 have hBW : Below w.heap.size w W := by rw [hW]; exact below_alloc (Below.refl _ _) _
 have y1 : W.cell? ⟨w.heap.size, 1, none⟩ = some (.string t.f1) := by rw [hW]; exact (blk_cell (heap_alloc_new w (.cells #[.int .i64 t.f0, .string t.f1, .string t.f2, va, .bool t.f4] 40)) 1).trans rfl
 have HB0 := Aside0.mk hBW
 have HBB := Aside0.mk (hBW.mono (Nat.le_of_lt (Nat.lt_of_le_of_lt h.ge.1 h.ge.2.1)))
 have CI := Aside0.mk (fun W (hW : Below w.heap.size w W) => element_builder_inner.calls B g N l op W (h.below hW) hop)
 have hbt := h.below hBW
 obtain ⟨v1, v2, m, n, D, g1, g2, g3, g4, g5, g6, g7, g8, g9⟩ := hbt
 obtain ⟨A1, c1, rfl⟩ := Kd.S_slice g2
 obtain ⟨g2_, c2, rfl, _⟩ := Kd.R_form g3 (by omega)
 have hc2 := (Kd.R_reads' g3).2.1
 have G1 := Aside0.mk g1
 have G2 := Aside0.mk g2
 have G3 := Aside0.mk g3
 have G4 := Aside0.mk g4
 have HH := Lib.hid (show n ≤ l.length ∧ El.MapIs D l ∧ B ≤ g ∧ B ≤ m ∧ 0 < B from ⟨g5, g6, g7, g8, g9⟩)
 have x0 := (blk_cell g1 0).trans rfl
 have x1 := (blk_cell g1 1).trans rfl
 have f1 := blk_frozen g1 1
 obtain ⟨ad, A3, c3, e_, q0, q1, _⟩ := at_T29 (Kd.S_reads' g2).2.2 (El.inner op) h0 h1
 cases e_
 obtain ⟨p, hp⟩ : ∃ p, p = El.inner op := ⟨_, rfl⟩
 rw [← hp] at CI h0 h1 q0 q1 hne
 have d1 : decide (p < 0) = false := decide_eq_false (by omega)
 have p1 := eq_true h0
 have p2 := eq_true h1
 have s1 : ((rd_T29 l p).f1.toList == t.f1.toList) = true := by rw [hne, beq_self_eq_true]
 have ew : wrap64 ((op.length : Int) - 1) = (op.length : Int) - 1 := by unfold wrap64; omega
 have ew' : IntKind.i64.wrap ((op.length : Int) - 1) = (op.length : Int) - 1 := by rw [i64_w]; exact ew
 have r1 := eq_true (show (0 : Int) ≤ (op.length : Int) - 1 by omega)
 have r2 := eq_true (show (op.length : Int) - 1 ≤ (c2 : Int) by omega)
 have r3 := eq_true (show op.length - 1 ≤ c2 by omega)
 have r4 : ((op.length : Int) - 1).toNat = op.length - 1 := by omega
 have r5 := eq_true (show (1 : Int) ≤ (op.length : Int) by omega)
 have r6 := eq_true (show 1 ≤ op.length by omega)
 have hc0 := eq_false (show ¬ (c2 = 0) by omega)
 have hc0' : (c2 == 0) = false := beq_eq_false_iff_ne.mpr (by omega)
 have hu := Try.underlying59
 have ht := Try.underlying40
 have hu2 := Try.underlying29
 have HW := Lib.hid hW
 rw [hW] at x0 x1 q0 q1 y1 f1
 clear g1 g2 g3 g4 g5 g6 g7 g8 g9 hp h hne
 go_enter Try.func30, Try.ntmps30
 rw [hW] at HB0
 clear hW hBW
 go_wp2_with (first | (go_at_call 46; (with_reducible refine (CI.out _ HB0.out).mono ?_); rintro e w1 ⟨rfl, ⟨nd1, rfl⟩⟩))
 go_quiet (fail)
 go_wp2
 obtain ⟨W2, hW2⟩ : ∃ W2, W2 = ((w.alloc (.cells #[.int .i64 t.f0, .string t.f1, .string t.f2, va, .bool t.f4] 40)).drewN nd1).drewN nq := ⟨_, rfl⟩
 rw [← hW2]
 rw [← HW.out] at hW2
 have G1 := Aside0.mk (show W2.heap[g]? = some (.cells #[.slice (some ad) l.length c1, .slice (some ⟨g2_, 0, none⟩) op.length c2, .map (some m)] 59 (0, 0)) from by rw [hW2]; exact G1.out)
 have G2 := Aside0.mk (show Kd.S k29 29 W2 B (fun k => k < N) (.slice (some ad) l.length c1) l from by rw [hW2]; exact Kd.S_drewN (Kd.S_drewN G2.out _) _)
 have G3 := Aside0.mk (show Kd.R (Kd.int .i64) 3 W2 B (fun _ => True) (.slice (some ⟨g2_, 0, none⟩) op.length c2) op from by rw [hW2]; exact Kd.R_drewN (Kd.R_drewN G3.out _) _)
 have G4 := Aside0.mk (show W2.ownsMap Try.prog 3 (plainElem (H := Unit) Try.prog 3) m n D from by rw [hW2]; exact map_at G4.out rfl)
 have HBB := Aside0.mk (show Below B w W2 from by rw [hW2]; exact pw_below_drewN (pw_below_drewN HBB.out _) _)
 clear hW2 x0 x1 y1 q0 q1 f1
 have x1 := (blk_cell G1.out 1).trans rfl
 have f1 := blk_frozen G1.out 1
 go_still_tail 14, (by kernel_rfl)
 go_wp2
 go_ret
 have P1 := blk_set G1.out 1 (.slice (some ⟨g2_, 0, none⟩) (op.length - 1) c2)
 have P2 := Kd.S_set G2.out G1.out (by decide) 1 (.slice (some ⟨g2_, 0, none⟩) (op.length - 1) c2)
 have P3 := Kd.R_set (Kd.R_take (m := op.length - 1) G3.out (by omega)) G1.out (by decide) 1 (.slice (some ⟨g2_, 0, none⟩) (op.length - 1) c2)
 have PB := HBB.out.setCell (p := ⟨g, 1, none⟩) HH.out.2.2.1 (.slice (some ⟨g2_, 0, none⟩) (op.length - 1) c2)
 have PM := World.ownsMap.setCell G4.out (a := ⟨g, 1, none⟩) (map_ne G4.out G1.out) (.slice (some ⟨g2_, 0, none⟩) (op.length - 1) c2)
 have RB : BAt (W2.setCell ⟨g, 1, none⟩ (.slice (some ⟨g2_, 0, none⟩) (op.length - 1) c2)) B g (W2.setCell ⟨g, 1, none⟩ (.slice (some ⟨g2_, 0, none⟩) (op.length - 1) c2)).heap.size l op.dropLast :=
  ⟨.slice (some ad) l.length c1, .slice (some ⟨g2_, 0, none⟩) (op.length - 1) c2, m, n, D, by simpa using P1, Kd.S_mono (Kd.S_bound P2) (fun k hk => hk.2.2.1), by rw [List.dropLast_eq_take]; exact P3, PM, HH.out.1, HH.out.2.1, HH.out.2.2⟩
 exact ⟨rfl, RB.below (below_drew (Below.refl _ _)), below_drew PB⟩
def chars_Space.f (a0 : Int) : Option (Bool) := if a0 = 9 then (some true) else (if a0 = 10 then (some true) else (if a0 = 13 then (some true) else (some (a0 == 32))))
theorem chars_Space.calls (a0 : Int) (r : Bool) (w : World) (hG : Glob w) (h : chars_Space.f a0 = some r) :
 Calls Try.prog 33 #[.int .u8 a0] w fun e w' => e = .returned (.bool r) ∧ Drawn0 w w' := by
 have HG := Aside0.mk hG
 clear hG
 have H : (if a0 = 9 then (some true) else (if a0 = 10 then (some true) else (if a0 = 13 then (some true) else (some (a0 == 32))))) = some r := h
 clear h
 by_cases c2 : a0 = 9
 ·rw [if_pos c2] at H
  obtain ⟨c2b0, c2b1⟩ := eqT c2
  clear c2
  obtain rfl := Option.some.inj H
  go_enter Try.func33, Try.ntmps33
  go_wp2
  go_ret
  exact ⟨by first | rfl | (simp; done) | (simp [*]; done), by repeat (first | exact Drawn0.refl _ | apply Drawn0.step)⟩
 rw [if_neg c2] at H
 obtain ⟨c2b0, c2b1⟩ := eqF c2
 by_cases c3 : a0 = 10
 ·rw [if_pos c3] at H
  obtain ⟨c3b0, c3b1⟩ := eqT c3
  clear c3
  obtain rfl := Option.some.inj H
  go_enter Try.func33, Try.ntmps33
  go_wp2
  go_ret
  exact ⟨by first | rfl | (simp; done) | (simp [*]; done), by repeat (first | exact Drawn0.refl _ | apply Drawn0.step)⟩
 rw [if_neg c3] at H
 obtain ⟨c3b0, c3b1⟩ := eqF c3
 by_cases c4 : a0 = 13
 rotate_left
 ·rw [if_neg c4] at H
  obtain ⟨c4b0, c4b1⟩ := eqF c4
  obtain rfl := Option.some.inj H
  go_enter Try.func33, Try.ntmps33
  go_wp2
  go_ret
  exact ⟨by first | rfl | (simp; done) | (simp [*]; done), by repeat (first | exact Drawn0.refl _ | apply Drawn0.step)⟩
 rw [if_pos c4] at H
 obtain ⟨c4b0, c4b1⟩ := eqT c4
 clear c4
 obtain rfl := Option.some.inj H
 go_enter Try.func33, Try.ntmps33
 go_wp2
 go_ret
 exact ⟨by first | rfl | (simp; done) | (simp [*]; done), by repeat (first | exact Drawn0.refl _ | apply Drawn0.step)⟩
end Go.Proofs.Ytkoogebfdinbnaa.Q
