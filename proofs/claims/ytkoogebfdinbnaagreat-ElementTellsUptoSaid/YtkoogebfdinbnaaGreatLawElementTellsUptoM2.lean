/- Texts put together: what functions of the program compute, and plain words about them. -/
import Derived.Test.YtkoogebfdinbnaaGreatLawElementTellsUptoM1
import Derived.Test.YtkoogebfdinbnaaGreatProg
import Derived.Lib.IndexMore
import Derived.Lib.Strings
import Derived.Below
import Derived.Deep.Draws
import Derived.Deep.AppendLies
import Derived.Maps.AppendAt
import Derived.OwnWalk
import Derived.Laws.BytesArg
import Derived.Laws.MakeOwn
import Derived.Laws.OwnMore
import Derived.Deep.OwnRows
import Derived.Tactics
import Derived.Lib.ConvBytes
import Derived.Laws.Slices
import Derived.WalkKit
import Derived.KernelRfl
import Derived.RowKit3
import Derived.Deep.LoopGhost
import Derived.Deep.QuietTactic
import Derived.BigQuiet
import Derived.WideLaws
import Derived.Deep.DeepCutAuto
import Derived.Deep.CutBlock
import Derived.Deep.RegionHeld3
import Derived.Laws.Rows
import Derived.Lib.AppendStr
import Derived.ArgAppend
import Derived.Laws.IdiomCopy
import Derived.OrdersHeld
import Derived.Laws.BitsLemmas
import Derived.RowKit
import Derived.Maps.OwnSet
import Derived.Deep.RegionLaw
import Derived.Lib.Hide
import Derived.StillTailTactics
import Derived.Outline
import Derived.Shelf.Strings.Builder1
import Derived.Shelf.Small.Strs
import Derived.Shelf.Small.Wraps
import Derived.Shelf.Strings.BuilderF
import Derived.Shelf.Strings.BuilderK
import Derived.Shelf.Strings.Search1
import Derived.Shelf.Strings.Search2
import Derived.Shelf.Strings.Search3
import Derived.Shelf.Strings.Cut
import Derived.Shelf.LaysM
import Derived.Shelf.Strings.Shaped
import Derived.Shelf.Strings.Prefix
import Derived.Lib.Builder
import Derived.Lib.UnsafeStr
import Derived.Lib.Walk
import Derived.Laws.Externs
import Derived.Laws.Runes
namespace Go.Proofs.YtkoogebfdinbnaaGreat.Q
open Go.RowKit Go.Proofs.YtkoogebfdinbnaaGreatW.PrintWords Go.Proofs.YtkoogebfdinbnaaGreatW.PrintLast Go.Proofs.YtkoogebfdinbnaaGreatW.Own Go.Proofs.YtkoogebfdinbnaaGreatW.PrintMore
theorem r2a0_ {p_ : Prop} (h_ : p_ := by repeat (first | exact aS_.refl _ | apply aS_.step)) : p_ := h_
attribute [local go_sem] d6_ d8_ max_two min_two dS_ dR_ d4_ d9_   -- for this text's walks alone
set_option linter.unusedVariables false
set_option linter.unusedSimpArgs false
set_option maxHeartbeats 20000000
set_option maxRecDepth 100000
def cU_.f (a0 : Int) (a1 : Int) : Option (Bool) := some (a0 == a1)
theorem cU_.calls (a0 : Int) (a1 : Int) (r : Bool) (w : World) (hG : Glob w) (h : cU_.f a0 a1 = some r) :
 Calls Tryz.prog 22 #[.int .i64 a0, .int .i64 a1] w fun e w' => e = .returned (.bool r) ∧ aS_ w w' := by
 have HG := aA_.mk hG
 clear hG
 have H : (some (a0 == a1)) = some r := h
 clear h
 obtain rfl := Option.some.inj H
 go_enter Tryz.func22, Tryz.ntmps22
 go_wp2
 go_ret
 exact ⟨by first | rfl | (simp; done) | (simp [*]; done), r2a0_⟩
def a5_.l0 : Nat → List Int → List Int → Int → Option (Bool)
 | 0, _, _, _ => none
 | k + 1, x0, x1, x7 => if x7 < (x0.length : Int) then (if 0 ≤ x7 then (if x7 < (x1.length : Int) then ((cU_.f (rd x0 x7) (rd x1 x7)).bind fun t315 => (if t315 = true then (a5_.l0 k x0 x1 (wrap64 (x7 + 1))) else (some false))) else (none)) else (none)) else (some true)
def a5_.f (k : Nat) (l0 : List Int) (l1 : List Int)  : Option (Bool) := if (l0.length : Int) = (l1.length : Int) then (a5_.l0 k l0 l1 0) else (some false)
theorem a5_.mono_l : ∀ k, (∀ y0 y1 y2, LeO (a5_.l0 k y0 y1 y2) (a5_.l0 (k + 1) y0 y1 y2))
 | 0 => fun _ _ _ r h => by simp [a5_.l0] at h
 | k + 1 => by
  have ih0 := a5_.mono_l k
  ·intro y0 y1 y2
   unfold a5_.l0
   exact mo
theorem a5_.mono : ∀ a0 a1 k, LeO (a5_.f k a0 a1) (a5_.f (k + 1) a0 a1) := by
 intro a0 a1 k
 have ih0 := a5_.mono_l k
 unfold a5_.f
 exact mo
def a5_.T6 : Bool × List (List Nat × List Nat) := (true, [([], []), ([], []), ([], []), ([1, 2], [1, 2]), ([3], [3]), ([], []), ([], []), ([5, 6], [5, 6]), ([7], [7]), ([0, 4, 8], [0, 4, 8]), ([9], [9])])
def a5_.B6 : List Nat := [0, 0, 0, 6, 14, 0, 0, 96, 224, 511, 1023]
theorem a5_.tab6 : rtab .any (opsOf Tryz.f21 6) = a5_.T6 := by kernel_rfl
theorem a5_.bits6 : waitsOk a5_.T6.2 a5_.B6 = true := by kernel_rfl
theorem a5_.calls (k : Nat) (A0 : Option Addr) (c0 : Nat) (l0 : List Int) (A1 : Option Addr) (c1 : Nat) (l1 : List Int)  (r : Bool) (w : World) (hr0 : Kd.C (Kd.int .i64) w A0 l0.length l0) (hc0 : l0.length ≤ c0) (hr1 : Kd.C (Kd.int .i64) w A1 l1.length l1) (hc1 : l1.length ≤ c1) (hG : Glob w) (h : a5_.f k l0 l1 = some r) :
 Calls Tryz.prog 21 #[.slice A0 l0.length c0, .slice A1 l1.length c1, .func (.func 22) #[] #[]] w fun e w' => e = .returned (.bool r) ∧ Below w.heap.size w w' := by
 have HG := aA_.mk hG
 clear hG
 have HR0 := aA_.mk hr0
 have HC0 := aA_.mk hc0
 clear hr0 hc0
 have HR1 := aA_.mk hr1
 have HC1 := aA_.mk hc1
 clear hr1 hc1
 have HB := aA_.mk (Below.refl w.heap.size w)
 have H : (if (l0.length : Int) = (l1.length : Int) then (a5_.l0 k l0 l1 0) else (some false)) = some r := h
 clear h
 by_cases c4 : (l0.length : Int) = (l1.length : Int)
 rotate_left
 ·rw [if_neg c4] at H
  obtain ⟨c4b0, c4b1⟩ := eqF c4
  have c4b2 : (l0.length == l1.length) = false := by first | simpa using c4 | (simp at c4 ⊢; omega)
  obtain rfl := Option.some.inj H
  go_enter Tryz.func21, Tryz.ntmps21
  go_wp2
  go_ret
  exact ⟨eA, bE⟩
 rw [if_pos c4] at H
 obtain ⟨c4b0, c4b1⟩ := eqT c4
 have c4b2 : (l0.length == l1.length) = true := by first | simpa using c4 | (simp at c4 ⊢; omega)
 clear c4
 have H' := aA_.mk H
 clear H
 go_enter Tryz.func21, Tryz.ntmps21
 go_wp2
 go_loopg [7] k (fun kq v7 w' => ∃ (x7_1 : Int), v7 = .int .i64 x7_1 ∧ aA_ (a5_.l0 kq l0 l1 x7_1 = some r) ∧ aA_ (kq ≤ k) ∧ aA_ (Below w.heap.size w w'))
 case atStart => exact ⟨(0), cA, H', ⟨Nat.le_refl _⟩, ⟨bE⟩⟩
 clear H'
 try clear c1
 try clear c2
 try clear p2
 try clear c4
 try clear c4b0
 try clear c4b1
 try clear c4b2
 obtain ⟨x7_1, rfl, HA, HK1, HB⟩ := hrel
 cases gk with
 | zero => exact absurd HA.out (by simp [a5_.l0])
 | succ k1 =>
  have H := HA.out
  clear HA
  simp only [a5_.l0] at H
  by_cases c5 : x7_1 < (l0.length : Int)
  rotate_left
  ·rw [if_neg c5] at H
   have c5b0 := dF c5
   clear c5
   obtain rfl := Option.some.inj H
   go_wp2
   go_ret
   exact ⟨eA, bE⟩
  rw [if_pos c5] at H
  have c5b0 := dT c5
  clear c5
  obtain ⟨c6, H⟩ := gp H
  have c6b0 := dT c6
  clear c6
  obtain ⟨c7, H⟩ := gp H
  have c7b0 := dT c7
  clear c7
  replace H := bi H
  obtain ⟨t315, A80, H⟩ := H
  try dsimp only at H
  have A8 := aA_.mk A80
  clear A80
  by_cases c9 : t315 = true
  rotate_left
  ·replace c9 := Bool.eq_false_iff.mpr c9
   subst c9
   replace H : (some false) = some r := by rw [if_neg nF] at H; exact H
   obtain rfl := Option.some.inj H
   try go_wp2
   replace HB := aA_.mk (aI_ HB.out)
   have p313 : 0 ≤ (x7_1 : Int) := dA
   have q313 : x7_1 < (l0.length : Int) := dA
   obtain ⟨ad313, e313, hx313_0⟩ := Kd.at_int HR0.out x7_1 p313 q313
   have hw313_0 := hx313_0
   cases e313
   replace hx313_0 := (HB.out.cell (World.block_lt_of_cell? w _ hx313_0)).trans hx313_0
   replace p313 := eq_true p313
   replace q313 := eq_true q313
   have p314 : 0 ≤ (x7_1 : Int) := dA
   have q314 : x7_1 < (l1.length : Int) := dA
   obtain ⟨ad314, e314, hx314_0⟩ := Kd.at_int HR1.out x7_1 p314 q314
   have hw314_0 := hx314_0
   cases e314
   replace hx314_0 := (HB.out.cell (World.block_lt_of_cell? w _ hx314_0)).trans hx314_0
   replace p314 := eq_true p314
   replace q314 := eq_true q314
   refine start_ (n := 11) (S := fun w' => w'.cell? (ad313.add (x7_1).toNat) = some (.int .i64 (rd l0 x7_1)) ∧ w'.cell? (ad314.add (x7_1).toNat) = some (.int .i64 (rd l1 x7_1))) (ds := []) #[false, false, false, false, false, false, false, false, false, false, false] (by kernel_rfl) rfl rfl ⟨((HB.out.cell (World.block_lt_of_cell? w _ hw313_0)).trans hw313_0), ((HB.out.cell (World.block_lt_of_cell? w _ hw314_0)).trans hw314_0)⟩ (fun hHeld => ?_); refine cZ_ a5_.tab6 a5_.bits6 (fun HT_ HW_ => ?_)
   generalize wr.drew = w11 at HB hx313_0 hx314_0 hHeld ⊢
   refine pz 0 (some 19) HT_ ?_
   refine pz 1 (some 20) HT_ ?_
   refine pz 2 (some 21) HT_ ?_
   refine pz 3 (some 22) HT_ ?_
   refine pz 5 (some 24) HT_ ?_
   refine pz 6 (some 25) HT_ ?_
   refine pz 7 (some 26) HT_ ?_
   refine tm 4 (some 23) HT_ HW_ hHeld ?_
   refine tm 8 (some 27) HT_ HW_ hHeld ?_
   refine on 9 (some 28) HT_ (fun K hK => ?_)
   first | (refine goes_ Tryz.func22 (by kernel_rfl) rfl #[.int .i64 (rd l0 x7_1), .int .i64 (rd l1 x7_1)] (by rfl) rfl rfl mA ?_) | (refine goesV_ Tryz.func22 (by kernel_rfl) rfl #[.int .i64 (rd l0 x7_1), .int .i64 (rd l1 x7_1)] (by rfl) rfl rfl rfl mA ?_)
   with_reducible refine (cU_.calls (rd l0 x7_1) (rd l1 x7_1) false _ (gS HG) A8.out).mono ?_
   rintro e w' ⟨rfl, ⟨nd, rfl⟩⟩
   refine ⟨_, rfl, ?_⟩
   refine hK.out _ _ ⟨((HB.out.cell (World.block_lt_of_cell? w _ hw313_0)).trans hw313_0), ((HB.out.cell (World.block_lt_of_cell? w _ hw314_0)).trans hw314_0)⟩ (fun hHeld => ?_)
   clear hK K
   refine nz (some 28) ?_
   refine pz 10 (some 29) HT_ ?_
   refine done_ (dO_ HT_.out (by kernel_rfl)) ?_
   try go_wp2
   go_ret
   exact ⟨eA, bE⟩
  subst c9
  replace H : (a5_.l0 k1 l0 l1 (wrap64 (x7_1 + 1))) = some r := by rw [if_pos rfl] at H; exact H
  have H' := aA_.mk H
  clear H
  try go_wp2
  replace HB := aA_.mk (aI_ HB.out)
  have p313 : 0 ≤ (x7_1 : Int) := dA
  have q313 : x7_1 < (l0.length : Int) := dA
  obtain ⟨ad313, e313, hx313_0⟩ := Kd.at_int HR0.out x7_1 p313 q313
  have hw313_0 := hx313_0
  cases e313
  replace hx313_0 := (HB.out.cell (World.block_lt_of_cell? w _ hx313_0)).trans hx313_0
  replace p313 := eq_true p313
  replace q313 := eq_true q313
  have p314 : 0 ≤ (x7_1 : Int) := dA
  have q314 : x7_1 < (l1.length : Int) := dA
  obtain ⟨ad314, e314, hx314_0⟩ := Kd.at_int HR1.out x7_1 p314 q314
  have hw314_0 := hx314_0
  cases e314
  replace hx314_0 := (HB.out.cell (World.block_lt_of_cell? w _ hx314_0)).trans hx314_0
  replace p314 := eq_true p314
  replace q314 := eq_true q314
  refine start_ (n := 11) (S := fun w' => w'.cell? (ad313.add (x7_1).toNat) = some (.int .i64 (rd l0 x7_1)) ∧ w'.cell? (ad314.add (x7_1).toNat) = some (.int .i64 (rd l1 x7_1))) (ds := []) #[false, false, false, false, false, false, false, false, false, false, false] (by kernel_rfl) rfl rfl ⟨((HB.out.cell (World.block_lt_of_cell? w _ hw313_0)).trans hw313_0), ((HB.out.cell (World.block_lt_of_cell? w _ hw314_0)).trans hw314_0)⟩ (fun hHeld => ?_); refine cZ_ a5_.tab6 a5_.bits6 (fun HT_ HW_ => ?_)
  generalize wr.drew = w10 at HB hx313_0 hx314_0 hHeld ⊢
  refine pz 0 (some 19) HT_ ?_
  refine pz 1 (some 20) HT_ ?_
  refine pz 2 (some 21) HT_ ?_
  refine pz 3 (some 22) HT_ ?_
  refine pz 5 (some 24) HT_ ?_
  refine pz 6 (some 25) HT_ ?_
  refine pz 7 (some 26) HT_ ?_
  refine tm 4 (some 23) HT_ HW_ hHeld ?_
  refine tm 8 (some 27) HT_ HW_ hHeld ?_
  refine on 9 (some 28) HT_ (fun K hK => ?_)
  first | (refine goes_ Tryz.func22 (by kernel_rfl) rfl #[.int .i64 (rd l0 x7_1), .int .i64 (rd l1 x7_1)] (by rfl) rfl rfl mA ?_) | (refine goesV_ Tryz.func22 (by kernel_rfl) rfl #[.int .i64 (rd l0 x7_1), .int .i64 (rd l1 x7_1)] (by rfl) rfl rfl rfl mA ?_)
  with_reducible refine (cU_.calls (rd l0 x7_1) (rd l1 x7_1) true _ (gS HG) A8.out).mono ?_
  rintro e w' ⟨rfl, ⟨nd, rfl⟩⟩
  refine ⟨_, rfl, ?_⟩
  refine hK.out _ _ ⟨((HB.out.cell (World.block_lt_of_cell? w _ hw313_0)).trans hw313_0), ((HB.out.cell (World.block_lt_of_cell? w _ hw314_0)).trans hw314_0)⟩ (fun hHeld => ?_)
  clear hK K
  refine nz (some 28) ?_
  refine pz 10 (some 29) HT_ ?_
  refine done_ (dO_ HT_.out (by kernel_rfl)) ?_
  try go_wp2
  go_roundg k1
  case measure => have := HK1.out; omega
  case rel => exact ⟨(wrap64 (x7_1 + 1)), cA, H', ⟨by have := HK1.out; omega⟩, ⟨bE⟩⟩
def bW_.f (k : Nat) (l0 : List Int) (l1 : List Int) : Option (Bool) := (a5_.f k l0 l1).bind fun t316 => (some t316)
theorem bW_.mono : ∀ a0 a1 k, LeO (bW_.f k a0 a1) (bW_.f (k + 1) a0 a1) := by
 intro a0 a1 k
 unfold bW_.f
 have m0 := @a5_.mono
 exact mo
theorem bW_.calls (k : Nat) (A0 : Option Addr) (c0 : Nat) (l0 : List Int) (A1 : Option Addr) (c1 : Nat) (l1 : List Int) (r : Bool) (w : World) (hr0 : Kd.C (Kd.int .i64) w A0 l0.length l0) (hc0 : l0.length ≤ c0) (hr1 : Kd.C (Kd.int .i64) w A1 l1.length l1) (hc1 : l1.length ≤ c1) (hG : Glob w) (h : bW_.f k l0 l1 = some r) :
 Calls Tryz.prog 11 #[.slice A0 l0.length c0, .slice A1 l1.length c1] w fun e w' => e = .returned (.bool r) ∧ Below w.heap.size w w' := by
 have HG := aA_.mk hG
 clear hG
 have HR0 := aA_.mk hr0
 have HC0 := aA_.mk hc0
 clear hr0 hc0
 have HR1 := aA_.mk hr1
 have HC1 := aA_.mk hc1
 clear hr1 hc1
 have HB := aA_.mk (Below.refl w.heap.size w)
 have H : ((a5_.f k l0 l1).bind fun t316 => (some t316)) = some r := h
 clear h
 replace H := bi H
 obtain ⟨t316, A30, H⟩ := H
 try dsimp only at H
 have A3 := aA_.mk A30
 clear A30
 obtain rfl := Option.some.inj H
 go_enter Tryz.func11, Tryz.ntmps11
 go_wp2_with (first | (refine gl (some 7) Tryz.func21 #[.slice A0 l0.length c0, .slice A1 l1.length c1, .func (.func 22) #[] #[]] ?_; (with_reducible refine (a5_.calls k _ _ l0 _ _ l1  t316 _ ?side1 ?side2 ?side3 ?side4 (gS HG) A3.out).mono ?_); (case side1 => repeat (first | exact HR0.out | (with_reducible refine Kd.C_alloc ?_ _) | (with_reducible refine Kd.C_drewN ?_ _) | (with_reducible refine Kd.C_drew ?_))); (case side2 => exact HC0.out); (case side3 => repeat (first | exact HR1.out | (with_reducible refine Kd.C_alloc ?_ _) | (with_reducible refine Kd.C_drewN ?_ _) | (with_reducible refine Kd.C_drew ?_))); (case side4 => exact HC1.out); rintro e w4 ⟨rfl, hb⟩; refine ⟨_, rfl, ?_⟩; replace HB := sB hb; (try clear hb)))
 go_ret
 exact ⟨eA, bE⟩
def bJ_.l0 : Nat → List (S32) → Int → List Int → List (S32) → Int → Int → Option (List Int)
 | 0, _, _, _, _, _, _ => none
 | k + 1, x0, x1, x5, x8, x9, x10 => if x10 < x9 then (if 0 ≤ x10 then (if x10 < (x8.length : Int) then (if ((bD_ x8 x10).f0) = x1 then (if x1 ≥ 0 then (if x1 < (x0.length : Int) then (if x5.length < 17592186044416 then (bJ_.l0 k x0 x1 (x5 ++ [x10]) x8 x9 (wrap64 (x10 + 1))) else (none)) else (bJ_.l0 k x0 x1 x5 x8 x9 (wrap64 (x10 + 1)))) else (bJ_.l0 k x0 x1 x5 x8 x9 (wrap64 (x10 + 1)))) else (bJ_.l0 k x0 x1 x5 x8 x9 (wrap64 (x10 + 1)))) else (none)) else (none)) else (some x5)
def bJ_.f (k : Nat) (l0 : List (S32)) (a1 : Int) : Option (List Int) := bJ_.l0 k l0 a1 ([] : List Int) l0 (l0.length : Int) 0
theorem bJ_.mono_l : ∀ k, (∀ y0 y1 y2 y3 y4 y5, LeO (bJ_.l0 k y0 y1 y2 y3 y4 y5) (bJ_.l0 (k + 1) y0 y1 y2 y3 y4 y5))
 | 0 => fun _ _ _ _ _ _ r h => by simp [bJ_.l0] at h
 | k + 1 => by
  have ih0 := bJ_.mono_l k
  ·intro y0 y1 y2 y3 y4 y5
   unfold bJ_.l0
   exact mo
theorem bJ_.mono : ∀ a0 a1 k, LeO (bJ_.f k a0 a1) (bJ_.f (k + 1) a0 a1) := by
 intro a0 a1 k
 have ih0 := bJ_.mono_l k
 unfold bJ_.f
 exact mo
theorem bJ_.calls (k : Nat) (A0 : Option Addr) (c0 : Nat) (l0 : List (S32)) (a1 : Int) (r : List Int) (w : World) (hr0 : Kd.C k32 w A0 l0.length l0) (hc0 : l0.length ≤ c0) (hG : Glob w) (h : bJ_.f k l0 a1 = some r) :
 Calls Tryz.prog 12 #[.slice A0 l0.length c0, .int .i64 a1] w fun e w' => ∃ v0_ : Value, e = .returned (v0_) ∧ Kd.R (Kd.int .i64) 3 w' w.heap.size (fun _ => True) v0_ r ∧ Below w.heap.size w w' := by
 have hu32 := Tryz.underlying32
 have HG := aA_.mk hG
 clear hG
 have HR0 := aA_.mk hr0
 have HC0 := aA_.mk hc0
 clear hr0 hc0
 have HB := aA_.mk (Below.refl w.heap.size w)
 have H : (bJ_.l0 k l0 a1 ([] : List Int) l0 (l0.length : Int) 0) = some r := h
 clear h
 have H' := aA_.mk H
 clear H
 go_enter Tryz.func12, Tryz.ntmps12
 go_wp2
 go_loopg [5, 10] k (fun kq v5 v10 w' => ∃ (x5_1 : List Int) (x10_1 : Int), v10 = .int .i64 x10_1 ∧ aA_ (bJ_.l0 kq l0 a1 x5_1 l0 (l0.length : Int) x10_1 = some r) ∧ aA_ (kq ≤ k) ∧ aA_ (Kd.R (Kd.int .i64) 3 w' w.heap.size (fun _ => True) v5 x5_1) ∧ aA_ (Below w.heap.size w w'))
 case atStart => exact ⟨(([] : List Int)), (0), cA, H', ⟨Nat.le_refl _⟩, ⟨by first | exact Kd.R_nil _ _ _ _ _ | exact Kd.N_nil _ _ _ _ _ | exact Kd.V_nil _ _ _ _ _ | exact Kd.Q_nil _ _ _ _ _ | exact Kd.S_nil _ _ _ _ _⟩, ⟨bE⟩⟩
 clear H'
 try clear c1
 try clear p2
 obtain ⟨x5_1, x10_1, rfl, HA, HK1, HO_5, HB⟩ := hrel
 cases gk with
 | zero => exact absurd HA.out (by simp [bJ_.l0])
 | succ k1 =>
  have H := HA.out
  clear HA
  simp only [bJ_.l0] at H
  by_cases c3 : x10_1 < (l0.length : Int)
  rotate_left
  ·rw [if_neg c3] at H
   have c3b0 := dF c3
   clear c3
   obtain rfl := Option.some.inj H
   go_wp2
   go_ret
   exact ⟨_, by first | rfl | (simp [bL_, bK_] <;> rfl) | (simp [*, bL_, bK_] <;> rfl), by (with_reducible repeat (first | apply Kd.R_alloc | apply Kd.R_drewN | apply Kd.R_drew)); exact HO_5.out, bE⟩
  rw [if_pos c3] at H
  have c3b0 := dT c3
  clear c3
  obtain ⟨c4, H⟩ := gp H
  have c4b0 := dT c4
  clear c4
  obtain ⟨c5, H⟩ := gp H
  have c5b0 := dT c5
  clear c5
  by_cases c6 : ((bD_ l0 x10_1).f0) = a1
  rotate_left
  ·rw [if_neg c6] at H
   obtain ⟨c6b0, c6b1⟩ := eqF c6
   have H' := aA_.mk H
   clear H
   have p122 : 0 ≤ (x10_1 : Int) := dA
   have q122 : x10_1 < (l0.length : Int) := dA
   obtain ⟨ad122, A122_3, c122_3, e122, hx122_0, hx122_1, hx122_2, hx122_3, hl122_3, hi122_3⟩ := dM_ HR0.out x10_1 p122 q122
   cases e122
   replace hx122_0 := (HB.out.cell (World.block_lt_of_cell? w _ hx122_0)).trans hx122_0
   replace hx122_1 := (HB.out.cell (World.block_lt_of_cell? w _ hx122_1)).trans hx122_1
   replace hx122_2 := (HB.out.cell (World.block_lt_of_cell? w _ hx122_2)).trans hx122_2
   replace hx122_3 := (HB.out.cell (World.block_lt_of_cell? w _ hx122_3)).trans hx122_3
   have HR122_3 := aA_.mk hi122_3
   have HC122_3 := aA_.mk hl122_3
   clear hi122_3 hl122_3
   replace p122 := eq_true p122
   replace q122 := eq_true q122
   go_wp2_with (first | ((with_reducible refine cV_ (N := 7) rfl ?_); (try (refine dN_ (by rfl) ?_; dsimp only)); refine be 7 #[.int .i64 0, .string (⟨#[]⟩ : ByteArray), .string (⟨#[]⟩ : ByteArray), .slice none 0 0] 32 ?_; intro gb123 hg w17 hbox hb; replace HO_5 := rB HO_5 hb; have BK123 := aA_.mk (hbox); have GW123 := gW hg; have GE123 := gW hg; replace HB := sB hb; clear hb hbox hg; have hcz18_0 : w17.cell? ⟨gb123, 0, none⟩ = some (.int .i64 0) := (aC_ BK123.out 0).trans rfl; have hcz18_1 : w17.cell? ⟨gb123, 1, none⟩ = some (.string (⟨#[]⟩ : ByteArray)) := (aC_ BK123.out 1).trans rfl; have hcz18_2 : w17.cell? ⟨gb123, 2, none⟩ = some (.string (⟨#[]⟩ : ByteArray)) := (aC_ BK123.out 2).trans rfl; have hcz18_3 : w17.cell? ⟨gb123, 3, none⟩ = some (.slice none 0 0) := (aC_ BK123.out 3).trans rfl; have hfz18_0 := aE_ BK123.out 0; have hfz18_1 := aE_ BK123.out 1; have hfz18_2 := aE_ BK123.out 2; have hfz18_3 := aE_ BK123.out 3))
   go_roundg k1
   case measure => have := HK1.out; omega
   case rel => exact ⟨(x5_1), (wrap64 (x10_1 + 1)), cA, H', ⟨by have := HK1.out; omega⟩, ⟨by (with_reducible repeat (first | apply Kd.R_alloc | apply Kd.R_drewN | apply Kd.R_drew)); exact Kd.R_mono (Kd.R_far (p := ⟨gb123, 3, none⟩) (Kd.R_far (p := ⟨gb123, 2, none⟩) (Kd.R_far (p := ⟨gb123, 1, none⟩) (Kd.R_far (p := ⟨gb123, 0, none⟩) (Kd.R_types HO_5.out BK123.out (by decide)) (fun _ hk => hk.2) (.int .i64 ((bD_ l0 x10_1).f0))) (fun _ hk => hk.2) (.string ((bD_ l0 x10_1).f1))) (fun _ hk => hk.2) (.string ((bD_ l0 x10_1).f2))) (fun _ hk => hk.2) (.slice A122_3 ((bD_ l0 x10_1).f3).length c122_3)) (fun _ hk => trivial)⟩, ⟨bG⟩⟩
  rw [if_pos c6] at H
  obtain ⟨c6b0, c6b1⟩ := eqT c6
  clear c6
  by_cases c7 : a1 ≥ 0
  rotate_left
  ·rw [if_neg c7] at H
   have c7b0 := dF c7
   clear c7
   have H' := aA_.mk H
   clear H
   have p122 : 0 ≤ (x10_1 : Int) := dA
   have q122 : x10_1 < (l0.length : Int) := dA
   obtain ⟨ad122, A122_3, c122_3, e122, hx122_0, hx122_1, hx122_2, hx122_3, hl122_3, hi122_3⟩ := dM_ HR0.out x10_1 p122 q122
   cases e122
   replace hx122_0 := (HB.out.cell (World.block_lt_of_cell? w _ hx122_0)).trans hx122_0
   replace hx122_1 := (HB.out.cell (World.block_lt_of_cell? w _ hx122_1)).trans hx122_1
   replace hx122_2 := (HB.out.cell (World.block_lt_of_cell? w _ hx122_2)).trans hx122_2
   replace hx122_3 := (HB.out.cell (World.block_lt_of_cell? w _ hx122_3)).trans hx122_3
   have HR122_3 := aA_.mk hi122_3
   have HC122_3 := aA_.mk hl122_3
   clear hi122_3 hl122_3
   replace p122 := eq_true p122
   replace q122 := eq_true q122
   go_wp2_with (first | ((with_reducible refine cV_ (N := 7) rfl ?_); (try (refine dN_ (by rfl) ?_; dsimp only)); refine be 7 #[.int .i64 0, .string (⟨#[]⟩ : ByteArray), .string (⟨#[]⟩ : ByteArray), .slice none 0 0] 32 ?_; intro gb123 hg w15 hbox hb; replace HO_5 := rB HO_5 hb; have BK123 := aA_.mk (hbox); have GW123 := gW hg; have GE123 := gW hg; replace HB := sB hb; clear hb hbox hg; have hcz16_0 : w15.cell? ⟨gb123, 0, none⟩ = some (.int .i64 0) := (aC_ BK123.out 0).trans rfl; have hcz16_1 : w15.cell? ⟨gb123, 1, none⟩ = some (.string (⟨#[]⟩ : ByteArray)) := (aC_ BK123.out 1).trans rfl; have hcz16_2 : w15.cell? ⟨gb123, 2, none⟩ = some (.string (⟨#[]⟩ : ByteArray)) := (aC_ BK123.out 2).trans rfl; have hcz16_3 : w15.cell? ⟨gb123, 3, none⟩ = some (.slice none 0 0) := (aC_ BK123.out 3).trans rfl; have hfz16_0 := aE_ BK123.out 0; have hfz16_1 := aE_ BK123.out 1; have hfz16_2 := aE_ BK123.out 2; have hfz16_3 := aE_ BK123.out 3))
   go_roundg k1
   case measure => have := HK1.out; omega
   case rel => exact ⟨(x5_1), (wrap64 (x10_1 + 1)), cA, H', ⟨by have := HK1.out; omega⟩, ⟨by (with_reducible repeat (first | apply Kd.R_alloc | apply Kd.R_drewN | apply Kd.R_drew)); exact Kd.R_mono (Kd.R_far (p := ⟨gb123, 3, none⟩) (Kd.R_far (p := ⟨gb123, 2, none⟩) (Kd.R_far (p := ⟨gb123, 1, none⟩) (Kd.R_far (p := ⟨gb123, 0, none⟩) (Kd.R_types HO_5.out BK123.out (by decide)) (fun _ hk => hk.2) (.int .i64 ((bD_ l0 x10_1).f0))) (fun _ hk => hk.2) (.string ((bD_ l0 x10_1).f1))) (fun _ hk => hk.2) (.string ((bD_ l0 x10_1).f2))) (fun _ hk => hk.2) (.slice A122_3 ((bD_ l0 x10_1).f3).length c122_3)) (fun _ hk => trivial)⟩, ⟨bG⟩⟩
  rw [if_pos c7] at H
  have c7b0 := dT c7
  clear c7
  by_cases c8 : a1 < (l0.length : Int)
  rotate_left
  ·rw [if_neg c8] at H
   have c8b0 := dF c8
   clear c8
   have H' := aA_.mk H
   clear H
   have p122 : 0 ≤ (x10_1 : Int) := dA
   have q122 : x10_1 < (l0.length : Int) := dA
   obtain ⟨ad122, A122_3, c122_3, e122, hx122_0, hx122_1, hx122_2, hx122_3, hl122_3, hi122_3⟩ := dM_ HR0.out x10_1 p122 q122
   cases e122
   replace hx122_0 := (HB.out.cell (World.block_lt_of_cell? w _ hx122_0)).trans hx122_0
   replace hx122_1 := (HB.out.cell (World.block_lt_of_cell? w _ hx122_1)).trans hx122_1
   replace hx122_2 := (HB.out.cell (World.block_lt_of_cell? w _ hx122_2)).trans hx122_2
   replace hx122_3 := (HB.out.cell (World.block_lt_of_cell? w _ hx122_3)).trans hx122_3
   have HR122_3 := aA_.mk hi122_3
   have HC122_3 := aA_.mk hl122_3
   clear hi122_3 hl122_3
   replace p122 := eq_true p122
   replace q122 := eq_true q122
   go_wp2_with (first | ((with_reducible refine cV_ (N := 7) rfl ?_); (try (refine dN_ (by rfl) ?_; dsimp only)); refine be 7 #[.int .i64 0, .string (⟨#[]⟩ : ByteArray), .string (⟨#[]⟩ : ByteArray), .slice none 0 0] 32 ?_; intro gb123 hg w13 hbox hb; replace HO_5 := rB HO_5 hb; have BK123 := aA_.mk (hbox); have GW123 := gW hg; have GE123 := gW hg; replace HB := sB hb; clear hb hbox hg; have hcz14_0 : w13.cell? ⟨gb123, 0, none⟩ = some (.int .i64 0) := (aC_ BK123.out 0).trans rfl; have hcz14_1 : w13.cell? ⟨gb123, 1, none⟩ = some (.string (⟨#[]⟩ : ByteArray)) := (aC_ BK123.out 1).trans rfl; have hcz14_2 : w13.cell? ⟨gb123, 2, none⟩ = some (.string (⟨#[]⟩ : ByteArray)) := (aC_ BK123.out 2).trans rfl; have hcz14_3 : w13.cell? ⟨gb123, 3, none⟩ = some (.slice none 0 0) := (aC_ BK123.out 3).trans rfl; have hfz14_0 := aE_ BK123.out 0; have hfz14_1 := aE_ BK123.out 1; have hfz14_2 := aE_ BK123.out 2; have hfz14_3 := aE_ BK123.out 3))
   go_roundg k1
   case measure => have := HK1.out; omega
   case rel => exact ⟨(x5_1), (wrap64 (x10_1 + 1)), cA, H', ⟨by have := HK1.out; omega⟩, ⟨by (with_reducible repeat (first | apply Kd.R_alloc | apply Kd.R_drewN | apply Kd.R_drew)); exact Kd.R_mono (Kd.R_far (p := ⟨gb123, 3, none⟩) (Kd.R_far (p := ⟨gb123, 2, none⟩) (Kd.R_far (p := ⟨gb123, 1, none⟩) (Kd.R_far (p := ⟨gb123, 0, none⟩) (Kd.R_types HO_5.out BK123.out (by decide)) (fun _ hk => hk.2) (.int .i64 ((bD_ l0 x10_1).f0))) (fun _ hk => hk.2) (.string ((bD_ l0 x10_1).f1))) (fun _ hk => hk.2) (.string ((bD_ l0 x10_1).f2))) (fun _ hk => hk.2) (.slice A122_3 ((bD_ l0 x10_1).f3).length c122_3)) (fun _ hk => trivial)⟩, ⟨bG⟩⟩
  rw [if_pos c8] at H
  have c8b0 := dT c8
  clear c8
  obtain ⟨c9, H⟩ := gp H
  have LMc9 := aA_.mk c9
  clear c9
  obtain ⟨y124, hy124⟩ : ∃ y_ : List Int, y_ = (x5_1 ++ [x10_1]) := ⟨_, rfl⟩
  replace H : (bJ_.l0 k1 l0 a1 y124 l0 (l0.length : Int) (wrap64 (x10_1 + 1))) = some r := by first | (rw [hy124]; with_reducible exact H) | (have H2_ := (Option.bind_some _ _).symm.trans H; rw [hy124]; with_reducible exact H2_) | (have H2_ := (Option.bind_some _ _).symm.trans H; with_reducible exact H2_) | with_reducible exact H | (rw [hy124]; exact H) | exact H
  have Ny124 := aA_.mk hy124
  clear hy124
  have H' := aA_.mk H
  clear H
  have p122 : 0 ≤ (x10_1 : Int) := dA
  have q122 : x10_1 < (l0.length : Int) := dA
  obtain ⟨ad122, A122_3, c122_3, e122, hx122_0, hx122_1, hx122_2, hx122_3, hl122_3, hi122_3⟩ := dM_ HR0.out x10_1 p122 q122
  cases e122
  replace hx122_0 := (HB.out.cell (World.block_lt_of_cell? w _ hx122_0)).trans hx122_0
  replace hx122_1 := (HB.out.cell (World.block_lt_of_cell? w _ hx122_1)).trans hx122_1
  replace hx122_2 := (HB.out.cell (World.block_lt_of_cell? w _ hx122_2)).trans hx122_2
  replace hx122_3 := (HB.out.cell (World.block_lt_of_cell? w _ hx122_3)).trans hx122_3
  have HR122_3 := aA_.mk hi122_3
  have HC122_3 := aA_.mk hl122_3
  clear hi122_3 hl122_3
  replace p122 := eq_true p122
  replace q122 := eq_true q122
  go_wp2_with (first | ((with_reducible refine cV_ (N := 7) rfl ?_); (try (refine dN_ (by rfl) ?_; dsimp only)); refine be 7 #[.int .i64 0, .string (⟨#[]⟩ : ByteArray), .string (⟨#[]⟩ : ByteArray), .slice none 0 0] 32 ?_; intro gb123 hg w10 hbox hb; replace HO_5 := rB HO_5 hb; have BK123 := aA_.mk (hbox); have GW123 := gW hg; have GE123 := gW hg; replace HB := sB hb; clear hb hbox hg; have hcz11_0 : w10.cell? ⟨gb123, 0, none⟩ = some (.int .i64 0) := (aC_ BK123.out 0).trans rfl; have hcz11_1 : w10.cell? ⟨gb123, 1, none⟩ = some (.string (⟨#[]⟩ : ByteArray)) := (aC_ BK123.out 1).trans rfl; have hcz11_2 : w10.cell? ⟨gb123, 2, none⟩ = some (.string (⟨#[]⟩ : ByteArray)) := (aC_ BK123.out 2).trans rfl; have hcz11_3 : w10.cell? ⟨gb123, 3, none⟩ = some (.slice none 0 0) := (aC_ BK123.out 3).trans rfl; have hfz11_0 := aE_ BK123.out 0; have hfz11_1 := aE_ BK123.out 1; have hfz11_2 := aE_ BK123.out 2; have hfz11_3 := aE_ BK123.out 3) | ((with_reducible refine dZ_ (b := .append) (xs := #[.tmp 29, .tmp 31]) rfl ?_); (try (refine dN_ (by rfl) ?_; dsimp only)); at_builtin; refine Kd.R_append (Kd.int .i64) (w0 := w) w.heap.size rfl (.tmp 29) (.tmp 31) 35 3 (.int .i64 0) 8 rfl Tryz.underlying35 info3 rfl (by decide) (by omega) u5 x5_1 x10_1 [.int .i64 x10_1] (fun _ => True) (fun _ => False) rfl (by first | (go_simp; done) | (go_simp; rfl)) ?aP (fun _ hk => hk.elim) ?aF ?aO ?aB ?aS ?aL ?_; (case aP => exact rfl); (case aB => exact bG); (case aF => exact (fun _ _ => trivial)); (case aO => exact (by (with_reducible repeat (first | apply Kd.R_alloc | apply Kd.R_drewN | apply Kd.R_drew)); exact Kd.R_mono (Kd.R_far (p := ⟨gb123, 3, none⟩) (Kd.R_far (p := ⟨gb123, 2, none⟩) (Kd.R_far (p := ⟨gb123, 1, none⟩) (Kd.R_far (p := ⟨gb123, 0, none⟩) (Kd.R_types HO_5.out BK123.out (by decide)) (fun _ hk => hk.2) (.int .i64 ((bD_ l0 x10_1).f0))) (fun _ hk => hk.2) (.string ((bD_ l0 x10_1).f1))) (fun _ hk => hk.2) (.string ((bD_ l0 x10_1).f2))) (fun _ hk => hk.2) (.slice A122_3 ((bD_ l0 x10_1).f3).length c122_3)) (fun _ hk => trivial))); (case aS => exact (cA_ bG)); (case aL => have := LMc9.out; omega); intro v125 w12 ho hb hg hat; rw [← Ny124.out] at ho; replace BK123 := aA_.mk (b6_ (g := gb123) (o := .cells #[.int .i64 ((bD_ l0 x10_1).f0), .string ((bD_ l0 x10_1).f1), .string ((bD_ l0 x10_1).f2), .slice A122_3 ((bD_ l0 x10_1).f3).length c122_3] 32 (0, 0)) (bP BK123) hg (Kd.R_ne HO_5.out BK123.out (by decide))); replace HB := aA_.mk (hb); have HO126 := aA_.mk (ho); clear HO_5; clear ho hb hg hat))
  go_roundg k1
  case measure => have := HK1.out; omega
  case rel => exact ⟨(y124), (wrap64 (x10_1 + 1)), cA, H', ⟨by have := HK1.out; omega⟩, ⟨kR HO126⟩, ⟨bG⟩⟩
mutual
def a1_.l0 : Nat → List (S32) → Int → List Int → Int → Option (List Int)
 | 0, _, _, _, _ => none
 | k + 1, x0, x1, x5, x6 => if x6 < (x0.length : Int) then (if x1 ≥ 0 then (a1_.j1 k x0 x1 x5 x6 (decide (x1 < (x0.length : Int)))) else (a1_.j1 k x0 x1 x5 x6 false)) else (a1_.j1 k x0 x1 x5 x6 false)
def a1_.j1 : Nat → List (S32) → Int → List Int → Int → Bool → Option (List Int)
 | 0, _, _, _, _, _ => none
 | k + 1, x0, x1, x5, x6, x20 => if x20 = true then (if 0 ≤ x6 then (if x6 < (x0.length : Int) then (if ((bD_ x0 x6).f0) = x1 then (if x5.length < 17592186044416 then (a1_.l0 k x0 x1 (x5 ++ [x6]) (wrap64 (x6 + 1))) else (none)) else (a1_.l0 k x0 x1 x5 (wrap64 (x6 + 1)))) else (none)) else (none)) else (some x5)
end
def a1_.f (k : Nat) (l0 : List (S32)) (a1 : Int) : Option (List Int) := a1_.l0 k l0 a1 ([] : List Int) 0
theorem a1_.mono_l : ∀ k, (∀ y0 y1 y2 y3, LeO (a1_.l0 k y0 y1 y2 y3) (a1_.l0 (k + 1) y0 y1 y2 y3)) ∧ (∀ y0 y1 y2 y3 y4, LeO (a1_.j1 k y0 y1 y2 y3 y4) (a1_.j1 (k + 1) y0 y1 y2 y3 y4))
 | 0 => ⟨fun _ _ _ _ r h => by simp [a1_.l0] at h, fun _ _ _ _ _ r h => by simp [a1_.j1] at h⟩
 | k + 1 => by
  obtain ⟨ih0, ih1⟩ := a1_.mono_l k
  refine ⟨?_, ?_⟩
  ·intro y0 y1 y2 y3
   unfold a1_.l0
   exact mo
  ·intro y0 y1 y2 y3 y4
   unfold a1_.j1
   exact mo
theorem a1_.mono : ∀ a0 a1 k, LeO (a1_.f k a0 a1) (a1_.f (k + 1) a0 a1) := by
 intro a0 a1 k
 obtain ⟨ih0, ih1⟩ := a1_.mono_l k
 unfold a1_.f
 exact mo
theorem a1_.calls (k : Nat) (A0 : Option Addr) (c0 : Nat) (l0 : List (S32)) (a1 : Int) (r : List Int) (w : World) (hr0 : Kd.C k32 w A0 l0.length l0) (hc0 : l0.length ≤ c0) (hG : Glob w) (h : a1_.f k l0 a1 = some r) :
 Calls Tryz.prog 13 #[.slice A0 l0.length c0, .int .i64 a1] w fun e w' => ∃ v0_ : Value, e = .returned (v0_) ∧ Kd.R (Kd.int .i64) 3 w' w.heap.size (fun _ => True) v0_ r ∧ Below w.heap.size w w' := by
 have HG := aA_.mk hG
 clear hG
 have HR0 := aA_.mk hr0
 have HC0 := aA_.mk hc0
 clear hr0 hc0
 have HB := aA_.mk (Below.refl w.heap.size w)
 have H : (a1_.l0 k l0 a1 ([] : List Int) 0) = some r := h
 clear h
 have H' := aA_.mk H
 clear H
 go_enter Tryz.func13, Tryz.ntmps13
 go_wp2
 go_loopg [5, 6] k (fun kq v5 v6 w' => ∃ (x5_1 : List Int) (x6_1 : Int), v6 = .int .i64 x6_1 ∧ aA_ (a1_.l0 kq l0 a1 x5_1 x6_1 = some r) ∧ aA_ (kq ≤ k) ∧ aA_ (Kd.R (Kd.int .i64) 3 w' w.heap.size (fun _ => True) v5 x5_1) ∧ aA_ (Below w.heap.size w w'))
 case atStart => exact ⟨(([] : List Int)), (0), cA, H', ⟨Nat.le_refl _⟩, ⟨by first | exact Kd.R_nil _ _ _ _ _ | exact Kd.N_nil _ _ _ _ _ | exact Kd.V_nil _ _ _ _ _ | exact Kd.Q_nil _ _ _ _ _ | exact Kd.S_nil _ _ _ _ _⟩, ⟨bE⟩⟩
 clear H'
 try clear c1
 try clear p2
 obtain ⟨x5_1, x6_1, rfl, HA, HK1, HO_5, HB⟩ := hrel
 cases gk with
 | zero => exact absurd HA.out (by simp [a1_.l0])
 | succ k1 =>
  have H := HA.out
  clear HA
  simp only [a1_.l0] at H
  have HC3 := aA_.mk H
  clear H
  go_upto_region 3 with (fail)
  go_cut [20] (fun v20 wc => ∃ (kq : Nat) (x20_2 : Bool), v20 = .bool x20_2 ∧ aA_ (a1_.j1 kq l0 a1 x5_1 x6_1 x20_2 = some r) ∧ aA_ (kq ≤ k1) ∧ aA_ (Kd.R (Kd.int .i64) 3 wc w.heap.size (fun _ => True) u5 x5_1) ∧ aA_ (Below w.heap.size w wc))
  case first =>
   have H := HC3.out
   clear HC3
   by_cases c4 : x6_1 < (l0.length : Int)
   rotate_left
   ·rw [if_neg c4] at H
    have c4b0 := dF c4
    clear c4
    (first | rw [c4b0] | (simp only [c6_, dY_]; rw [c4b0]) | skip)
    have H' := aA_.mk H
    clear H
    go_wp2
    go_meet
    case rel => exact ⟨_, (false), cA, H', ⟨by have := HK1.out; first | omega | exact Nat.le_refl _⟩, ⟨kR HO_5⟩, ⟨bE⟩⟩
   rw [if_pos c4] at H
   have c4b0 := dT c4
   clear c4
   (first | rw [c4b0] | (simp only [c6_, dY_]; rw [c4b0]) | skip)
   by_cases c5 : a1 ≥ 0
   rotate_left
   ·rw [if_neg c5] at H
    have c5b0 := dF c5
    clear c5
    have H' := aA_.mk H
    clear H
    go_wp2
    go_meet
    case rel => exact ⟨_, (false), cA, H', ⟨by have := HK1.out; first | omega | exact Nat.le_refl _⟩, ⟨kR HO_5⟩, ⟨bE⟩⟩
   rw [if_pos c5] at H
   have c5b0 := dT c5
   clear c5
   have H' := aA_.mk H
   clear H
   go_wp2
   go_meet
   case rel => exact ⟨_, (decide (a1 < (l0.length : Int))), cA, H', ⟨by have := HK1.out; first | omega | exact Nat.le_refl _⟩, ⟨kR HO_5⟩, ⟨bE⟩⟩
  clear HC3
  try clear c1
  try clear p2
  try clear c4
  try clear c4b0
  try clear c5
  try clear c5b0
  try clear p2
  obtain ⟨kq, x20_2, rfl, HA, HJ2, HO_5, HB⟩ := hcut
  cases kq with
  | zero => exact absurd HA.out (by simp [a1_.j1])
  | succ kj2 =>
   have H := HA.out
   clear HA
   simp only [a1_.j1] at H
   by_cases c6 : x20_2 = true
   rotate_left
   ·replace c6 := Bool.eq_false_iff.mpr c6
    subst c6
    replace H : (some x5_1) = some r := by rw [if_neg nF] at H; exact H
    obtain rfl := Option.some.inj H
    go_wp2
    go_ret
    exact ⟨_, by first | rfl | (simp [bL_, bK_] <;> rfl) | (simp [*, bL_, bK_] <;> rfl), by (with_reducible repeat (first | apply Kd.R_alloc | apply Kd.R_drewN | apply Kd.R_drew)); exact HO_5.out, bE⟩
   subst c6
   replace H : (if 0 ≤ x6_1 then (if x6_1 < (l0.length : Int) then (if ((bD_ l0 x6_1).f0) = a1 then (if x5_1.length < 17592186044416 then (a1_.l0 kj2 l0 a1 (x5_1 ++ [x6_1]) (wrap64 (x6_1 + 1))) else (none)) else (a1_.l0 kj2 l0 a1 x5_1 (wrap64 (x6_1 + 1)))) else (none)) else (none)) = some r := by rw [if_pos rfl] at H; exact H
   obtain ⟨c7, H⟩ := gp H
   have c7b0 := dT c7
   clear c7
   obtain ⟨c8, H⟩ := gp H
   have c8b0 := dT c8
   clear c8
   by_cases c9 : ((bD_ l0 x6_1).f0) = a1
   rotate_left
   ·rw [if_neg c9] at H
    obtain ⟨c9b0, c9b1⟩ := eqF c9
    have H' := aA_.mk H
    clear H
    have p309 : 0 ≤ (x6_1 : Int) := dA
    have q309 : x6_1 < (l0.length : Int) := dA
    obtain ⟨ad309, A309_3, c309_3, e309, hx309_0, hx309_1, hx309_2, hx309_3, hl309_3, hi309_3⟩ := dM_ HR0.out x6_1 p309 q309
    cases e309
    replace hx309_0 := (HB.out.cell (World.block_lt_of_cell? w _ hx309_0)).trans hx309_0
    replace hx309_1 := (HB.out.cell (World.block_lt_of_cell? w _ hx309_1)).trans hx309_1
    replace hx309_2 := (HB.out.cell (World.block_lt_of_cell? w _ hx309_2)).trans hx309_2
    replace hx309_3 := (HB.out.cell (World.block_lt_of_cell? w _ hx309_3)).trans hx309_3
    have HR309_3 := aA_.mk hi309_3
    have HC309_3 := aA_.mk hl309_3
    clear hi309_3 hl309_3
    replace p309 := eq_true p309
    replace q309 := eq_true q309
    go_wp2
    go_roundg kj2
    case measure => have := HK1.out; have := HJ2.out; omega
    case rel => exact ⟨(x5_1), (wrap64 (x6_1 + 1)), cA, H', ⟨by have := HK1.out; have := HJ2.out; omega⟩, ⟨kR HO_5⟩, ⟨bE⟩⟩
   rw [if_pos c9] at H
   obtain ⟨c9b0, c9b1⟩ := eqT c9
   clear c9
   obtain ⟨c10, H⟩ := gp H
   have LMc10 := aA_.mk c10
   clear c10
   obtain ⟨y310, hy310⟩ : ∃ y_ : List Int, y_ = (x5_1 ++ [x6_1]) := ⟨_, rfl⟩
   replace H : (a1_.l0 kj2 l0 a1 y310 (wrap64 (x6_1 + 1))) = some r := by first | (rw [hy310]; with_reducible exact H) | (have H2_ := (Option.bind_some _ _).symm.trans H; rw [hy310]; with_reducible exact H2_) | (have H2_ := (Option.bind_some _ _).symm.trans H; with_reducible exact H2_) | with_reducible exact H | (rw [hy310]; exact H) | exact H
   have Ny310 := aA_.mk hy310
   clear hy310
   have H' := aA_.mk H
   clear H
   have p309 : 0 ≤ (x6_1 : Int) := dA
   have q309 : x6_1 < (l0.length : Int) := dA
   obtain ⟨ad309, A309_3, c309_3, e309, hx309_0, hx309_1, hx309_2, hx309_3, hl309_3, hi309_3⟩ := dM_ HR0.out x6_1 p309 q309
   cases e309
   replace hx309_0 := (HB.out.cell (World.block_lt_of_cell? w _ hx309_0)).trans hx309_0
   replace hx309_1 := (HB.out.cell (World.block_lt_of_cell? w _ hx309_1)).trans hx309_1
   replace hx309_2 := (HB.out.cell (World.block_lt_of_cell? w _ hx309_2)).trans hx309_2
   replace hx309_3 := (HB.out.cell (World.block_lt_of_cell? w _ hx309_3)).trans hx309_3
   have HR309_3 := aA_.mk hi309_3
   have HC309_3 := aA_.mk hl309_3
   clear hi309_3 hl309_3
   replace p309 := eq_true p309
   replace q309 := eq_true q309
   go_wp2_with (first | ((with_reducible refine dZ_ (b := .append) (xs := #[.tmp 30, .tmp 32]) rfl ?_); (try (refine dN_ (by rfl) ?_; dsimp only)); at_builtin; refine Kd.R_append (Kd.int .i64) (w0 := w) w.heap.size rfl (.tmp 30) (.tmp 32) 35 3 (.int .i64 0) 8 rfl Tryz.underlying35 info3 rfl (by decide) (by omega) u5 x5_1 x6_1 [.int .i64 x6_1] (fun _ => True) (fun _ => False) rfl rfl ?aP (fun _ hk => hk.elim) ?aF ?aO ?aB ?aS ?aL ?_; (case aP => exact rfl); (case aB => exact bE); (case aF => exact (fun _ _ => trivial)); (case aO => exact (kR HO_5)); (case aS => exact (cA_ bE)); (case aL => have := LMc10.out; omega); intro v311 w11 ho hb hg hat; rw [← Ny310.out] at ho; replace HB := aA_.mk (hb); have HO312 := aA_.mk (ho); clear HO_5; clear ho hb hg hat))
   go_roundg kj2
   case measure => have := HK1.out; have := HJ2.out; omega
   case rel => exact ⟨(y310), (wrap64 (x6_1 + 1)), cA, H', ⟨by have := HK1.out; have := HJ2.out; omega⟩, ⟨kR HO312⟩, ⟨bE⟩⟩
end Go.Proofs.YtkoogebfdinbnaaGreat.Q
namespace Go.Proofs.YtkoogebfdinbnaaGreat.Q
open Go.RowKit Go.Proofs.YtkoogebfdinbnaaGreatW.PrintWords Go.Proofs.YtkoogebfdinbnaaGreatW.PrintLast Go.Proofs.YtkoogebfdinbnaaGreatW.Own Go.Proofs.YtkoogebfdinbnaaGreatW.PrintMore
set_option linter.unusedVariables false
set_option linter.unusedSimpArgs false
namespace Tk
open Go
abbrev Tok := S45
abbrev Att := S53
def bs (l : List UInt8) : ByteArray := ⟨l.toArray⟩
def letter (c : UInt8) : Bool := (65 ≤ c.toNat && c.toNat ≤ 90) || (97 ≤ c.toNat && c.toNat ≤ 122) || c.toNat == 95
def digit (c : UInt8) : Bool := 48 ≤ c.toNat && c.toNat ≤ 57
def within (c : UInt8) : Bool := letter c || digit c || c.toNat == 45 || c.toNat == 46 || c.toNat == 58
def space (c : UInt8) : Bool := c.toNat == 9 || c.toNat == 10 || c.toNat == 13 || c.toNat == 32
def allowed (c : UInt8) : Bool := decide (32 < c.toNat) || space c
def head : List UInt8 → List UInt8
  | [] => []
  | c :: r => if letter c then c :: r.takeWhile within else []
def skip (l : List UInt8) : List UInt8 := l.dropWhile space
def behind (x l : List UInt8) : Option (List UInt8) := if x.isPrefixOf l then some (l.drop x.length) else none
def upto (x l : List UInt8) : Option (List UInt8 × List UInt8) := if 0 ≤ Lib.index l x then some (l.take (Lib.index l x).toNat, l.drop ((Lib.index l x).toNat + x.length)) else none
def digitOf (base : Nat) (c : UInt8) : Option Nat :=
  let v := if digit c then some (c.toNat - 48) else if 97 ≤ c.toNat ∧ c.toNat ≤ 102 then some (c.toNat - 87) else if 65 ≤ c.toNat ∧ c.toNat ≤ 70 then some (c.toNat - 55) else none
  v.bind fun n => if n < base then some n else none
def number (base : Nat) : Nat → List UInt8 → Option Nat
  | v, [] => some v
  | v, c :: r => (digitOf base c).bind fun d => number base (v * base + d) r
def may (v : Nat) : Bool := v == 9 || v == 10 || v == 13 || (decide (32 ≤ v) && decide (v ≤ 1114111) && (decide (v < 55296) || decide (57343 < v)))
def numbered (base : Nat) (l : List UInt8) : Option (List UInt8) :=
  if l = [] ∨ 6 < l.length then none else (number base 0 l).bind fun v => if may v then some (Utf8.encode (v : Int)).data.toList else none
def named (l : List UInt8) : Option (List UInt8) :=
  if l = [108, 116] then some [60] else if l = [103, 116] then some [62] else if l = [97, 109, 112] then some [38] else if l = [113, 117, 111, 116] then some [34] else if l = [97, 112, 111, 115] then some [39] else none
def entity : List UInt8 → Option (List UInt8)
  | 35 :: 120 :: r => numbered 16 r
  | 35 :: r => numbered 10 r
  | l => named l
def ents : Nat → List UInt8 → Option (List UInt8)
  | 0, _ => none
  | n + 1, l => match upto [38] l with
    | none => some l
    | some (a, b) => match upto [59] b with
      | none => none
      | some (nm, r) => (entity nm).bind fun c => (ents n r).map fun t => a ++ (c ++ t)
def entities (l : List UInt8) : Option (List UInt8) := ents (l.length + 1) l
def tk (kind : Int) (name text : List UInt8) (attrs : List Att) (empty : Bool) : Tok := ⟨kind, bs name, bs text, attrs, empty⟩
def at_ (n v : List UInt8) : Att := ⟨bs n, bs v⟩
def comment (l : List UInt8) : Option (Tok × List UInt8) :=
  (upto [45, 45, 62] l).bind fun p => if 0 ≤ Lib.index p.1 [45, 45] ∨ Lib.hasSuffix p.1 [45] = true then none else some (tk 4 [] p.1 [] false, p.2)
def data (l : List UInt8) : Option (Tok × List UInt8) := (upto [93, 93, 62] l).map fun p => (tk 3 [] p.1 [] false, p.2)
def prolog (first : Bool) (l : List UInt8) : Option (Tok × List UInt8) := (upto [63, 62] l).bind fun p => if first then some (tk 5 [] p.1 [] false, p.2) else none
def close (l : List UInt8) : Option (Tok × List UInt8) :=
  if head l = [] then none else (behind [62] (skip (l.drop (head l).length))).map fun r => (tk 2 (head l) [] [] false, r)
def value (l : List UInt8) : Option (List UInt8 × List UInt8) :=
  let q := if [34].isPrefixOf l then [34] else [39]
  (behind q l).bind fun r => (upto q r).bind fun p => if 0 ≤ Lib.index p.1 [60] then none else (entities p.1).map fun v => (v, p.2)
def attr (l : List UInt8) : Option (Att × List UInt8) :=
  if head l = [] then none else (behind [61] (skip (l.drop (head l).length))).bind fun r => (value (skip r)).map fun p => (at_ (head l) p.1, p.2)
def attrs : Nat → List UInt8 → List Att → List UInt8 → Option (Tok × List UInt8)
  | 0, _, _, _ => none
  | n + 1, nm, ys, l =>
    let l1 := skip l
    match behind [62] l1 with
    | some r => some (tk 1 nm [] ys false, r)
    | none => match behind [47, 62] l1 with
      | some r => some (tk 1 nm [] ys true, r)
      | none => if l1.length = l.length then none else (attr l1).bind fun p => if ys.any (fun x => x.f0.toList == p.1.f0.toList) then none else attrs n nm (ys ++ [p.1]) p.2
def opening (l : List UInt8) : Option (Tok × List UInt8) := if head l = [] then none else attrs (l.length + 1) (head l) [] (l.drop (head l).length)
def text (l : List UInt8) : Option (Tok × List UInt8) :=
  let t := l.takeWhile (· != 60)
  (entities t).map fun x => (tk 3 [] x [] false, l.drop t.length)
def next (first : Bool) (l : List UInt8) : Option (Tok × List UInt8) :=
  match behind [60, 33, 45, 45] l with
  | some r => comment r
  | none => match behind [60, 33, 91, 67, 68, 65, 84, 65, 91] l with
    | some r => data r
    | none => match behind [60, 63] l with
      | some r => prolog first r
      | none => match behind [60, 47] l with
        | some r => close r
        | none => match behind [60] l with
          | some r => opening r
          | none => text l
def pieces : Nat → Bool → List UInt8 → Option (List Tok)
  | 0, _, _ => none
  | n + 1, first, l => if l = [] then some [] else (next first l).bind fun p => (pieces n false p.2).map fun t => p.1 :: t
def split (l : List UInt8) : List Tok × Int :=
  if 20000 < l.length then ([], 3) else if l.any (fun c => !allowed c) then ([], 4) else match pieces (l.length + 1) true l with
    | some t => (t, 0)
    | none => ([], 5)
theorem bytes_all {α : Type} [DecidableEq α] {f : Int → Option α} {g : UInt8 → α} (h : (List.range 256).all (fun n => decide (f (n : Int) = some (g (UInt8.ofNat n)))) = true) (c : UInt8) : f (c.toNat : Int) = some (g c) := by
  have hc : c.toNat < 256 := c.toNat_lt
  have := of_decide_eq_true (List.all_eq_true.1 h c.toNat (List.mem_range.2 hc))
  rwa [UInt8.ofNat_toNat] at this
end Tk
end Go.Proofs.YtkoogebfdinbnaaGreat.Q
namespace Go.Proofs.YtkoogebfdinbnaaGreat.Q
open Go.RowKit Go.Proofs.YtkoogebfdinbnaaGreatW.PrintWords Go.Proofs.YtkoogebfdinbnaaGreatW.PrintLast Go.Proofs.YtkoogebfdinbnaaGreatW.Own Go.Proofs.YtkoogebfdinbnaaGreatW.PrintMore
set_option linter.unusedVariables false
set_option linter.unusedSimpArgs false
namespace El
open Go
abbrev Nd := S32
abbrev Tok := S45
abbrev Att := S53
def zn : Nd := z32
def nul : ByteArray := ⟨#[]⟩
def inner (op : List Int) : Int := op.getLast?.getD (-1)
def lastI (l : List Nd) (p : Int) : Option Nat := l.zipIdx.foldl (fun a x => if x.1.f0 = p then some x.2 else a) none
theorem lastI_snoc (l : List Nd) (n : Nd) (p : Int) : lastI (l ++ [n]) p = if n.f0 = p then some l.length else lastI l p := by
  unfold lastI
  rw [List.zipIdx_append, List.foldl_append]
  simp
theorem lastI_lt (l : List Nd) (p : Int) (k : Nat) (h : lastI l p = some k) : k < l.length := by
  rw [← List.reverse_reverse l] at h ⊢
  generalize l.reverse = m at *
  induction m with
  | nil => simp [lastI] at h
  | cons n m ih =>
    rw [List.reverse_cons, lastI_snoc] at h
    rw [List.reverse_cons, List.length_append, List.length_singleton]
    split at h
    · injection h with h; omega
    · have := ih h; omega
theorem lastI_set (l : List Nd) (k : Nat) (n : Nd) (p : Int) (hn : ∀ x, l[k]? = some x → n.f0 = x.f0) : lastI (l.set k n) p = lastI l p := by
  rw [← List.reverse_reverse l] at hn ⊢
  generalize l.reverse = m at *
  induction m with
  | nil => rfl
  | cons x m ih =>
    rw [List.reverse_cons] at hn ⊢
    rcases Nat.lt_or_ge k m.reverse.length with hk | hk
    · rw [List.set_append_left _ _ hk, lastI_snoc, lastI_snoc, List.length_set, ih]
      intro y hy
      exact hn y (by rw [List.getElem?_append_left hk]; exact hy)
    · rw [List.set_append_right _ _ hk]
      rcases Nat.eq_or_lt_of_le hk with he | hlt
      · have := hn x (by rw [← he, List.getElem?_append_right (Nat.le_refl _), Nat.sub_self]; rfl)
        rw [← he, Nat.sub_self, List.set_cons_zero, lastI_snoc, lastI_snoc, this]
      · rw [show k - m.reverse.length = (k - m.reverse.length - 1) + 1 from by omega, List.set_cons_succ, List.set_nil]
abbrev St := List Nd × List Int
def put (l : List Nd) (op : List Int) (name text : ByteArray) (at_ : List Att) : Option (List Nd) := if l.length < 2000 then some (l ++ [⟨inner op, name, text, at_⟩]) else none
def begin_ (l : List Nd) (op : List Int) (t : Tok) : Except Int St :=
  if t.f1 = nul then .error 5 else if op = [] ∧ l ≠ [] then .error 6 else if 20 ≤ op.length then .error 7 else
    match put l op t.f1 nul t.f3 with
    | none => .error 3
    | some l' => .ok (l', if t.f4 = true then op else op ++ [(l.length : Int)])
def end_ (l : List Nd) (op : List Int) (t : Tok) : Except Int St :=
  if inner op < 0 then .error 6 else if (l.getD (inner op).toNat zn).f1 = t.f1 then .ok (l, op.dropLast) else .error 6
def blank (s : ByteArray) : Bool := s.data.toList.all Tk.space
def text (l : List Nd) (op : List Int) (s : ByteArray) : Except Int St :=
  if inner op < 0 then (if blank s then .ok (l, op) else .error 6) else if s = nul then .ok (l, op) else
    match lastI l (inner op) with
    | some k => if (l.getD k zn).f1 = nul then .ok (l.set k { l.getD k zn with f2 := (l.getD k zn).f2 ++ s }, op) else
        match put l op nul s [] with
        | none => .error 3
        | some l' => .ok (l', op)
    | none => match put l op nul s [] with
        | none => .error 3
        | some l' => .ok (l', op)
def take (l : List Nd) (op : List Int) (t : Tok) : Except Int St :=
  if t.f0 = 4 then .ok (l, op) else if t.f0 = 5 then .ok (l, op) else if t.f0 = 1 then begin_ l op t else if t.f0 = 2 then end_ l op t else if t.f0 = 3 then text l op t.f2 else .error 5
def all : List Nd → List Int → List Tok → Except Int St
  | l, op, [] => .ok (l, op)
  | l, op, t :: r => match take l op t with
    | .error e => .error e
    | .ok s => all s.1 s.2 r
def tree (ts : List Tok) : List Nd × Int :=
  match all [] [] ts with
  | .error e => ([], e)
  | .ok s => if s.1 = [] ∨ s.2 ≠ [] then ([], 6) else (s.1, 0)
def MapIs (D : DataW Unit) (l : List Nd) : Prop := ∀ p : Int, (Lit.int .i64 p).wf = true → Maps.has D (.int .i64 p) = (lastI l p).isSome ∧ ∀ k, lastI l p = some k → ∀ z, D.atKey (.int .i64 p) z = .lit (.int .i64 (k : Int))
theorem MapIs.none : MapIs (.map []) [] := fun p _ => ⟨rfl, fun k h => by simp [lastI] at h⟩
theorem isKey (p : Int) (hp : (Lit.int .i64 p).wf = true) : WideAt.IsKeyLit (.int .i64 p) := by
  trivial
theorem MapIs.snoc {D : DataW Unit} {l : List Nd} (h : MapIs D l) (hD : Maps.IsMap D) (n : Nd) (hp : (Lit.int .i64 n.f0).wf = true) : MapIs (D.put (.int .i64 n.f0) (.lit (.int .i64 (l.length : Int)))) (l ++ [n]) := by
  intro q hq
  rw [lastI_snoc]
  by_cases he : n.f0 = q
  · subst he
    rw [if_pos rfl]
    refine ⟨Maps.has_put_same hD (isKey _ hp) _, fun k hk z => ?_⟩
    injection hk with hk
    rw [Maps.atKey_put_same hD (isKey _ hp), hk]
  · have hne : (Lit.int .i64 q : Lit) ≠ Lit.int .i64 n.f0 := fun h => by injection h with _ h; exact he h.symm
    rw [if_neg he, Maps.has_put_other hne]
    refine ⟨(h q hq).1, fun k hk z => ?_⟩
    rw [Maps.atKey_put_other hne]
    exact (h q hq).2 k hk z
theorem MapIs.set {D : DataW Unit} {l : List Nd} (h : MapIs D l) (k : Nat) (n : Nd) (hn : ∀ x, l[k]? = some x → n.f0 = x.f0) : MapIs D (l.set k n) := by
  intro q hq
  rw [lastI_set l k n q hn]
  exact h q hq
end El
end Go.Proofs.YtkoogebfdinbnaaGreat.Q
namespace Go.Proofs.YtkoogebfdinbnaaGreat.Q
open Go.RowKit Go.Proofs.YtkoogebfdinbnaaGreatW.PrintWords Go.Proofs.YtkoogebfdinbnaaGreatW.PrintLast Go.Proofs.YtkoogebfdinbnaaGreatW.Own Go.Proofs.YtkoogebfdinbnaaGreatW.PrintMore
attribute [local go_sem] d6_ d8_ max_two min_two dS_ dR_ d4_ d9_   -- for this text's walks alone
set_option linter.unusedVariables false
set_option linter.unusedSimpArgs false
set_option maxHeartbeats 20000000
set_option maxRecDepth 100000
def BAt (w : World) (B g N : Nat) (l : List El.Nd) (op : List Int) : Prop :=
 ∃ v1 v2 m n D, w.heap[g]? = some (.cells #[v1, v2, .map (some m)] 42 (0, 0)) ∧ Kd.S k32 32 w B (fun k => k < N) v1 l ∧ Kd.R (Kd.int .i64) 3 w B (fun _ => True) v2 op ∧ w.ownsMap Tryz.prog 3 (plainElem (H := Unit) Tryz.prog 3) m n D ∧ n ≤ l.length ∧ El.MapIs D l ∧ B ≤ g ∧ B ≤ m ∧ 0 < B
theorem map_at {P : Program} {k m n : Nat} {R : Value → Option (DataW Unit × List MemPlace)} {D : DataW Unit} {w w1 : World} (h : w.ownsMap P k R m n D) (e : w1.heap[m]? = w.heap[m]?) : w1.ownsMap P k R m n D := by
 obtain ⟨es, clock, hb, r⟩ := h
 exact ⟨es, clock, e.trans hb, r⟩
theorem map_ne {P : Program} {k m n g t : Nat} {R : Value → Option (DataW Unit × List MemPlace)} {D : DataW Unit} {w : World} {cells : Array Value} {fr : Nat × Nat} (h : w.ownsMap P k R m n D) (hb : w.heap[g]? = some (.cells cells t fr)) : m ≠ g := by
 rintro rfl
 obtain ⟨es, clock, hb', r⟩ := h
 rw [hb] at hb'
 cases hb'
theorem BAt.below {w w1 : World} {B g N : Nat} {l : List El.Nd} {op : List Int} (h : BAt w B g N l op) (hb : Below w.heap.size w w1) : BAt w1 B g N l op := by
 obtain ⟨v1, v2, m, n, D, h1, h2, h3, h4, r⟩ := h
 exact ⟨v1, v2, m, n, D, b4_ h1 hb, Kd.S_below h2 hb, Kd.R_below h3 hb, map_at h4 (hb.block m h4.lt), r⟩
theorem BAt.now {w : World} {B g N : Nat} {l : List El.Nd} {op : List Int} (h : BAt w B g N l op) : BAt w B g w.heap.size l op := by
 obtain ⟨v1, v2, m, n, D, h1, h2, r⟩ := h
 exact ⟨v1, v2, m, n, D, h1, Kd.S_mono (Kd.S_bound h2) (fun k hk => hk.2.2.1), r⟩
theorem BAt.ge {w : World} {B g N : Nat} {l : List El.Nd} {op : List Int} (h : BAt w B g N l op) : B ≤ g ∧ g < w.heap.size ∧ 0 < B := by
 obtain ⟨v1, v2, m, n, D, h1, h2, h3, h4, h5, h6, h7, h8, h9⟩ := h
 exact ⟨h7, cT_ h1, h9⟩
def Stay (w w' : World) : Prop := ∀ (k : Nat) (o : Array Value), w.heap[k]? = some (.cells o 45 (0, 0)) → w'.heap[k]? = some (.cells o 45 (0, 0))
theorem Stay.trans {w w1 w2 : World} (h : Stay w w1) (h2 : Stay w1 w2) : Stay w w2 := fun k o hk => h2 k o (h k o hk)
theorem Stay.below {w w1 : World} (hb : Below w.heap.size w w1) : Stay w w1 := fun k o hk => b4_ hk hb
theorem Stay.map {P : Program} {k m n : Nat} {R : Value → Option (DataW Unit × List MemPlace)} {D : DataW Unit} {w w1 : World} (hm : w.ownsMap P k R m n D) (hg : w.grownBy w1 (some m)) : Stay w w1 := fun k o hk => b6_ hk hg (fun h => map_ne hm hk (by injection h with h; exact h.symm))
theorem Stay.row {w w1 : World} {v : Value} {e : Nat} (hty : ∀ k, v.ownBlock = some k → ∃ cells, w.heap[k]? = some (.cells cells e (0, 0))) (he : e ≠ 45) (hg : w.grownBy w1 v.ownBlock) : Stay w w1 := fun k o hk => b6_ hk hg (fun h => by
 obtain ⟨cells, hc⟩ := hty k h.symm
 rw [hk] at hc
 injection hc with hc
 injection hc with _ hc
 exact he hc.symm)
theorem Stay.set {w : World} {g t : Nat} {cells : Array Value} (hb : w.heap[g]? = some (.cells cells t (0, 0))) (ht : t ≠ 45) (i : Nat) (u : Value) : Stay w (w.setCell ⟨g, i, none⟩ u) := fun k o hk => bT_ hk (fun e => by
 have e : k = g := e
 subst e
 rw [hk] at hb
 injection hb with hb
 injection hb with _ hb
 exact ht hb.symm) u
theorem last_at (op : List Int) (h : op ≠ []) : rd op ((op.length : Int) - 1) = El.inner op := by
 unfold rd El.inner
 have hl : op.length ≠ 0 := fun h0 => h (List.eq_nil_of_length_eq_zero h0)
 rw [show ((op.length : Int) - 1).toNat = op.length - 1 from by omega, List.getLast?_eq_getElem?]
 rw [List.getD_eq_getElem?_getD, List.getElem?_eq_getElem (by omega)]
 rfl
theorem cE_.calls (B g N : Nat) (l : List El.Nd) (op : List Int) (w : World) (h : BAt w B g N l op) (hop : op.length ≤ 100000) :
 Calls Tryz.prog 41 #[.pointer (some ⟨g, 0, none⟩)] w fun e w' => e = .returned (.int .i64 (El.inner op)) ∧ aS_ w w' := by
 obtain ⟨v1, v2, m, n, D, h1, h2, h3, _⟩ := h
 obtain ⟨A2, c2, rfl⟩ := Kd.R_slice h3
 have x1 := (aC_ h1 1).trans rfl
 have HC := (Kd.R_reads' h3).2.2
 have hu := Tryz.underlying42
 clear h1 h2 h3
 by_cases ho : op = []
 ·subst ho
  go_enter Tryz.func41, Tryz.ntmps41
  go_wp2
  go_ret
  exact ⟨rfl, aS_.refl _⟩
 have hl : op.length ≠ 0 := fun h0 => ho (List.eq_nil_of_length_eq_zero h0)
 have e1 : ((op.length : Int) == 0) = false := beq_eq_false_iff_ne.mpr (by omega)
 have e1' : (op.length == 0) = false := beq_eq_false_iff_ne.mpr hl
 have ew : wrap64 ((op.length : Int) - 1) = (op.length : Int) - 1 := by unfold wrap64; omega
 obtain ⟨ad, e_, hx0⟩ := Kd.at_int HC ((op.length : Int) - 1) (by omega) (by omega)
 cases e_
 rw [last_at op ho] at hx0
 have ew' : IntKind.i64.wrap ((op.length : Int) - 1) = (op.length : Int) - 1 := by rw [c6_]; exact ew
 have hx1 : w.cell? (ad.add (op.length - 1)) = some (.int .i64 (El.inner op)) := by rw [show ((op.length : Int) - 1).toNat = op.length - 1 from by omega] at hx0; exact hx0
 have p1 := eq_true (show (0 : Int) ≤ (op.length : Int) - 1 by omega)
 have p2 := eq_true (show (op.length : Int) - 1 < (op.length : Int) by omega)
 clear HC
 go_enter Tryz.func41, Tryz.ntmps41
 go_wp2
 go_quiet (fail)
 go_wp2
 go_ret
 exact ⟨rfl, ⟨_, rfl⟩⟩
theorem ndInfo : (Tryz.prog.info? 32).map (fun i => (i.zero, i.size, i.bytes)) = some (some (.agg #[.int .i64 0, .string ⟨#[]⟩, .string ⟨#[]⟩, .slice none 0 0]), 4, 64) := by kernel_rfl
theorem S_map {α : Type} {d : Kd α} {e base : Nat} {ok : Nat → Prop} {w w1 : World} {v : Value} {xs : List α} {P : Program} {k m n : Nat} {R : Value → Option (DataW Unit × List MemPlace)} {D : DataW Unit} (h : Kd.S d e w base ok v xs) (hm : w.ownsMap P k R m n D) (hg : w.grownBy w1 (some m)) : Kd.S d e w1 base ok v xs := by
 refine Kd.S_mono (Kd.S_grown (ok := fun k => ok k ∧ k ≠ m) (Kd.S_mono (Kd.S_bound h) (fun k hk => ⟨hk.1, ?_⟩)) hg (fun k hk h => hk.2 (by injection h))) (fun _ hk => hk.1)
 rintro rfl
 obtain ⟨_, _, _, q, hq, cells, hc⟩ := hk
 exact map_ne hm hc rfl
theorem R_map {α : Type} {d : Kd α} {e base : Nat} {ok : Nat → Prop} {w w1 : World} {v : Value} {xs : List α} {P : Program} {k m n : Nat} {R : Value → Option (DataW Unit × List MemPlace)} {D : DataW Unit} (h : d.R e w base ok v xs) (hm : w.ownsMap P k R m n D) (hg : w.grownBy w1 (some m)) : d.R e w1 base ok v xs := by
 refine Kd.R_mono (Kd.R_grown (ok := fun k => ok k ∧ k ≠ m) (Kd.R_mono (Kd.R_bound h) (fun k hk => ⟨hk.1, ?_⟩)) hg (fun k hk h => hk.2 (by injection h))) (fun _ hk => hk.1)
 rintro rfl
 obtain ⟨_, _, _, q, hq, cells, hc⟩ := hk
 exact map_ne hm hc rfl
theorem map_off {α : Type} {d : Kd α} {e base : Nat} {ok : Nat → Prop} {w : World} {v : Value} {xs : List α} {P : Program} {k m n : Nat} {R : Value → Option (DataW Unit × List MemPlace)} {D : DataW Unit} (hm : w.ownsMap P k R m n D) (h : Kd.S d e w base ok v xs) : some m ≠ v.ownBlock := by
 intro he
 obtain ⟨cells, hc⟩ := Kd.S_typed h m he.symm
 exact map_ne hm hc rfl
theorem node_apart {w : World} {B : Nat} {ok okp : Nat → Prop} {v va : Value} {L : List El.Nd} {xs : List El.Att} (ha : Kd.R k53 53 w B okp va xs) (h2 : Kd.S k32 32 w B ok v L) :
 Kd.R k53 53 w B (fun k => okp k ∧ some k ≠ v.ownBlock) va xs := by
 refine Kd.R_mono (Kd.R_bound ha) (fun k hk => ?_)
 obtain ⟨hok, _, _, q, hq, cells, hc⟩ := hk
 have hq' : q = 53 := by simpa [k53, Kd.iso, Kd.pair, Kd.string, Kd.scalar] using hq
 subst hq'
 refine ⟨hok, fun he => ?_⟩
 obtain ⟨cells', hc'⟩ := Kd.S_typed h2 k he.symm
 rw [hc'] at hc
 injection hc with hc
 injection hc with _ hc
 exact absurd hc (by decide)
theorem int_wf (p : Int) (h0 : -9223372036854775808 ≤ p) (h1 : p ≤ 9223372036854775807) : (Lit.int .i64 p).wf = true := by
 have e1 : IntKind.i64.min = -9223372036854775808 := by decide
 have e2 : IntKind.i64.max = 9223372036854775807 := by decide
 show (decide (IntKind.i64.min ≤ p) && decide (p ≤ IntKind.i64.max)) = true
 rw [e1, e2, Bool.and_eq_true]
 exact ⟨decide_eq_true h0, decide_eq_true h1⟩
theorem inner_range (l : List El.Nd) (op : List Int) (hw : ∀ i ∈ op, 0 ≤ i ∧ i < (l.length : Int)) : -1 ≤ El.inner op ∧ (El.inner op < (l.length : Int) ∨ El.inner op = -1) := by
 unfold El.inner
 cases h : op.getLast? with
 | none => exact ⟨Int.le_refl _, .inr rfl⟩
 | some x =>
  have := hw x (List.mem_of_getLast? h)
  exact ⟨by show -1 ≤ x; omega, .inl this.2⟩
theorem cJ_.full (B g N : Nat) (l : List El.Nd) (op : List Int) (nd : El.Nd) (va : Value) (w : World) (h : BAt w B g N l op) (hl : 2000 ≤ l.length) (hl2 : l.length ≤ 100000) :
 Calls Tryz.prog 39 #[.pointer (some ⟨g, 0, none⟩), .agg #[.int .i64 nd.f0, .string nd.f1, .string nd.f2, va]] w fun e w' => e = .returned (.int .i64 3) ∧ Below w.heap.size w w' := by
 obtain ⟨v1, v2, m, n, D, h1, h2, h3, _⟩ := h
 obtain ⟨A1, c1, rfl⟩ := Kd.S_slice h2
 have x0 := (aC_ (aV_ h1 (.cells #[.int .i64 nd.f0, .string nd.f1, .string nd.f2, va] 32)) 0).trans rfl
 have hu := Tryz.underlying42
 have d1 : decide ((2000 : Int) ≤ (l.length : Int)) = true := decide_eq_true (by omega)
 have HB := aA_.mk (aH_ (Below.refl w.heap.size w) (.cells #[.int .i64 nd.f0, .string nd.f1, .string nd.f2, va] 32))
 clear h1 h2 h3
 go_enter Tryz.func39, Tryz.ntmps39
 go_wp2
 go_ret
 exact ⟨rfl, HB.out⟩
theorem cJ_.room (B g N : Nat) (l : List El.Nd) (op : List Int) (nd : El.Nd) (va : Value) (w : World) (h : BAt w B g N l op) (hN : N ≤ w.heap.size) (ha : Kd.R k53 53 w B (fun k => N ≤ k) va nd.f3) (hl : l.length < 2000) (hop : op.length ≤ 100000) (hin : ∀ i ∈ op, 0 ≤ i ∧ i < (l.length : Int)) :
 Calls Tryz.prog 39 #[.pointer (some ⟨g, 0, none⟩), .agg #[.int .i64 nd.f0, .string nd.f1, .string nd.f2, va]] w fun e w' => e = .returned (.int .i64 0) ∧ BAt w' B g w'.heap.size (l ++ [⟨El.inner op, nd.f1, nd.f2, nd.f3⟩]) op ∧ Below B w w' ∧ Stay w w' := by
 have H := aA_.mk h
 obtain ⟨hgB, hgl, hpos⟩ := h.ge
 obtain ⟨v1, v2, m, n, D, h1, h2, h3, h4, h5, h6, h7, h8, h9⟩ := h
 obtain ⟨A1, c1, rfl⟩ := Kd.S_slice h2
 obtain ⟨A2, c2, rfl⟩ := Kd.R_slice h3
 obtain ⟨A0, c0, rfl⟩ := Kd.R_slice ha
 have x0 := (aC_ (aV_ h1 (.cells #[.int .i64 nd.f0, .string nd.f1, .string nd.f2, .slice A0 nd.f3.length c0] 32)) 0).trans rfl
 have hu := Tryz.underlying42
 have d1 : decide ((2000 : Int) ≤ (l.length : Int)) = false := decide_eq_false (by omega)
 obtain ⟨p, hp⟩ : ∃ p, p = El.inner op := ⟨_, rfl⟩
 have hpr := inner_range l op hin
 rw [← hp] at hpr
 have HP := Lib.hid hp
 have HPR := Lib.hid hpr
 rw [← hp]
 have HN := Lib.hid hN
 have HL := Lib.hid hl
 have HGE := Lib.hid (show B ≤ g ∧ g < w.heap.size ∧ 0 < B ∧ B ≤ m ∧ n ≤ l.length from ⟨hgB, hgl, hpos, h8, h5⟩)
 have H1 := aA_.mk h1
 have H2 := aA_.mk h2
 have H3 := aA_.mk h3
 have H4 := aA_.mk h4
 have H6 := aA_.mk h6
 have HA := aA_.mk ha
 have HB0 := aA_.mk (aH_ (Below.refl w.heap.size w) (.cells #[.int .i64 nd.f0, .string nd.f1, .string nd.f2, .slice A0 nd.f3.length c0] 32))
 have CI := aA_.mk (fun W (hW : Below w.heap.size w W) => cE_.calls B g N l op W (H.out.below hW) hop)
 rw [← hp] at CI
 clear h1 h2 h3 h4 h5 h6 h7 h8 h9 ha hp hpr hgB hgl hpos hN hl hop hin H
 go_enter Tryz.func39, Tryz.ntmps39
 go_wp2_with (first | (go_at_call 41; (with_reducible refine (CI.out _ HB0.out).mono ?_); rintro e w1 ⟨rfl, ⟨nd1, rfl⟩⟩))
 obtain ⟨W, hW⟩ : ∃ W, W = (((w.alloc (.cells #[.int .i64 nd.f0, .string nd.f1, .string nd.f2, .slice A0 nd.f3.length c0] 32)).drewN nd1).setCell ⟨w.heap.size, 0, none⟩ (.int .i64 p)) := ⟨_, rfl⟩
 have hX : W.heap[w.heap.size]? = some (.cells #[.int .i64 p, .string nd.f1, .string nd.f2, .slice A0 nd.f3.length c0] 32 (0, 0)) := by
  rw [hW]
  exact c5_ (aZ_ (heap_alloc_new w (.cells #[.int .i64 nd.f0, .string nd.f1, .string nd.f2, .slice A0 nd.f3.length c0] 32)) nd1) 0 (.int .i64 p)
 have hBW : Below w.heap.size w W := by
  rw [hW]
  exact aG_ (aF_ HB0.out nd1) (Nat.le_refl _)
 rw [← hW]
 clear hW HB0 CI
 have g1 := aA_.mk (b4_ H1.out hBW)
 have g2 := aA_.mk (Kd.S_below H2.out hBW)
 have g3 := aA_.mk (Kd.R_below H3.out hBW)
 have g4 := aA_.mk (map_at H4.out (hBW.block m H4.out.lt))
 have gA := aA_.mk (Kd.R_below HA.out hBW)
 have HX := aA_.mk hX
 have HBW := aA_.mk (hBW.mono (Nat.le_trans HGE.out.1 (Nat.le_of_lt HGE.out.2.1)))
 have HSZ := Lib.hid hBW.size
 have HST := aA_.mk (Stay.below hBW)
 clear H1 H2 H3 H4 HA hX hBW
 have x0 := (aC_ g1.out 0).trans rfl
 have x2 := (aC_ g1.out 2).trans rfl
 have y0 := (aC_ HX.out 0).trans rfl
 have hwp := int_wf p (by have := HPR.out; omega) (by have := HPR.out; have := HL.out; omega)
 have hwl := int_wf (l.length : Int) (by omega) (by have := HL.out; omega)
 have hn : n < maxLen := by have := HGE.out.2.2.2.2; have := HL.out; unfold maxLen; omega
 have HWL := Lib.hid hwl
 have HWP := Lib.hid hwp
 go_still_tail 11, (by kernel_rfl)
 go_wp2_with (first | (at_mapUpdate; go_loud (refine wpList_mapUpdate_own _ rfl _ _ _ 40 rfl 3 3 (Maps.int_keyed Tryz.underlying3) Tryz.underlying40 _ m n D rfl (World.ownsMap.drew g4.out) hn _ _ (.int .i64 p) rfl rfl (Maps.keyOf_int_mk Tryz.underlying3 hwp) (.lit (.int .i64 (l.length : Int))) [] (plainElem_int Tryz.underlying3 hwl) ?_; intro w1 hown1 hgrow1)))
 have hmg := map_ne g4.out g1.out
 have k1 := aA_.mk (b6_ (a0_ g1.out) hgrow1 (fun h => hmg (by injection h with h; exact h.symm)))
 have kX := aA_.mk (b6_ (a0_ HX.out) hgrow1 (fun h => map_ne g4.out HX.out (by injection h with h; exact h.symm)))
 have k2 := aA_.mk (S_map (Kd.S_drew g2.out) (World.ownsMap.drew g4.out) hgrow1)
 have k3 := aA_.mk (R_map (Kd.R_drew g3.out) (World.ownsMap.drew g4.out) hgrow1)
 have kA := aA_.mk (node_apart (ok := fun k => k < N) (R_map (Kd.R_drew gA.out) (World.ownsMap.drew g4.out) hgrow1) k2.out)
 have hWB : B ≤ W.heap.size := by have := HSZ.out; have := HGE.out; omega
 have kB := aA_.mk (Below.grown (b5_ HBW.out) hgrow1 hWB (fun k hk => by injection hk with hk; rw [← hk]; exact HGE.out.2.2.2.1))
 have k4 := aA_.mk hown1
 have kS := aA_.mk (HST.out.trans (show Stay W w1 from Stay.map (w := W.drew) (World.ownsMap.drew g4.out) hgrow1))
 clear HST
 have HMG := Lib.hid hmg
 have hw1 : W.heap.size ≤ w1.heap.size := by obtain ⟨_, _, _, hs_, _⟩ := hgrow1; exact hs_
 have HW1 := Lib.hid (show w.heap.size ≤ w1.heap.size ∧ B ≤ w1.heap.size from ⟨Nat.le_trans HSZ.out hw1, Nat.le_trans hWB hw1⟩)
 have HMP := aA_.mk (El.MapIs.snoc H6.out (World.ownsMap.isMap g4.out) ⟨p, nd.f1, nd.f2, nd.f3⟩ HWP.out)
 clear hgrow1 hown1 hmg hw1 hWB g1 g2 g3 g4 gA HX HBW H6 hwp hwl hn x0 x2 y0 HSZ
 clear W
 have x0 := (aC_ k1.out 0).trans rfl
 have z0 := aE_ k1.out 0
 have x0a := fun o => (aC_ (aV_ k1.out o) 0).trans rfl
 have y0 := (aC_ kX.out 0).trans rfl
 have y1 := (aC_ kX.out 1).trans rfl
 have y2 := (aC_ kX.out 2).trans rfl
 have y3 := (aC_ kX.out 3).trans rfl
 have hll := HL.out
 go_region_law (refine Kd.S_append_step k32 (w0 := w) (W := w1.drew) B (by rfl) (.tmp 29) (.tmp 31) 23 32 _ 64 rfl Tryz.underlying23 ndInfo rfl (by decide) (by decide) (.slice A1 l.length c1) l ⟨p, nd.f1, nd.f2, nd.f3⟩ [.int .i64 p, .string nd.f1, .string nd.f2, .slice A0 nd.f3.length c0] (fun k => True) (fun k => N ≤ k ∧ some k ≠ (Value.slice A1 l.length c1).ownBlock) rfl rfl (k32_mkM _ _ _ ⟨p, nd.f1, nd.f2, nd.f3⟩ (Kd.R_drew kA.out)) (fun k hk => ⟨trivial, hk.2⟩) (fun _ _ => trivial) (Kd.S_mono (Kd.S_drew k2.out) (fun k hk => ⟨trivial, fun h => by have := h.1; omega⟩)) (b5_ kB.out) HW1.out.2 (by omega) ?_; intro v1 w2 r1 b1 gg at1; obtain ⟨A3, c3, rfl⟩ := Kd.S_slice r1; have R1 := aA_.mk r1; have B1 := aA_.mk b1; have G1 := aA_.mk (b6_ (a0_ k1.out) gg (Kd.S_ne k2.out k1.out (by decide))); have G3 := aA_.mk (Kd.R_over' (Kd.R_drew k3.out) (Kd.S_typed (Kd.S_drew k2.out)) (by decide) gg); have G4 := aA_.mk (World.ownsMap.kept (World.ownsMap.drew k4.out) gg (map_off k4.out k2.out)); have GS := aA_.mk (kS.out.trans (show Stay w1 w2 from Stay.row (w := w1.drew) (Kd.S_typed (Kd.S_drew k2.out)) (by decide) gg)); clear r1 b1 gg at1; have zz2 := aE_ G1.out 0; have yy2 := (aC_ G1.out 0).trans rfl)
 all_goals
  go_wp2
  go_ret
  have hGE := HGE.out
  have G2 := c5_ G1.out 0 (.slice A3 (l ++ [(⟨p, nd.f1, nd.f2, nd.f3⟩ : El.Nd)]).length c3)
  have R2 := Kd.S_set R1.out G1.out (by decide) 0 (.slice A3 (l ++ [(⟨p, nd.f1, nd.f2, nd.f3⟩ : El.Nd)]).length c3)
  have R3 := Kd.R_set G3.out G1.out (by decide) 0 (.slice A3 (l ++ [(⟨p, nd.f1, nd.f2, nd.f3⟩ : El.Nd)]).length c3)
  have B2 := B1.out.setCell (p := ⟨g, 0, none⟩) hGE.1 (.slice A3 (l ++ [(⟨p, nd.f1, nd.f2, nd.f3⟩ : El.Nd)]).length c3)
  have M2 := World.ownsMap.setCell G4.out (a := ⟨g, 0, none⟩) HMG.out (.slice A3 (l ++ [(⟨p, nd.f1, nd.f2, nd.f3⟩ : El.Nd)]).length c3)
  have el : (l ++ [(⟨p, nd.f1, nd.f2, nd.f3⟩ : El.Nd)]).length = l.length + 1 := by simp
  rw [el] at G2 R2 B2 R3 M2
  exact ⟨rfl, ⟨_, _, m, n + 1, _, by simpa using G2, Kd.S_mono (Kd.S_bound R2) (fun k hk => hk.2.2.1), R3, M2, by rw [el]; omega, HMP.out, hGE.1, hGE.2.2.2.1, hGE.2.2.1⟩, B2, GS.out.trans (Stay.set G1.out (by decide) 0 _)⟩
theorem cloneInfo : (Tryz.prog.info? 53).map (fun i => (i.zero, i.size, i.bytes)) = some (some (.agg #[.string ⟨#[]⟩, .string ⟨#[]⟩]), 2, 32) := by kernel_rfl
theorem equalIn_slice {P : Program} (w : World) (d : Nat) (t e : TypeId) (a : Option Addr) (n c : Nat) (h : P.underlying t = some (.slice e)) : (Op.equalIn (d + 1) t (.slice a n c) (.slice none 0 0)).run P w = .ok a.isNone w := by
 cases a <;> simp [Op.equalIn, run_underlying h]
theorem eql_slice {P : Program} (w : World) (t e : TypeId) (a : Option Addr) (n c : Nat) (h : P.underlying t = some (.slice e)) : (binOp .eql t (.slice a n c) (.slice none 0 0)).run P w = .ok (.bool a.isNone) w := by
 simp only [binOp]
 simp [Op.equal, Op.maxDepth, equalIn_slice w 9999 t e a n c h]
theorem api_Attr_40.calls (A0 : Option Addr) (c0 : Nat) (l0 : List S53) (w : World) (hr0 : Kd.C k53 w A0 l0.length l0) (hl : l0.length ≤ 1000000) :
 Calls Tryz.prog 40 #[.slice A0 l0.length c0] w fun e w' => ∃ v0_ : Value, e = .returned v0_ ∧ Kd.R k53 53 w' w.heap.size (fun _ => True) v0_ l0 ∧ Below w.heap.size w w' := by
 have HR0 := aA_.mk hr0
 clear hr0
 go_enter Tryz.func40, Tryz.ntmps40
 cases A0 with
 | none =>
  have hq : (binOp .eql 30 (.slice none l0.length c0) (.slice none 0 0)).run Tryz.prog w = .ok (.bool true) w := eql_slice w 30 53 none l0.length c0 Tryz.underlying30
  have h0 : l0 = [] := by
   refine List.eq_nil_of_length_eq_zero (Classical.byContradiction fun h => ?_)
   obtain ⟨ad, h, _⟩ := HR0.out.2.2 (by omega)
   cases h
  subst h0
  have hq2 : (binOp .eql 30 (.slice none 0 c0) (.slice none 0 0)).run Tryz.prog w = .ok (.bool true) w := hq
  go_wp2
  go_ret
  exact ⟨_, rfl, Kd.R_nil _ _ _ _ _, Below.refl _ _⟩
 | some ad =>
  have hq : (binOp .eql 30 (.slice (some ad) l0.length c0) (.slice none 0 0)).run Tryz.prog w = .ok (.bool false) w := eql_slice w 30 53 (some ad) l0.length c0 Tryz.underlying30
  have hlt : w.heap.size ≤ (w.alloc (.cells #[] 53)).heap.size := (aH_ (Below.refl _ w) _).size
  have hX : Kd.R k53 53 (w.alloc (.cells #[] 53)) w.heap.size (fun _ => True) (.slice (some ⟨w.heap.size, 0, none⟩) 0 0) [] :=
   ⟨fun _ _ => trivial, [], World.ownsRow_lit w #[] 0 (Nat.le_refl _) (Nat.zero_le _) rfl, Reps.none _ _⟩
  have HX := aA_.mk hX
  have HB := aA_.mk (aH_ (Below.refl w.heap.size w) (.cells #[] 53))
  have HC := aA_.mk (Kd.C_below HR0.out HB.out)
  clear hX
  go_wp2_with (first | (at_builtin; go_loud (refine Kd.R_append_rows k53 (w0 := w) w.heap.size rfl _ _ 30 53 _ 32 rfl Tryz.underlying30 cloneInfo rfl (by decide) (by decide) _ [] l0 (some ad) l0.length c0 (fun _ => True) (fun _ => False) rfl rfl HX.out HC.out (fun x cs h => by obtain rfl := k53_open h; exact k53_mkM _ _ _ x) (fun _ h => h.elim) (fun _ _ => trivial) HB.out hlt (by simp only [List.length_nil]; omega) ?_; intro v1 w1 hr1 hb1 _ _)))
  go_ret
  exact ⟨_, rfl, by simpa using hr1, hb1⟩
theorem cY_ (s : ByteArray) : s.toList.isEmpty = decide (s = El.nul) := by
 rw [Bool.eq_iff_iff, List.isEmpty_iff, decide_eq_true_eq, toList_data]
 constructor
 ·intro h
  cases s with | mk d => cases d with | mk l => exact congrArg (fun x : List UInt8 => (⟨⟨x⟩⟩ : ByteArray)) h
 ·rintro rfl; rfl
theorem intInfo : (Tryz.prog.info? 3).map (fun i => (i.zero, i.size, i.bytes)) = some (some (.int .i64 0), 1, 8) := by kernel_rfl
theorem c7_.early (B g N : Nat) (l : List El.Nd) (op : List Int) (t : El.Tok) (va : Value) (r : Int) (w : World) (h : BAt w B g N l op) (hl : l.length ≤ 100000) (hop : op.length ≤ 100000)
 (hr : (if t.f1 = El.nul then some (5 : Int) else if op = [] ∧ l ≠ [] then some 6 else if 20 ≤ op.length then some 7 else none) = some r) :
 Calls Tryz.prog 25 #[.pointer (some ⟨g, 0, none⟩), .agg #[.int .i64 t.f0, .string t.f1, .string t.f2, va, .bool t.f4]] w fun e w' => e = .returned (.int .i64 r) ∧ Below w.heap.size w w' := by
 obtain ⟨v1, v2, m, n, D, h1, h2, h3, _⟩ := h
 obtain ⟨A1, c1, rfl⟩ := Kd.S_slice h2
 obtain ⟨A2, c2, rfl⟩ := Kd.R_slice h3
 obtain ⟨W, hW⟩ : ∃ W, W = w.alloc (.cells #[.int .i64 t.f0, .string t.f1, .string t.f2, va, .bool t.f4] 45) := ⟨_, rfl⟩
 have x0 := (aC_ (aV_ h1 (.cells #[.int .i64 t.f0, .string t.f1, .string t.f2, va, .bool t.f4] 45)) 0).trans rfl
 have x1 := (aC_ (aV_ h1 (.cells #[.int .i64 t.f0, .string t.f1, .string t.f2, va, .bool t.f4] 45)) 1).trans rfl
 have y1 := (aC_ (heap_alloc_new w (.cells #[.int .i64 t.f0, .string t.f1, .string t.f2, va, .bool t.f4] 45)) 1).trans rfl
 have hu := Tryz.underlying42
 have ht := Tryz.underlying45
 have HB := aA_.mk (aH_ (Below.refl w.heap.size w) (.cells #[.int .i64 t.f0, .string t.f1, .string t.f2, va, .bool t.f4] 45))
 have s1 := cY_ t.f1
 clear h1 h2 h3 hW
 go_enter Tryz.func25, Tryz.ntmps25
 by_cases c1_ : t.f1 = El.nul
 ·rw [if_pos c1_] at hr
  obtain rfl := Option.some.inj hr
  rw [decide_eq_true c1_] at s1
  clear c1_ hr
  go_wp2
  go_ret
  exact ⟨rfl, HB.out⟩
 rw [if_neg c1_] at hr
 rw [decide_eq_false c1_] at s1
 by_cases c2_ : op = [] ∧ l ≠ []
 ·rw [if_pos c2_] at hr
  obtain rfl := Option.some.inj hr
  obtain ⟨rfl, c3_⟩ := c2_
  have hll : l.length ≠ 0 := fun h => c3_ (List.eq_nil_of_length_eq_zero h)
  have d1 : decide ((0 : Int) < (l.length : Int)) = true := decide_eq_true (by omega)
  have d2 : decide (0 < l.length) = true := decide_eq_true (by omega)
  clear c1_ c3_ hr hll
  go_wp2
  go_ret
  exact ⟨rfl, HB.out⟩
 rw [if_neg c2_] at hr
 by_cases c4_ : 20 ≤ op.length
 rotate_left
 ·rw [if_neg c4_] at hr
  cases hr
 rw [if_pos c4_] at hr
 obtain rfl := Option.some.inj hr
 have d0 : ((op.length : Int) == 0) = false := beq_eq_false_iff_ne.mpr (by omega)
 have d0' : (op.length == 0) = false := beq_eq_false_iff_ne.mpr (by omega)
 have d1 : decide ((20 : Int) ≤ (op.length : Int)) = true := decide_eq_true (by omega)
 have d2 : decide (20 ≤ op.length) = true := decide_eq_true (by omega)
 clear c1_ c2_ hr c4_
 go_wp2
 go_ret
 exact ⟨rfl, HB.out⟩
theorem map_offR {α : Type} {d : Kd α} {e base : Nat} {ok : Nat → Prop} {w : World} {v : Value} {xs : List α} {P : Program} {k m n : Nat} {R : Value → Option (DataW Unit × List MemPlace)} {D : DataW Unit} (hm : w.ownsMap P k R m n D) (h : d.R e w base ok v xs) : some m ≠ v.ownBlock := by
 intro he
 obtain ⟨cells, hc⟩ := Kd.R_typed h m he.symm
 exact map_ne hm hc rfl
theorem c7_.full (B g N : Nat) (l : List El.Nd) (op : List Int) (t : El.Tok) (A3 : Option Addr) (c3 : Nat) (w : World) (h : BAt w B g N l op) (hc3 : Kd.C k53 w A3 t.f3.length t.f3) (hlen : t.f3.length ≤ 1000000) (hl : 2000 ≤ l.length) (hl2 : l.length ≤ 100000) (hop : op.length < 20) (hin : ∀ i ∈ op, 0 ≤ i ∧ i < (l.length : Int)) (hn : t.f1 ≠ El.nul) (hroot : ¬ (op = [] ∧ l ≠ [])) :
 Calls Tryz.prog 25 #[.pointer (some ⟨g, 0, none⟩), .agg #[.int .i64 t.f0, .string t.f1, .string t.f2, .slice A3 t.f3.length c3, .bool t.f4]] w fun e w' => e = .returned (.int .i64 3) ∧ Below w.heap.size w w' := by
 have H := aA_.mk h
 obtain ⟨hgB, hgl, hpos⟩ := h.ge
 have HGE := Lib.hid (show B ≤ g ∧ g < w.heap.size ∧ 0 < B from ⟨hgB, hgl, hpos⟩)
 obtain ⟨v1, v2, m, n, D, h1, h2, h3, _⟩ := h
 obtain ⟨A1, c1, rfl⟩ := Kd.S_slice h2
 obtain ⟨A2, c2, rfl⟩ := Kd.R_slice h3
 obtain ⟨W, hW⟩ : ∃ W, W = w.alloc (.cells #[.int .i64 t.f0, .string t.f1, .string t.f2, .slice A3 t.f3.length c3, .bool t.f4] 45) := ⟨_, rfl⟩
 have hX : W.heap[w.heap.size]? = some (.cells #[.int .i64 t.f0, .string t.f1, .string t.f2, .slice A3 t.f3.length c3, .bool t.f4] 45 (0, 0)) := by rw [hW]; exact heap_alloc_new w _
 have hBW : Below w.heap.size w W := by rw [hW]; exact aH_ (Below.refl _ _) _
 have x0 := (aC_ (b4_ h1 hBW) 0).trans rfl
 have x1 := (aC_ (b4_ h1 hBW) 1).trans rfl
 have y1 := (aC_ hX 1).trans rfl
 have y3 := (aC_ hX 3).trans rfl
 rw [hW] at x0 x1 y1 y3
 have hu := Tryz.underlying42
 have ht := Tryz.underlying45
 have hu2 := Tryz.underlying32
 have s1 := cY_ t.f1
 rw [decide_eq_false hn] at s1
 have d4 : decide ((20 : Int) ≤ (op.length : Int)) = false := decide_eq_false (by omega)
 have d4' : decide (20 ≤ op.length) = false := decide_eq_false (by omega)
 have HB := aA_.mk hBW
 have HX := aA_.mk hX
 have HW := aA_.mk ((H.out.now).below hBW).now
 have HC := aA_.mk (Kd.C_below hc3 hBW)
 have HIN := Lib.hid hin
 have HL := Lib.hid (And.intro hl hl2)
 have HOP := Lib.hid hop
 have HWS := Lib.hid (show w.heap.size ≤ W.heap.size ∧ B ≤ W.heap.size from ⟨hBW.size, by have := hBW.size; omega⟩)
 have WS := aA_.mk hW
 clear h1 h2 h3 hX hBW H hc3 hin hn hgB hgl hpos hl hl2
 go_enter Tryz.func25, Tryz.ntmps25
 have key : (((op.length : Int) == 0) = true ∧ (op.length == 0) = true ∧ decide ((0 : Int) < (l.length : Int)) = false ∧ decide (0 < l.length) = false) ∨ (((op.length : Int) == 0) = false ∧ (op.length == 0) = false) := by
  by_cases h0 : op = []
  ·left
   have hl0 : l = [] := Classical.byContradiction fun h => hroot ⟨h0, h⟩
   subst h0; subst hl0
   exact ⟨rfl, rfl, rfl, rfl⟩
  ·right
   exact ⟨beq_eq_false_iff_ne.mpr (fun h => h0 (List.eq_nil_of_length_eq_zero (by omega))), beq_eq_false_iff_ne.mpr (fun h => h0 (List.eq_nil_of_length_eq_zero h))⟩
 clear hroot hW hop
 rcases key with ⟨k1, k1', k2, k2'⟩ | ⟨k1, k1'⟩
 ·go_wp2
  rw [← WS.out]
  clear x0 x1 y1 y3
  have y1 := (aC_ HX.out 1).trans rfl
  have y3 := (aC_ HX.out 3).trans rfl
  go_region_law (first | (go_simp; go_at_call 40; (with_reducible refine (api_Attr_40.calls A3 c3 t.f3 _ (Kd.C_drew HC.out) hlen).mono ?_); rintro e w1 ⟨v, rfl, hr, hb⟩; obtain ⟨Av, cv, rfl⟩ := Kd.R_slice hr; have B1 := aA_.mk (BAt.below (HW.out.below (b5_ (Below.refl _ _))) hb); have RA := aA_.mk (Kd.R_lower (Kd.R_mono (ok' := fun k => W.heap.size ≤ k) (Kd.R_bound hr) (fun k hk => hk.2.1)) HWS.out.2); have X1 := aA_.mk (b4_ (a0_ HX.out) hb); have N1 := aA_.mk (show W.heap.size ≤ w1.heap.size from hb.size); have BB1 := aA_.mk (show Below w.heap.size w w1 from (b5_ HB.out).trans (hb.mono HWS.out.1)); clear hr hb; have z1 := (aC_ X1.out 1).trans rfl) | (go_simp; go_at_call 39; (with_reducible refine (cJ_.full B g W.heap.size l op (⟨0, t.f1, (⟨#[]⟩ : ByteArray), t.f3⟩ : El.Nd) _ _ B1.out HL.out.1 HL.out.2).mono ?_); rintro e w2 ⟨rfl, hb2⟩; have B2 := aA_.mk (bG_ BB1.out hb2); clear hb2))
  all_goals
   go_wp2
   go_ret
   exact ⟨rfl, B2.out⟩
 ·go_wp2
  rw [← WS.out]
  clear x0 x1 y1 y3
  have y1 := (aC_ HX.out 1).trans rfl
  have y3 := (aC_ HX.out 3).trans rfl
  go_region_law (first | (go_simp; go_at_call 40; (with_reducible refine (api_Attr_40.calls A3 c3 t.f3 _ (Kd.C_drew HC.out) hlen).mono ?_); rintro e w1 ⟨v, rfl, hr, hb⟩; obtain ⟨Av, cv, rfl⟩ := Kd.R_slice hr; have B1 := aA_.mk (BAt.below (HW.out.below (b5_ (Below.refl _ _))) hb); have RA := aA_.mk (Kd.R_lower (Kd.R_mono (ok' := fun k => W.heap.size ≤ k) (Kd.R_bound hr) (fun k hk => hk.2.1)) HWS.out.2); have X1 := aA_.mk (b4_ (a0_ HX.out) hb); have N1 := aA_.mk (show W.heap.size ≤ w1.heap.size from hb.size); have BB1 := aA_.mk (show Below w.heap.size w w1 from (b5_ HB.out).trans (hb.mono HWS.out.1)); clear hr hb; have z1 := (aC_ X1.out 1).trans rfl) | (go_simp; go_at_call 39; (with_reducible refine (cJ_.full B g W.heap.size l op (⟨0, t.f1, (⟨#[]⟩ : ByteArray), t.f3⟩ : El.Nd) _ _ B1.out HL.out.1 HL.out.2).mono ?_); rintro e w2 ⟨rfl, hb2⟩; have B2 := aA_.mk (bG_ BB1.out hb2); clear hb2))
  all_goals
   go_wp2
   go_ret
   exact ⟨rfl, B2.out⟩
theorem c7_.room (B g N : Nat) (l : List El.Nd) (op : List Int) (t : El.Tok) (A3 : Option Addr) (c3 : Nat) (w : World) (h : BAt w B g N l op) (hc3 : Kd.C k53 w A3 t.f3.length t.f3) (hlen : t.f3.length ≤ 1000000) (hl : l.length < 2000) (hl2 : l.length ≤ 100000) (hop : op.length < 20) (hin : ∀ i ∈ op, 0 ≤ i ∧ i < (l.length : Int)) (hn : t.f1 ≠ El.nul) (hroot : ¬ (op = [] ∧ l ≠ [])) :
 Calls Tryz.prog 25 #[.pointer (some ⟨g, 0, none⟩), .agg #[.int .i64 t.f0, .string t.f1, .string t.f2, .slice A3 t.f3.length c3, .bool t.f4]] w fun e w' => e = .returned (.int .i64 0) ∧ BAt w' B g w'.heap.size (l ++ [⟨El.inner op, t.f1, El.nul, t.f3⟩]) (if t.f4 = true then op else op ++ [(l.length : Int)]) ∧ Below B w w' := by
 obtain ⟨op', hop'⟩ : ∃ op', op' = if t.f4 = true then op else op ++ [(l.length : Int)] := ⟨_, rfl⟩
 rw [← hop']
 have HO' := Lib.hid hop'
 clear hop'
 have H := aA_.mk h
 obtain ⟨hgB, hgl, hpos⟩ := h.ge
 have HGE := Lib.hid (show B ≤ g ∧ g < w.heap.size ∧ 0 < B from ⟨hgB, hgl, hpos⟩)
 obtain ⟨v1, v2, m, n, D, h1, h2, h3, _⟩ := h
 obtain ⟨A1, c1, rfl⟩ := Kd.S_slice h2
 obtain ⟨A2, c2, rfl⟩ := Kd.R_slice h3
 obtain ⟨W, hW⟩ : ∃ W, W = w.alloc (.cells #[.int .i64 t.f0, .string t.f1, .string t.f2, .slice A3 t.f3.length c3, .bool t.f4] 45) := ⟨_, rfl⟩
 have hX : W.heap[w.heap.size]? = some (.cells #[.int .i64 t.f0, .string t.f1, .string t.f2, .slice A3 t.f3.length c3, .bool t.f4] 45 (0, 0)) := by rw [hW]; exact heap_alloc_new w _
 have hBW : Below w.heap.size w W := by rw [hW]; exact aH_ (Below.refl _ _) _
 have x0 := (aC_ (b4_ h1 hBW) 0).trans rfl
 have x1 := (aC_ (b4_ h1 hBW) 1).trans rfl
 have y1 := (aC_ hX 1).trans rfl
 have y3 := (aC_ hX 3).trans rfl
 rw [hW] at x0 x1 y1 y3
 have hu := Tryz.underlying42
 have ht := Tryz.underlying45
 have hu2 := Tryz.underlying32
 have s1 := cY_ t.f1
 rw [decide_eq_false hn] at s1
 have d4 : decide ((20 : Int) ≤ (op.length : Int)) = false := decide_eq_false (by omega)
 have d4' : decide (20 ≤ op.length) = false := decide_eq_false (by omega)
 have HB := aA_.mk hBW
 have HX := aA_.mk hX
 have HW := aA_.mk ((H.out.now).below hBW).now
 have HC := aA_.mk (Kd.C_below hc3 hBW)
 have HIN := Lib.hid hin
 have HL := Lib.hid (And.intro hl hl2)
 have HOP := Lib.hid hop
 have HWS := Lib.hid (show w.heap.size ≤ W.heap.size ∧ B ≤ W.heap.size from ⟨hBW.size, by have := hBW.size; omega⟩)
 have WS := aA_.mk hW
 clear h1 h2 h3 hX hBW H hc3 hin hn hgB hgl hpos hl hl2
 go_enter Tryz.func25, Tryz.ntmps25
 have key : (((op.length : Int) == 0) = true ∧ (op.length == 0) = true ∧ decide ((0 : Int) < (l.length : Int)) = false ∧ decide (0 < l.length) = false) ∨ (((op.length : Int) == 0) = false ∧ (op.length == 0) = false) := by
  by_cases h0 : op = []
  ·left
   have hl0 : l = [] := Classical.byContradiction fun h => hroot ⟨h0, h⟩
   subst h0; subst hl0
   exact ⟨rfl, rfl, rfl, rfl⟩
  ·right
   exact ⟨beq_eq_false_iff_ne.mpr (fun h => h0 (List.eq_nil_of_length_eq_zero (by omega))), beq_eq_false_iff_ne.mpr (fun h => h0 (List.eq_nil_of_length_eq_zero h))⟩
 clear hroot hW hop
 rcases key with ⟨k1, k1', k2, k2'⟩ | ⟨k1, k1'⟩
 ·go_wp2
  rw [← WS.out]
  clear x0 x1 y1 y3
  have y1 := (aC_ HX.out 1).trans rfl
  have y3 := (aC_ HX.out 3).trans rfl
  go_region_law (first | (go_simp; go_at_call 40; (with_reducible refine (api_Attr_40.calls A3 c3 t.f3 _ (Kd.C_drew HC.out) hlen).mono ?_); rintro e w1 ⟨v, rfl, hr, hb⟩; obtain ⟨Av, cv, rfl⟩ := Kd.R_slice hr; have B1 := aA_.mk (BAt.below (HW.out.below (b5_ (Below.refl _ _))) hb); have RA := aA_.mk (Kd.R_lower (Kd.R_mono (ok' := fun k => W.heap.size ≤ k) (Kd.R_bound hr) (fun k hk => hk.2.1)) HWS.out.2); have X1 := aA_.mk (b4_ (a0_ HX.out) hb); have N1 := aA_.mk (show W.heap.size ≤ w1.heap.size from hb.size); have BB1 := aA_.mk (show Below w.heap.size w w1 from (b5_ HB.out).trans (hb.mono HWS.out.1)); clear hr hb; have z1 := (aC_ X1.out 1).trans rfl) | (go_simp; go_at_call 39; (with_reducible refine (cJ_.room B g W.heap.size l op (⟨0, t.f1, (⟨#[]⟩ : ByteArray), t.f3⟩ : El.Nd) _ _ B1.out N1.out RA.out HL.out.1 (by have := HOP.out; omega) HIN.out).mono ?_); rintro e w2 ⟨rfl, hbt, hb2, hS⟩; have T2 := aA_.mk hbt; have B2 := aA_.mk (show Below B w w2 from (BB1.out.mono (Nat.le_of_lt (Nat.lt_of_le_of_lt HGE.out.1 HGE.out.2.1))).trans hb2); have X2 := aA_.mk (hS _ _ X1.out); have z4 := (aC_ X2.out 4).trans rfl; clear hbt hb2 hS))
  all_goals
   cases hf : t.f4 with
   | true =>
    rw [hf] at z4
    go_wp2
    go_ret
    have ho := HO'.out
    rw [hf, if_pos rfl] at ho
    rw [ho]
    exact ⟨rfl, T2.out, B2.out⟩
   | false =>
    rw [hf] at z4
    obtain ⟨l2, hl2⟩ : ∃ l2, l2 = l ++ [(⟨El.inner op, t.f1, El.nul, t.f3⟩ : El.Nd)] := ⟨_, rfl⟩
    have hlen2 : l2.length = l.length + 1 := by rw [hl2]; simp
    have hT2 : BAt w2 B g w2.heap.size l2 op := by rw [hl2]; exact T2.out
    obtain ⟨v1, v2, m', n', D', h1, h2, h3, h4, h5, h6, h7, h8, h9⟩ := hT2
    obtain ⟨A1', c1', rfl⟩ := Kd.S_slice h2
    obtain ⟨A2', c2', rfl⟩ := Kd.R_slice h3
    have hll := HL.out
    have hoo := HOP.out
    have ew : wrap64 ((l2.length : Int) - 1) = (l.length : Int) := by unfold wrap64; omega
    have ew' : IntKind.i64.wrap ((l2.length : Int) - 1) = (l.length : Int) := by rw [c6_]; exact ew
    have hmg := map_ne h4 h1
    have HL2 := Lib.hid hl2
    have HN2 := Lib.hid (And.intro h5 hlen2)
    have HH := Lib.hid (And.intro h7 (And.intro h8 (And.intro h9 hmg)))
    have k1 := aA_.mk h1
    have k2 := aA_.mk h2
    have k3 := aA_.mk h3
    have k4 := aA_.mk h4
    have k6 := aA_.mk h6
    clear h1 h2 h3 h4 h5 h6 h7 h8 h9 hmg hl2 hlen2 T2
    (try rw [hf])
    have x0 := (aC_ k1.out 0).trans rfl
    have x1 := (aC_ k1.out 1).trans rfl
    have zf := aE_ k1.out 1
    have x1a := fun o => (aC_ (aV_ k1.out o) 1).trans rfl
    have hw2 : B ≤ w2.heap.size := by have := cT_ k1.out; have := HH.out.1; omega
    go_wp2
    go_region_law (refine Kd.R_append_step (Kd.int .i64) (w0 := w) (W := w2.drew) B (by rfl) (.tmp 50) (.tmp 57) 35 3 _ 8 rfl Tryz.underlying35 intInfo rfl (by decide) (by decide) (.slice A2' op.length c2') op (l.length : Int) [.int .i64 (l.length : Int)] (fun _ => True) (fun _ => False) rfl rfl rfl (fun _ h => h.elim) (fun _ _ => trivial) (Kd.R_drew k3.out) (b5_ B2.out) hw2 (by omega) ?_; intro v3 w3 r1 b1 gg at1; obtain ⟨A4, c4, rfl⟩ := Kd.R_slice r1; have R1 := aA_.mk r1; have BB3 := aA_.mk b1; have G1 := aA_.mk (b6_ (a0_ k1.out) gg (Kd.R_ne (Kd.R_drew k3.out) (a0_ k1.out) (by decide))); have G2 := aA_.mk (Kd.S_over' (Kd.S_drew k2.out) (Kd.R_typed (Kd.R_drew k3.out)) (by decide) gg); have G4 := aA_.mk (World.ownsMap.kept (World.ownsMap.drew k4.out) gg (map_offR (World.ownsMap.drew k4.out) (Kd.R_drew k3.out))); clear r1 b1 gg at1; have zz := aE_ G1.out 1; have yy := (aC_ G1.out 1).trans rfl)
    all_goals
     go_wp2
     go_ret
     have hH := HH.out
     have P1 := c5_ G1.out 1 (.slice A4 (op ++ [(l.length : Int)]).length c4)
     have P2 := Kd.S_set G2.out G1.out (by decide) 1 (.slice A4 (op ++ [(l.length : Int)]).length c4)
     have P3 := Kd.R_set R1.out G1.out (by decide) 1 (.slice A4 (op ++ [(l.length : Int)]).length c4)
     have PB := BB3.out.setCell (p := ⟨g, 1, none⟩) hH.1 (.slice A4 (op ++ [(l.length : Int)]).length c4)
     have PM := World.ownsMap.setCell G4.out (a := ⟨g, 1, none⟩) hH.2.2.2 (.slice A4 (op ++ [(l.length : Int)]).length c4)
     have el : (op ++ [(l.length : Int)]).length = op.length + 1 := by simp
     rw [el] at P1 P2 PB P3 PM
     have ho := HO'.out
     rw [hf, if_neg nF] at ho
     rw [← HL2.out, ho]
     exact ⟨rfl, ⟨_, _, m', n', _, by simpa using P1, Kd.S_mono (Kd.S_bound P2) (fun k hk => hk.2.2.1), P3, PM, HN2.out.1, k6.out, hH.1, hH.2.1, hH.2.2.1⟩, PB⟩
 ·go_wp2
  rw [← WS.out]
  clear x0 x1 y1 y3
  have y1 := (aC_ HX.out 1).trans rfl
  have y3 := (aC_ HX.out 3).trans rfl
  go_region_law (first | (go_simp; go_at_call 40; (with_reducible refine (api_Attr_40.calls A3 c3 t.f3 _ (Kd.C_drew HC.out) hlen).mono ?_); rintro e w1 ⟨v, rfl, hr, hb⟩; obtain ⟨Av, cv, rfl⟩ := Kd.R_slice hr; have B1 := aA_.mk (BAt.below (HW.out.below (b5_ (Below.refl _ _))) hb); have RA := aA_.mk (Kd.R_lower (Kd.R_mono (ok' := fun k => W.heap.size ≤ k) (Kd.R_bound hr) (fun k hk => hk.2.1)) HWS.out.2); have X1 := aA_.mk (b4_ (a0_ HX.out) hb); have N1 := aA_.mk (show W.heap.size ≤ w1.heap.size from hb.size); have BB1 := aA_.mk (show Below w.heap.size w w1 from (b5_ HB.out).trans (hb.mono HWS.out.1)); clear hr hb; have z1 := (aC_ X1.out 1).trans rfl) | (go_simp; go_at_call 39; (with_reducible refine (cJ_.room B g W.heap.size l op (⟨0, t.f1, (⟨#[]⟩ : ByteArray), t.f3⟩ : El.Nd) _ _ B1.out N1.out RA.out HL.out.1 (by have := HOP.out; omega) HIN.out).mono ?_); rintro e w2 ⟨rfl, hbt, hb2, hS⟩; have T2 := aA_.mk hbt; have B2 := aA_.mk (show Below B w w2 from (BB1.out.mono (Nat.le_of_lt (Nat.lt_of_le_of_lt HGE.out.1 HGE.out.2.1))).trans hb2); have X2 := aA_.mk (hS _ _ X1.out); have z4 := (aC_ X2.out 4).trans rfl; clear hbt hb2 hS))
  all_goals
   cases hf : t.f4 with
   | true =>
    rw [hf] at z4
    go_wp2
    go_ret
    have ho := HO'.out
    rw [hf, if_pos rfl] at ho
    rw [ho]
    exact ⟨rfl, T2.out, B2.out⟩
   | false =>
    rw [hf] at z4
    obtain ⟨l2, hl2⟩ : ∃ l2, l2 = l ++ [(⟨El.inner op, t.f1, El.nul, t.f3⟩ : El.Nd)] := ⟨_, rfl⟩
    have hlen2 : l2.length = l.length + 1 := by rw [hl2]; simp
    have hT2 : BAt w2 B g w2.heap.size l2 op := by rw [hl2]; exact T2.out
    obtain ⟨v1, v2, m', n', D', h1, h2, h3, h4, h5, h6, h7, h8, h9⟩ := hT2
    obtain ⟨A1', c1', rfl⟩ := Kd.S_slice h2
    obtain ⟨A2', c2', rfl⟩ := Kd.R_slice h3
    have hll := HL.out
    have hoo := HOP.out
    have ew : wrap64 ((l2.length : Int) - 1) = (l.length : Int) := by unfold wrap64; omega
    have ew' : IntKind.i64.wrap ((l2.length : Int) - 1) = (l.length : Int) := by rw [c6_]; exact ew
    have hmg := map_ne h4 h1
    have HL2 := Lib.hid hl2
    have HN2 := Lib.hid (And.intro h5 hlen2)
    have HH := Lib.hid (And.intro h7 (And.intro h8 (And.intro h9 hmg)))
    have k1 := aA_.mk h1
    have k2 := aA_.mk h2
    have k3 := aA_.mk h3
    have k4 := aA_.mk h4
    have k6 := aA_.mk h6
    clear h1 h2 h3 h4 h5 h6 h7 h8 h9 hmg hl2 hlen2 T2
    (try rw [hf])
    have x0 := (aC_ k1.out 0).trans rfl
    have x1 := (aC_ k1.out 1).trans rfl
    have zf := aE_ k1.out 1
    have x1a := fun o => (aC_ (aV_ k1.out o) 1).trans rfl
    have hw2 : B ≤ w2.heap.size := by have := cT_ k1.out; have := HH.out.1; omega
    go_wp2
    go_region_law (refine Kd.R_append_step (Kd.int .i64) (w0 := w) (W := w2.drew) B (by rfl) (.tmp 50) (.tmp 57) 35 3 _ 8 rfl Tryz.underlying35 intInfo rfl (by decide) (by decide) (.slice A2' op.length c2') op (l.length : Int) [.int .i64 (l.length : Int)] (fun _ => True) (fun _ => False) rfl rfl rfl (fun _ h => h.elim) (fun _ _ => trivial) (Kd.R_drew k3.out) (b5_ B2.out) hw2 (by omega) ?_; intro v3 w3 r1 b1 gg at1; obtain ⟨A4, c4, rfl⟩ := Kd.R_slice r1; have R1 := aA_.mk r1; have BB3 := aA_.mk b1; have G1 := aA_.mk (b6_ (a0_ k1.out) gg (Kd.R_ne (Kd.R_drew k3.out) (a0_ k1.out) (by decide))); have G2 := aA_.mk (Kd.S_over' (Kd.S_drew k2.out) (Kd.R_typed (Kd.R_drew k3.out)) (by decide) gg); have G4 := aA_.mk (World.ownsMap.kept (World.ownsMap.drew k4.out) gg (map_offR (World.ownsMap.drew k4.out) (Kd.R_drew k3.out))); clear r1 b1 gg at1; have zz := aE_ G1.out 1; have yy := (aC_ G1.out 1).trans rfl)
    all_goals
     go_wp2
     go_ret
     have hH := HH.out
     have P1 := c5_ G1.out 1 (.slice A4 (op ++ [(l.length : Int)]).length c4)
     have P2 := Kd.S_set G2.out G1.out (by decide) 1 (.slice A4 (op ++ [(l.length : Int)]).length c4)
     have P3 := Kd.R_set R1.out G1.out (by decide) 1 (.slice A4 (op ++ [(l.length : Int)]).length c4)
     have PB := BB3.out.setCell (p := ⟨g, 1, none⟩) hH.1 (.slice A4 (op ++ [(l.length : Int)]).length c4)
     have PM := World.ownsMap.setCell G4.out (a := ⟨g, 1, none⟩) hH.2.2.2 (.slice A4 (op ++ [(l.length : Int)]).length c4)
     have el : (op ++ [(l.length : Int)]).length = op.length + 1 := by simp
     rw [el] at P1 P2 PB P3 PM
     have ho := HO'.out
     rw [hf, if_neg nF] at ho
     rw [← HL2.out, ho]
     exact ⟨rfl, ⟨_, _, m', n', _, by simpa using P1, Kd.S_mono (Kd.S_bound P2) (fun k hk => hk.2.2.1), P3, PM, HN2.out.1, k6.out, hH.1, hH.2.1, hH.2.2.1⟩, PB⟩
end Go.Proofs.YtkoogebfdinbnaaGreat.Q
namespace Go.Proofs
open Go.Shelf
def Tryz.lays169_ren : Go.Shelf.Ren := ⟨fun | 169 => 24 | n => n, fun | 70 => 56 | 9 => 9 | 0 => 0 | 72 => 59 | 37 => 57 | 127 => 82 | 3 => 3 | 5 => 5 | n => n, fun | n => n⟩
theorem Tryz.lays169 : Go.Proofs.Lays.n169 Tryz.prog Tryz.lays169_ren := {
  mixed := by kernel_rfl
  f169 := Tryz.func24.trans (congrArg some (by kernel_rfl))
  t0 := Tryz.underlying0
  a0 := Tryz.isAgg0
  z0 := Tryz.sizeOf0
  v0 := Tryz.zeroValue0
  t3 := Tryz.underlying3
  a3 := Tryz.isAgg3
  z3 := Tryz.sizeOf3
  v3 := Tryz.zeroValue3
  t9 := Tryz.underlying9
  a9 := Tryz.isAgg9
  z9 := Tryz.sizeOf9
  v9 := Tryz.zeroValue9
  t37 := Tryz.underlying57
  a37 := Tryz.isAgg57
  z37 := Tryz.sizeOf57
  v37 := Tryz.zeroValue57
  t70 := Tryz.underlying56
  a70 := Tryz.isAgg56
  z70 := Tryz.sizeOf56
  v70 := Tryz.zeroValue56
  t72 := Tryz.underlying59
  a72 := Tryz.isAgg59
  z72 := Tryz.sizeOf59
  v72 := Tryz.zeroValue59
  t127 := Tryz.underlying82
  a127 := Tryz.isAgg82
  z127 := Tryz.sizeOf82
  v127 := Tryz.zeroValue82 }
theorem Tryz.Builder_Extra_169 : Builder.Extra Tryz.prog Tryz.lays169_ren := {
  sizeBuilder := by kernel_rfl
  liesBuilder := by kernel_rfl
  t5 := Tryz.underlying5
  a5 := Tryz.isAgg5
  z5 := Tryz.sizeOf5
  v5 := Tryz.zeroValue5
  infoByte := by kernel_rfl
  cellsByte := by kernel_rfl
  sizeByte := by kernel_rfl
  neB5 := by decide }
open Go.RowKit in
theorem Tryz.Builder_String_any (B b : Nat) (l : List UInt8) (w : World) (h : Lib.IsBuilder 59 5 B b (Lib.byteCells l) w) (hBw : B ≤ w.heap.size) :
    Calls Tryz.prog 24 #[.pointer (some ⟨b, 0, none⟩)] w fun e w' => e = .returned (.string ⟨l.toArray⟩) ∧ Below B w w' := Any.Builder_String_any Tryz.lays169 Tryz.Builder_Extra_169 B b l w h hBw
def Tryz.lays137_ren : Go.Shelf.Ren := ⟨fun | 137 => 72 | 217 => 85 | 266 => 97 | n => n, fun | 9 => 9 | 5 => 5 | 3 => 3 | n => n, fun | n => n⟩
theorem Tryz.lays137 : Go.Proofs.Lays.n137 Tryz.prog Tryz.lays137_ren := {
  mixed := by kernel_rfl
  f137 := Tryz.func72.trans (congrArg some (by kernel_rfl))
  f217 := Tryz.func85.trans (congrArg some (by kernel_rfl))
  f266 := Tryz.func97.trans (congrArg some (by kernel_rfl))
  t3 := Tryz.underlying3
  a3 := Tryz.isAgg3
  z3 := Tryz.sizeOf3
  v3 := Tryz.zeroValue3
  t5 := Tryz.underlying5
  a5 := Tryz.isAgg5
  z5 := Tryz.sizeOf5
  v5 := Tryz.zeroValue5
  t9 := Tryz.underlying9
  a9 := Tryz.isAgg9
  z9 := Tryz.sizeOf9
  v9 := Tryz.zeroValue9 }
open Go.RowKit in
theorem Tryz.strings_IndexByte (s : ByteArray) (c : Int) (w : World) :
    Calls Tryz.prog 72 #[.string s, .int .u8 c] w fun e w' => e = .returned (.int .i64 (Lib.indexByte s.data.toList c.toNat.toUInt8)) ∧ w' = w := Any.strings_IndexByte Tryz.lays137 s c w
def Tryz.lays210_ren : Go.Shelf.Ren := ⟨fun | 210 => 78 | 206 => 91 | n => n, fun | 9 => 9 | 4 => 4 | 3 => 3 | n => n, fun | n => n⟩
def Tryz.lays103_ren : Go.Shelf.Ren := ⟨fun | 103 => 62 | 210 => 78 | 206 => 91 | n => n, fun | 9 => 9 | 4 => 4 | 24 => 88 | 3 => 3 | n => n, fun | n => n⟩
theorem Tryz.lays103 : Go.Proofs.Lays.n103 Tryz.prog Tryz.lays103_ren := {
  mixed := by kernel_rfl
  f103 := Tryz.func62.trans (congrArg some (by kernel_rfl))
  f206 := Tryz.func91.trans (congrArg some (by kernel_rfl))
  f210 := Tryz.func78.trans (congrArg some (by kernel_rfl))
  t3 := Tryz.underlying3
  a3 := Tryz.isAgg3
  z3 := Tryz.sizeOf3
  v3 := Tryz.zeroValue3
  t4 := Tryz.underlying4
  a4 := Tryz.isAgg4
  z4 := Tryz.sizeOf4
  v4 := Tryz.zeroValue4
  t9 := Tryz.underlying9
  a9 := Tryz.isAgg9
  z9 := Tryz.sizeOf9
  v9 := Tryz.zeroValue9
  t24 := Tryz.underlying88
  a24 := Tryz.isAgg88
  z24 := Tryz.sizeOf88
  v24 := Tryz.zeroValue88 }
open Go.RowKit in
theorem Tryz.strings_CutPrefix (s p : ByteArray) (w : World) :
    Calls Tryz.prog 62 #[.string s, .string p] w fun e w' => e = .returned (.tuple #[.string ⟨(Lib.trimPrefix s.data.toList p.data.toList).toArray⟩, .bool (Lib.hasPrefix s.data.toList p.data.toList)]) ∧ w' = w := Any.strings_CutPrefix Tryz.lays103 s p w
def Tryz.lays219_ren : Go.Shelf.Ren := ⟨fun | 219 => 93 | 217 => 85 | 225 => 103 | 224 => 104 | 267 => 105 | 266 => 97 | 314 => 109 | n => n, fun | 9 => 9 | 3 => 3 | 4 => 4 | 5 => 5 | 46 => 112 | 146 => 116 | 51 => 115 | n => n, fun | 1 => 0 | n => n⟩
def Tryz.lays144_ren : Go.Shelf.Ren := ⟨fun | 144 => 64 | 143 => 80 | 219 => 93 | 217 => 85 | 225 => 103 | 224 => 104 | 267 => 105 | 266 => 97 | 314 => 109 | n => n, fun | 9 => 9 | 4 => 4 | 3 => 3 | 5 => 5 | 46 => 112 | 146 => 116 | 51 => 115 | n => n, fun | 1 => 0 | n => n⟩
theorem Tryz.lays144 : Go.Proofs.Lays.n144 Tryz.prog Tryz.lays144_ren := {
  mixed := by kernel_rfl
  f143 := Tryz.func80.trans (congrArg some (by kernel_rfl))
  f144 := Tryz.func64.trans (congrArg some (by kernel_rfl))
  f217 := Tryz.func85.trans (congrArg some (by kernel_rfl))
  f219 := Tryz.func93.trans (congrArg some (by kernel_rfl))
  f224 := Tryz.func104.trans (congrArg some (by kernel_rfl))
  f225 := Tryz.func103.trans (congrArg some (by kernel_rfl))
  f266 := Tryz.func97.trans (congrArg some (by kernel_rfl))
  f267 := Tryz.func105.trans (congrArg some (by kernel_rfl))
  f314 := Tryz.func109.trans (congrArg some (by kernel_rfl))
  t3 := Tryz.underlying3
  a3 := Tryz.isAgg3
  z3 := Tryz.sizeOf3
  v3 := Tryz.zeroValue3
  t4 := Tryz.underlying4
  a4 := Tryz.isAgg4
  z4 := Tryz.sizeOf4
  v4 := Tryz.zeroValue4
  t5 := Tryz.underlying5
  a5 := Tryz.isAgg5
  z5 := Tryz.sizeOf5
  v5 := Tryz.zeroValue5
  t9 := Tryz.underlying9
  a9 := Tryz.isAgg9
  z9 := Tryz.sizeOf9
  v9 := Tryz.zeroValue9
  t46 := Tryz.underlying112
  a46 := Tryz.isAgg112
  z46 := Tryz.sizeOf112
  v46 := Tryz.zeroValue112
  t51 := Tryz.underlying115
  a51 := Tryz.isAgg115
  z51 := Tryz.sizeOf115
  v51 := Tryz.zeroValue115
  t146 := Tryz.underlying116
  a146 := Tryz.isAgg116
  z146 := Tryz.sizeOf116
  v146 := Tryz.zeroValue116
  g1 := by kernel_rfl }
open Go.RowKit Go.Lib in
theorem Tryz.strings_Contains (s sub : ByteArray) (m : Int) (w : World) (hs : s.size < 4294967281) (hm : w.cell? ⟨0, 0, none⟩ = some (.int .i64 m)) :
    Calls Tryz.prog 64 #[.string s, .string sub] w fun e w' => e = .returned (.bool (Lib.contains s.data.toList sub.data.toList)) ∧ w' = w := Any.strings_Contains Tryz.lays144 s sub m w hs hm
def Tryz.lays145_ren : Go.Shelf.Ren := ⟨fun | 145 => 79 | 220 => 92 | 219 => 93 | 217 => 85 | 225 => 103 | 224 => 104 | 267 => 105 | 266 => 97 | 314 => 109 | n => n, fun | 9 => 9 | 4 => 4 | 59 => 104 | 3 => 3 | 5 => 5 | 46 => 112 | 146 => 116 | 51 => 115 | n => n, fun | 1 => 0 | n => n⟩
theorem Tryz.lays145 : Go.Proofs.Lays.n145 Tryz.prog Tryz.lays145_ren := {
  mixed := by kernel_rfl
  f145 := Tryz.func79.trans (congrArg some (by kernel_rfl))
  f217 := Tryz.func85.trans (congrArg some (by kernel_rfl))
  f219 := Tryz.func93.trans (congrArg some (by kernel_rfl))
  f220 := Tryz.func92.trans (congrArg some (by kernel_rfl))
  f224 := Tryz.func104.trans (congrArg some (by kernel_rfl))
  f225 := Tryz.func103.trans (congrArg some (by kernel_rfl))
  f266 := Tryz.func97.trans (congrArg some (by kernel_rfl))
  f267 := Tryz.func105.trans (congrArg some (by kernel_rfl))
  f314 := Tryz.func109.trans (congrArg some (by kernel_rfl))
  t3 := Tryz.underlying3
  a3 := Tryz.isAgg3
  z3 := Tryz.sizeOf3
  v3 := Tryz.zeroValue3
  t4 := Tryz.underlying4
  a4 := Tryz.isAgg4
  z4 := Tryz.sizeOf4
  v4 := Tryz.zeroValue4
  t5 := Tryz.underlying5
  a5 := Tryz.isAgg5
  z5 := Tryz.sizeOf5
  v5 := Tryz.zeroValue5
  t9 := Tryz.underlying9
  a9 := Tryz.isAgg9
  z9 := Tryz.sizeOf9
  v9 := Tryz.zeroValue9
  t46 := Tryz.underlying112
  a46 := Tryz.isAgg112
  z46 := Tryz.sizeOf112
  v46 := Tryz.zeroValue112
  t51 := Tryz.underlying115
  a51 := Tryz.isAgg115
  z51 := Tryz.sizeOf115
  v51 := Tryz.zeroValue115
  t59 := Tryz.underlying104
  a59 := Tryz.isAgg104
  z59 := Tryz.sizeOf104
  v59 := Tryz.zeroValue104
  t146 := Tryz.underlying116
  a146 := Tryz.isAgg116
  z146 := Tryz.sizeOf116
  v146 := Tryz.zeroValue116
  g1 := by kernel_rfl }
open Go.RowKit Go.Lib in
theorem Tryz.strings_Cut (s sep : ByteArray) (m : Int) (w : World) (hs : s.size < 4294967281) (hm : w.cell? ⟨0, 0, none⟩ = some (.int .i64 m)) :
    Calls Tryz.prog 79 #[.string s, .string sep] w fun e w' => e = .returned (.tuple #[.string ⟨(Lib.cut s.data.toList sep.data.toList).1.toArray⟩, .string ⟨(Lib.cut s.data.toList sep.data.toList).2.1.toArray⟩, .bool (Lib.cut s.data.toList sep.data.toList).2.2]) ∧ ∃ n, w' = w.drewN n := Any.strings_Cut Tryz.lays145 s sep m w hs hm
def Tryz.lays99_ren : Go.Shelf.Ren := ⟨fun | 99 => 96 | 206 => 91 | n => n, fun | 9 => 9 | 4 => 4 | 3 => 3 | n => n, fun | n => n⟩
theorem Tryz.lays99 : Go.Proofs.Lays.n99 Tryz.prog Tryz.lays99_ren := {
  mixed := by kernel_rfl
  f99 := Tryz.func96.trans (congrArg some (by kernel_rfl))
  f206 := Tryz.func91.trans (congrArg some (by kernel_rfl))
  t3 := Tryz.underlying3
  a3 := Tryz.isAgg3
  z3 := Tryz.sizeOf3
  v3 := Tryz.zeroValue3
  t4 := Tryz.underlying4
  a4 := Tryz.isAgg4
  z4 := Tryz.sizeOf4
  v4 := Tryz.zeroValue4
  t9 := Tryz.underlying9
  a9 := Tryz.isAgg9
  z9 := Tryz.sizeOf9
  v9 := Tryz.zeroValue9 }
open Go.RowKit Go.Lib in
theorem Tryz.strings_HasPrefix (s p : ByteArray) (w : World) :
    Calls Tryz.prog 96 #[.string s, .string p] w fun e w' => e = .returned (.bool (Lib.hasPrefix s.data.toList p.data.toList)) ∧ w' = w := Any.strings_HasPrefix Tryz.lays99 s p w
def Tryz.lays100_ren : Go.Shelf.Ren := ⟨fun | 100 => 65 | 207 => 81 | n => n, fun | 9 => 9 | 4 => 4 | 3 => 3 | n => n, fun | n => n⟩
theorem Tryz.lays100 : Go.Proofs.Lays.n100 Tryz.prog Tryz.lays100_ren := {
  mixed := by kernel_rfl
  f100 := Tryz.func65.trans (congrArg some (by kernel_rfl))
  f207 := Tryz.func81.trans (congrArg some (by kernel_rfl))
  t3 := Tryz.underlying3
  a3 := Tryz.isAgg3
  z3 := Tryz.sizeOf3
  v3 := Tryz.zeroValue3
  t4 := Tryz.underlying4
  a4 := Tryz.isAgg4
  z4 := Tryz.sizeOf4
  v4 := Tryz.zeroValue4
  t9 := Tryz.underlying9
  a9 := Tryz.isAgg9
  z9 := Tryz.sizeOf9
  v9 := Tryz.zeroValue9 }
open Go.RowKit Go.Lib in
theorem Tryz.strings_HasSuffix (s p : ByteArray) (w : World) (hs : s.size ≤ 9223372036854775807) :
    Calls Tryz.prog 65 #[.string s, .string p] w fun e w' => e = .returned (.bool (Lib.hasSuffix s.data.toList p.data.toList)) ∧ w' = w := Any.strings_HasSuffix Tryz.lays100 s p w hs
end Go.Proofs
namespace Go.Proofs.YtkoogebfdinbnaaGreat.Q
open Go.RowKit Go.Proofs.YtkoogebfdinbnaaGreatW.PrintWords Go.Proofs.YtkoogebfdinbnaaGreatW.PrintLast Go.Proofs.YtkoogebfdinbnaaGreatW.Own Go.Proofs.YtkoogebfdinbnaaGreatW.PrintMore
set_option linter.unusedVariables false
set_option linter.unusedSimpArgs false
namespace Bld
open Go Go.RowKit
theorem sizeB : (Tryz.prog.info? 59).map (fun i => i.size) = some 2 := by kernel_rfl
theorem liesB : liesAt Tryz.prog Tryz.prog.depth 59 (2 / Tryz.prog.cellsOf 59) 0 59 1 = true := by kernel_rfl
theorem infoByte : (Tryz.prog.info? 5).map (fun i => (i.zero, i.size, i.bytes)) = some (some (.int .u8 0), 1, 1) := by kernel_rfl
set_option maxHeartbeats 1000000 in
set_option maxRecDepth 100000 in
theorem copyCheck_used (b : Nat) (w : World) (h0 : w.cell? ⟨b, 0, none⟩ = some (.pointer (some ⟨b, 0, none⟩))) :
    Calls Tryz.prog 38 #[.pointer (some ⟨b, 0, none⟩)] w fun e w' => e = .returned (.tuple #[]) ∧ w' = w := by
  obtain ⟨j, hj, _⟩ := Option.map_eq_some_iff.1 sizeB
  go_enter Tryz.func38, Tryz.ntmps38
  go_wp2
  rw [Lib.run_neq_ptr_same w _ Tryz.underlying56 hj]
  go_wp2
  go_end0
  exact ⟨rfl, rfl⟩
set_option maxHeartbeats 1000000 in
set_option maxRecDepth 100000 in
theorem copyCheck_fresh (b : Nat) (w : World) (h0 : w.cell? ⟨b, 0, none⟩ = some (.pointer none)) (hsh : w.shape? b = some (59, 2)) (hfz : w.frozen? ⟨b, 0, none⟩ = false) :
    Calls Tryz.prog 38 #[.pointer (some ⟨b, 0, none⟩)] w fun e w' => e = .returned (.tuple #[]) ∧ w' = w.setCell ⟨b, 0, none⟩ (.pointer (some ⟨b, 0, none⟩)) := by
  obtain ⟨j, hj, hjs⟩ := Option.map_eq_some_iff.1 sizeB
  go_enter Tryz.func38, Tryz.ntmps38
  go_wp2
  rw [Lib.run_to_unsafe w ⟨b, 0, none⟩ Tryz.underlying56 Tryz.underlying93 hj (by rw [hjs]; decide) hsh (Nat.zero_lt_succ 1)]
  simp only [Result.andThen]
  rw [Oper.upon_value]
  go_wp2
  rw [run_callFunc_extern Tryz.func61 (by kernel_rfl) (by kernel_rfl) (by kernel_rfl) (e := Extern.AbiNoEscape.same) (by kernel_rfl)]
  rw [Lib.run_noEscape]
  simp only [Result.andThen]
  rw [Oper.upon_value]
  go_wp2
  rw [Lib.run_from_unsafe w ⟨b, 0, none⟩ Tryz.underlying93 Tryz.underlying56 hj hsh liesB]
  simp only [Result.andThen]
  rw [Oper.upon_value]
  go_wp2
  go_end0
  exact ⟨rfl, rfl⟩
def Off (w w' : World) : Prop := ∀ (k : Nat) (o : Array Value) (t : Nat), t ≠ 59 → t ≠ 5 → w.heap[k]? = some (.cells o t (0, 0)) → w'.heap[k]? = some (.cells o t (0, 0))
theorem Off.refl (w : World) : Off w w := fun _ _ _ _ _ h => h
theorem Off.trans {w w1 w2 : World} (h : Off w w1) (h2 : Off w1 w2) : Off w w2 := fun k o t h3 h4 h5 => h2 k o t h3 h4 (h k o t h3 h4 h5)
theorem Off.set {w : World} {b : Nat} {cs : Array Value} (hb : w.heap[b]? = some (.cells cs 59 (0, 0))) (i : Nat) (u : Value) : Off w (w.setCell ⟨b, i, none⟩ u) := fun k o t h1 _ hk => bT_ hk (fun e => by
  have e : k = b := e
  subst e
  rw [hk] at hb
  injection hb with hb
  injection hb with _ hb
  exact h1 hb) u
theorem Off.row {w w1 : World} {B n : Nat} {v : Value} {xs : List Value} (ho : w.ownsRow B 5 1 v n xs) (hg : w.grownBy w1 v.ownBlock) : Off w w1 := fun k o t _ h2 hk => b6_ hk hg (fun e => by
  obtain ⟨cells, hc⟩ := own_typed ho k e.symm
  rw [hk] at hc
  injection hc with hc
  injection hc with _ hc
  exact h2 hc)
theorem copyCheck (B b : Nat) (bs : List Value) (w : World) (h : Lib.IsBuilder 59 5 B b bs w) :
    Calls Tryz.prog 38 #[.pointer (some ⟨b, 0, none⟩)] w fun e w' => e = .returned (.tuple #[]) ∧ (Lib.BuilderAt 59 5 B b (.pointer (some ⟨b, 0, none⟩)) bs w' ∧ Below B w w' ∧ Off w w') := by
  rcases h with h | h
  · refine (copyCheck_fresh b w h.cell0 h.shape h.frozen0).mono ?_
    rintro e w' ⟨rfl, rfl⟩
    exact ⟨rfl, h.used _, (Below.refl B w).setCell (p := ⟨b, 0, none⟩) h.1 _, Off.set h.2.choose_spec.1 0 _⟩
  · refine (copyCheck_used b w h.cell0).mono ?_
    rintro e w' ⟨rfl, rfl⟩
    exact ⟨rfl, h, Below.refl B _, Off.refl _⟩
set_option maxHeartbeats 2000000 in
set_option maxRecDepth 100000 in
theorem WriteString (B b : Nat) (bs : List Value) (s : ByteArray) (w : World) (h : Lib.IsBuilder 59 5 B b bs w) (hlen : bs.length + s.size ≤ 140737488355328) (hBw : B ≤ w.heap.size) :
    Calls Tryz.prog 23 #[.pointer (some ⟨b, 0, none⟩), .string s] w fun e w' => e = .returned (.tuple #[.int .i64 s.size, .nilIface]) ∧ (Lib.BuilderAt 59 5 B b (.pointer (some ⟨b, 0, none⟩)) (bs ++ Lib.strCells s) w' ∧ Below B w w' ∧ Off w w') := by
  obtain ⟨i0, hi, hz0, hz1, hz2⟩ := info_parts infoByte
  go_enter Tryz.func23, Tryz.ntmps23
  go_wp2_with (go_at_call 38; refine (copyCheck B b bs _ h).mono ?_)
  rintro e w1 ⟨rfl, h1, hb1, ho1⟩
  obtain ⟨hB, v, hbk, hown, hne⟩ := h1
  have c0 : w1.cell? ⟨b, 0, none⟩ = some (.pointer (some ⟨b, 0, none⟩)) := by rw [Lib.cell_of_heap hbk]; rfl
  have c1 : w1.cell? ⟨b, 1, none⟩ = some v := by rw [Lib.cell_of_heap hbk]; rfl
  go_wp2_with (at_builtin; refine Lib.wpList_append_own_string _ rfl _ _ 57 9 rfl B 5 i0 Tryz.underlying57 Tryz.underlying9 hi hz0 hz1 hz2 _ _ _ rfl hown s rfl ?c3 ?c4 ?c5 ?_)
  case c3 => unfold maxLen; omega
  case c4 => omega
  case c5 => have := hb1.size; omega
  intro v' w2 hown' hgrow _
  have hlt : b < w1.heap.size := by
    rcases Nat.lt_or_ge b w1.heap.size with h' | h'
    · exact h'
    · simp [Array.getElem?_eq_none h'] at hbk
  have hb2 : w2.heap[b]? = some (.cells #[.pointer (some ⟨b, 0, none⟩), v] 59 (0, 0)) := by
    rw [hgrow.block b hlt (fun e => hne e.symm)]
    exact hbk
  have d0 : w2.cell? ⟨b, 0, none⟩ = some (.pointer (some ⟨b, 0, none⟩)) := by rw [Lib.cell_of_heap hb2]; rfl
  have d1 : w2.cell? ⟨b, 1, none⟩ = some v := by rw [Lib.cell_of_heap hb2]; rfl
  have f1 : w2.frozen? ⟨b, 1, none⟩ = false := Lib.frozen_of_heap hb2 1
  obtain ⟨ao, n', cap, rfl⟩ : ∃ ao n' cap, v' = .slice ao n' cap := by
    rcases hown'.2 with ⟨hv, _⟩ | ⟨g, cap, cur, hv, _⟩
    · exact ⟨_, _, _, hv⟩
    · exact ⟨_, _, _, hv⟩
  go_wp2
  go_ret2
  refine ⟨rfl, ?_, ?_, (ho1.trans (Off.row hown hgrow)).trans (Off.set hb2 1 _)⟩
  · exact Lib.BuilderAt.put (T := 59) (e := 5) hB hb2 (bs' := bs ++ Lib.strCells s) (by simpa [Lib.strCells_length] using hown') (by decide)
  · exact (hb1.grown hgrow (by have := hb1.size; omega) (fun k hk => (hown.lt k hk).1)).setCell (p := ⟨b, 1, none⟩) hB _
def Holds (B b : Nat) (s : ByteArray) (w : World) : Prop := Lib.IsBuilder 59 5 B b (Lib.byteCells s.data.toList) w ∧ B ≤ w.heap.size
theorem byteCells_app (a b : ByteArray) : Lib.byteCells a.data.toList ++ Lib.strCells b = Lib.byteCells (a ++ b).data.toList := by
  simp [Lib.byteCells, Lib.strCells]
theorem at_below {B b : Nat} {p : Value} {bs : List Value} {w w1 : World} (h : Lib.BuilderAt 59 5 B b p bs w) (hb : Below w.heap.size w w1) : Lib.BuilderAt 59 5 B b p bs w1 := by
  have hlt := h.lt
  obtain ⟨hB, v, hk, ho, hne⟩ := h
  exact ⟨hB, v, by rw [hb.block b hlt]; exact hk, own_move ho (fun k hk => hb.block k (own_lt ho k hk)), hne⟩
theorem Holds.below {B b : Nat} {s : ByteArray} {w w1 : World} (h : Holds B b s w) (hb : Below w.heap.size w w1) : Holds B b s w1 :=
  ⟨h.1.imp (fun h => at_below h hb) (fun h => at_below h hb), Nat.le_trans h.2 hb.size⟩
theorem Holds.write {B b : Nat} {s t : ByteArray} {w : World} (h : Holds B b s w) (hlen : s.size + t.size ≤ 140737488355328) :
    Calls Tryz.prog 23 #[.pointer (some ⟨b, 0, none⟩), .string t] w fun e w' => e = .returned (.tuple #[.int .i64 t.size, .nilIface]) ∧ Holds B b (s ++ t) w' ∧ Below B w w' := by
  refine (WriteString B b _ t w h.1 (by rw [Lib.byteCells_length, Array.length_toList]; exact hlen) h.2).mono ?_
  rintro e w' ⟨he, h1, hb, _⟩
  refine ⟨he, ⟨?_, Nat.le_trans h.2 hb.size⟩, hb⟩
  rw [← byteCells_app]
  exact .inr h1
theorem Holds.writeS {B b : Nat} {s t : ByteArray} {w : World} (h : Holds B b s w) (hlen : s.size + t.size ≤ 140737488355328) :
    Calls Tryz.prog 23 #[.pointer (some ⟨b, 0, none⟩), .string t] w fun e w' => e = .returned (.tuple #[.int .i64 t.size, .nilIface]) ∧ Holds B b (s ++ t) w' ∧ Below B w w' ∧ Off w w' := by
  refine (WriteString B b _ t w h.1 (by rw [Lib.byteCells_length, Array.length_toList]; exact hlen) h.2).mono ?_
  rintro e w' ⟨he, h1, hb, ho⟩
  refine ⟨he, ⟨?_, Nat.le_trans h.2 hb.size⟩, hb, ho⟩
  rw [← byteCells_app]
  exact .inr h1
theorem Holds.string {B b : Nat} {s : ByteArray} {w : World} (h : Holds B b s w) :
    Calls Tryz.prog 24 #[.pointer (some ⟨b, 0, none⟩)] w fun e w' => e = .returned (.string s) ∧ Below B w w' :=
  (Tryz.Builder_String_any B b s.data.toList w h.1 h.2).mono fun e w' hh => ⟨by rw [hh.1], hh.2⟩
theorem Holds.fresh (w : World) : Holds w.heap.size w.heap.size ⟨#[]⟩ (w.alloc (.cells #[.pointer none, .slice none 0 0] 59)) :=
  ⟨.inl ⟨Nat.le_refl _, .slice none 0 0, by show (w.heap.push _)[w.heap.size]? = _; simp, ⟨by simp [Lib.byteCells], .inl ⟨rfl, rfl⟩⟩, by simp [Value.ownBlock]⟩, by simp⟩
end Bld
end Go.Proofs.YtkoogebfdinbnaaGreat.Q
namespace Go.Proofs.YtkoogebfdinbnaaGreat.Q
open Go.RowKit Go.Proofs.YtkoogebfdinbnaaGreatW.PrintWords Go.Proofs.YtkoogebfdinbnaaGreatW.PrintLast Go.Proofs.YtkoogebfdinbnaaGreatW.Own Go.Proofs.YtkoogebfdinbnaaGreatW.PrintMore
attribute [local go_sem] d6_ d8_ max_two min_two dS_ dR_ d4_ d9_   -- for this text's walks alone
set_option linter.unusedVariables false
set_option linter.unusedSimpArgs false
set_option maxHeartbeats 20000000
set_option maxRecDepth 100000
def El.gather (l : List S32) (ks : List Int) : ByteArray := ks.foldl (fun s k => if (bD_ l k).f1 = El.nul then s ++ (bD_ l k).f2 else s) El.nul
def El.room (l : List S32) (ks : List Int) : Nat := (ks.map fun k => (bD_ l k).f2.size).sum
theorem gather_snoc (l : List S32) (ks : List Int) (k : Int) : El.gather l (ks ++ [k]) = if (bD_ l k).f1 = El.nul then El.gather l ks ++ (bD_ l k).f2 else El.gather l ks := by
 unfold El.gather
 rw [List.foldl_append]
 rfl
theorem gather_size (l : List S32) (ks : List Int) : (El.gather l ks).size ≤ El.room l ks := by
 rw [← List.reverse_reverse ks]
 generalize ks.reverse = m
 induction m with
 | nil => exact Nat.zero_le _
 | cons k m ih =>
  rw [List.reverse_cons, gather_snoc]
  have e : El.room l (m.reverse ++ [k]) = El.room l m.reverse + (bD_ l k).f2.size := by simp [El.room]
  rw [e]
  split
  ·rw [ByteArray.size_append]; omega
  ·omega
theorem room_cons (l : List S32) (a b : List Int) (x : Int) : El.room l (a ++ x :: b) = El.room l a + ((bD_ l x).f2.size + El.room l b) := by simp [El.room]
theorem room_take (l : List S32) (ks : List Int) (i : Nat) (h : i < ks.length) : El.room l (ks.take i) + (bD_ l (ks[i]'h)).f2.size ≤ El.room l ks := by
 have e : ks = ks.take i ++ ks[i] :: ks.drop (i + 1) := by rw [List.getElem_cons_drop, List.take_append_drop]
 have e2 := room_cons l (ks.take i) (ks.drop (i + 1)) (ks[i]'h)
 rw [← e] at e2
 omega
def b3_.f (k : Nat) (l0 : List S32) (a1 : Int) : Option ByteArray := (bJ_.f k l0 a1).bind fun ks => if (∀ x ∈ ks, 0 ≤ x ∧ x < (l0.length : Int)) ∧ El.room l0 ks ≤ 140737488355328 ∧ ks.length ≤ 1000000000 then some (El.gather l0 ks) else none
theorem b3_.mono : ∀ a0 a1 k, LeO (b3_.f k a0 a1) (b3_.f (k + 1) a0 a1) := by
 intro a0 a1 k r h
 unfold b3_.f at h ⊢
 obtain ⟨ks, h1, h2⟩ := Option.bind_eq_some_iff.1 h
 rw [bJ_.mono a0 a1 k ks h1]
 exact h2
theorem rd_ints (ks : List Int) (i : Nat) (h : i < ks.length) : rd ks (i : Int) = ks[i] := by
 simp [rd, List.getD, h]
theorem off_row {w w1 : World} {B : Nat} {v : Value} {ks : List Int} (h : Kd.R (Kd.int .i64) 3 w B (fun _ => True) v ks) (ho : Bld.Off w w1) : Kd.R (Kd.int .i64) 3 w1 B (fun _ => True) v ks := by
 refine Kd.R_mono (Kd.R_move (Kd.R_bound h) (fun k hk => ?_)) (fun _ _ => trivial)
 obtain ⟨_, _, _, q, hq, cells, hc⟩ := hk
 have hq' : q = 3 := by simpa [Kd.int, Kd.scalar] using hq
 subst hq'
 rw [hc]
 exact ho k cells 3 (by decide) (by decide) hc
theorem b3_.calls (k : Nat) (A0 : Option Addr) (c0 : Nat) (l0 : List S32) (a1 : Int) (r : ByteArray) (w : World) (hr0 : Kd.C k32 w A0 l0.length l0) (hc0 : l0.length ≤ c0) (hG : Glob w) (h : b3_.f k l0 a1 = some r) :
 Calls Tryz.prog 14 #[.slice A0 l0.length c0, .int .i64 a1] w fun e w' => e = .returned (.string r) ∧ Below w.heap.size w w' := by
 unfold b3_.f at h
 obtain ⟨ks, hks, h⟩ := Option.bind_eq_some_iff.1 h
 split at h
 ·rename_i hcond
  obtain ⟨hrange, hroom, hkl⟩ := hcond
  obtain rfl := Option.some.inj h
  have HR0 := aA_.mk hr0
  have HRNG := Lib.hid hrange
  have HRM := aA_.mk hroom
  have HKL := aA_.mk hkl
  have HK := aA_.mk hks
  have HG := aA_.mk hG
  have HC0 := aA_.mk hc0
  clear hr0 hroom h hG hrange hkl hks hc0
  have hu := Tryz.underlying59
  have hun := Tryz.underlying32
  have HB0 := aA_.mk ((Below.refl w.heap.size w).alloc (Nat.le_refl _) (.cells #[.pointer none, .slice none 0 0] 59))
  have HF := aA_.mk (Bld.Holds.fresh w)
  have CK := aA_.mk (bJ_.calls k A0 c0 l0 a1 ks _ (Kd.C_below HR0.out HB0.out) HC0.out (HG.out.step HB0.out) HK.out)
  go_enter Tryz.func14, Tryz.ntmps14
  go_wp2_with (first | (go_at_call 12; (with_reducible refine (CK.out).mono ?_); rintro e w1 ⟨v, rfl, hr, hb⟩; obtain ⟨A2, c2, rfl⟩ := Kd.R_slice hr; have HH := aA_.mk (HF.out.below hb); have HB1 := aA_.mk (bG_ HB0.out hb); have HI := aA_.mk hr; have HW1 := Lib.hid hb.size; clear hr hb))
  have HI1 := aA_.mk (Kd.R_lower HI.out (show w.heap.size ≤ _ from HB0.out.size))
  clear HI HB0 HF CK HW1
  go_loopg [12] ks.length (fun g v12 w' => ∃ i : Nat, i + g = ks.length ∧ v12 = .int .i64 i ∧ aA_ (Bld.Holds w.heap.size w.heap.size (El.gather l0 (ks.take i)) w') ∧ aA_ (Kd.R (Kd.int .i64) 3 w' w.heap.size (fun _ => True) (.slice A2 ks.length c2) ks) ∧ aA_ (Below w.heap.size w w'))
  case atStart => exact ⟨0, by omega, rfl, ⟨by rw [List.take_zero]; exact HH.out⟩, HI1, HB1⟩
  clear HH HI1 HB1
  obtain ⟨i, hig, rfl, HH, HI, HB⟩ := hrel
  by_cases hi : i < ks.length
  rotate_left
  ·obtain rfl : i = ks.length := by omega
   have d1 : decide ((ks.length : Int) < (ks.length : Int)) = false := decide_eq_false (by omega)
   go_wp2_with (fail)
   refine HH.out.string.mono ?_
   rintro e w3 ⟨rfl, hb3⟩
   go_wp2
   go_ret
   exact ⟨by first | rfl | (rw [List.take_length]; rfl), HB.out.trans (hb3.mono (Nat.le_refl _))⟩
  obtain ⟨g, rfl⟩ : ∃ g, gk = g + 1 := ⟨gk - 1, by omega⟩
  have hkl := HKL.out
  have hrng := HRNG.out (ks[i]'hi) (List.getElem_mem hi)
  obtain ⟨ai, e_, hk0⟩ := Kd.at_int (Kd.R_reads' HI.out).2.2 (i : Int) (by omega) (by omega)
  cases e_
  rw [rd_ints ks i hi] at hk0
  have hsz := room_take l0 ks i hi
  have hgs := gather_size l0 (ks.take i)
  have hgt : El.gather l0 (ks.take (i + 1)) = if (bD_ l0 (ks[i]'hi)).f1 = El.nul then El.gather l0 (ks.take i) ++ (bD_ l0 (ks[i]'hi)).f2 else El.gather l0 (ks.take i) := by
   rw [List.take_succ_eq_append_getElem hi, gather_snoc]
  obtain ⟨x, hx⟩ : ∃ x, x = ks[i]'hi := ⟨_, rfl⟩
  rw [← hx] at hrng hk0 hsz hgt
  obtain ⟨ad, A3, c3, e_, q0, q1, q2, _⟩ := dM_ (Kd.C_below HR0.out HB.out) x hrng.1 hrng.2
  cases e_
  obtain ⟨nd, hnd⟩ : ∃ nd, nd = bD_ l0 x := ⟨_, rfl⟩
  rw [← hnd] at q0 q1 q2 hsz hgt
  simp only [Int.toNat_natCast] at hk0
  have hroom := HRM.out
  have d1 : decide ((i : Int) < (ks.length : Int)) = true := decide_eq_true (by omega)
  have d1' : decide (i < ks.length) = true := decide_eq_true hi
  have p1 := eq_true (show (0 : Int) ≤ (i : Int) by omega)
  have p2 := eq_true (show (i : Int) < (ks.length : Int) by omega)
  have p3 := eq_true hi
  have r1 := eq_true hrng.1
  have r2 := eq_true hrng.2
  have ew : wrap64 ((i : Int) + 1) = ((i + 1 : Nat) : Int) := by unfold wrap64; omega
  have s1 := cY_ nd.f1
  have HQ := aA_.mk (show (El.gather l0 (ks.take i)).size + nd.f2.size ≤ 140737488355328 by omega)
  by_cases hn : nd.f1 = El.nul
  rotate_left
  ·rw [decide_eq_false hn] at s1
   rw [if_neg hn] at hgt
   have HGT := aA_.mk hgt
   clear hgt hn hnd hx hsz hgs hroom hrng
   go_wp2_with (fail)
   go_roundg g
   case measure => omega
   case rel => exact ⟨i + 1, by omega, by first | rfl | (rw [ew]) | go_num, ⟨by rw [HGT.out]; exact HH.out⟩, HI, HB⟩
  rw [decide_eq_true hn] at s1
  rw [if_pos hn] at hgt
  have HGT := aA_.mk hgt
  clear hgt hn hnd hx hsz hgs hroom hrng
  go_wp2_with (first | (go_at_call 23; (with_reducible refine (HH.out.writeS HQ.out).mono ?_); rintro e w3 ⟨rfl, hh3, hb3, ho3⟩; have HH3 := aA_.mk hh3; have HB3 := aA_.mk (HB.out.trans hb3); have HI3 := aA_.mk (off_row HI.out ho3); clear hh3 hb3 ho3))
  go_roundg g
  case measure => omega
  case rel => exact ⟨i + 1, by omega, by first | rfl | (rw [ew]) | go_num, ⟨by rw [HGT.out]; exact HH3.out⟩, HI3, HB3⟩
 ·exact absurd h (by simp)
def bE_.l0 : Nat → List (S32) → ByteArray → List Int → Int → Option (ByteArray)
 | 0, _, _, _, _ => none
 | k + 1, x0, x5, x6, x7 => if x7 < (x6.length : Int) then (if 0 ≤ x7 then (if 0 ≤ (rd x6 x7) then (if (rd x6 x7) < (x0.length : Int) then (if ((bD_ x0 (rd x6 x7)).f1).toList = ([] : List UInt8) then (if x5.size + ((bD_ x0 (rd x6 x7)).f2).size ≤ 9223372036854775807 then (bE_.l0 k x0 (x5 ++ ((bD_ x0 (rd x6 x7)).f2)) x6 (wrap64 (x7 + 1))) else (none)) else (bE_.l0 k x0 x5 x6 (wrap64 (x7 + 1)))) else (none)) else (none)) else (none)) else (some x5)
def bE_.f (k : Nat) (l0 : List (S32)) (a1 : Int) : Option (ByteArray) := (a1_.f k l0 a1).bind fun t317 => (bE_.l0 k l0 (⟨#[]⟩ : ByteArray) t317 0)
theorem bE_.mono_l : ∀ k, (∀ y0 y1 y2 y3, LeO (bE_.l0 k y0 y1 y2 y3) (bE_.l0 (k + 1) y0 y1 y2 y3))
 | 0 => fun _ _ _ _ r h => by simp [bE_.l0] at h
 | k + 1 => by
  have ih0 := bE_.mono_l k
  ·intro y0 y1 y2 y3
   unfold bE_.l0
   have m0 := @a1_.mono
   exact mo
theorem bE_.mono : ∀ a0 a1 k, LeO (bE_.f k a0 a1) (bE_.f (k + 1) a0 a1) := by
 intro a0 a1 k
 have ih0 := bE_.mono_l k
 unfold bE_.f
 have m0 := @a1_.mono
 exact mo
theorem bE_.calls (k : Nat) (A0 : Option Addr) (c0 : Nat) (l0 : List (S32)) (a1 : Int) (r : ByteArray) (w : World) (hr0 : Kd.C k32 w A0 l0.length l0) (hc0 : l0.length ≤ c0) (hG : Glob w) (h : bE_.f k l0 a1 = some r) :
 Calls Tryz.prog 15 #[.slice A0 l0.length c0, .int .i64 a1] w fun e w' => e = .returned (.string r) ∧ Below w.heap.size w w' := by
 have HG := aA_.mk hG
 clear hG
 have HR0 := aA_.mk hr0
 have HC0 := aA_.mk hc0
 clear hr0 hc0
 have HB := aA_.mk (Below.refl w.heap.size w)
 have H : ((a1_.f k l0 a1).bind fun t317 => (bE_.l0 k l0 (⟨#[]⟩ : ByteArray) t317 0)) = some r := h
 clear h
 replace H := bi H
 obtain ⟨t317, A30, H⟩ := H
 try dsimp only at H
 have A3 := aA_.mk A30
 clear A30
 have H' := aA_.mk H
 clear H
 go_enter Tryz.func15, Tryz.ntmps15
 go_wp2_with (first | (refine gl (some 10) Tryz.func13 #[.slice A0 l0.length c0, .int .i64 a1] ?_; (with_reducible refine (a1_.calls k _ _ l0 a1 t317 _ ?side1 ?side2 (gS HG) A3.out).mono ?_); (case side1 => repeat (first | exact HR0.out | (with_reducible refine Kd.C_alloc ?_ _) | (with_reducible refine Kd.C_drewN ?_ _) | (with_reducible refine Kd.C_drew ?_))); (case side2 => exact HC0.out); rintro e w4 ⟨v318, rfl, ho0, hb⟩; refine ⟨_, rfl, ?_⟩; have HO319 := aA_.mk (Kd.R_lower ho0 (cA_ bE)); replace HB := sB hb; (try clear hb); (try clear ho0)))
 (try simp only [Act.put, List.setIfInBounds_toArray, List.set_cons_zero, List.set_cons_succ])
 go_loopg [5, 7] k (fun kq v5 v7 w' => ∃ (x5_1 : ByteArray) (x7_1 : Int), v5 = .string x5_1 ∧ v7 = .int .i64 x7_1 ∧ aA_ (bE_.l0 kq l0 x5_1 t317 x7_1 = some r) ∧ aA_ (kq ≤ k) ∧ aA_ (Kd.R (Kd.int .i64) 3 w' w.heap.size (fun _ => True) v318 t317) ∧ aA_ (Below w.heap.size w w'))
 case atStart => exact ⟨((⟨#[]⟩ : ByteArray)), (0), cA, cA, H', ⟨Nat.le_refl _⟩, ⟨kR HO319⟩, ⟨bE⟩⟩
 clear H'
 try clear c1
 try clear p2
 obtain ⟨x5_1, x7_1, rfl, rfl, HA, HK1, HO_6, HB⟩ := hrel
 cases gk with
 | zero => exact absurd HA.out (by simp [bE_.l0])
 | succ k1 =>
  have H := HA.out
  clear HA
  simp only [bE_.l0] at H
  (try simp only [toList_lit] at H)
  by_cases c5 : x7_1 < (t317.length : Int)
  rotate_left
  ·rw [if_neg c5] at H
   have c5b0 := dF c5
   clear c5
   obtain rfl := Option.some.inj H
   obtain ⟨Ao13, co13, eo13⟩ := Kd.R_slice HO_6.out
   subst eo13
   go_wp2
   go_ret
   exact ⟨eA, bE⟩
  rw [if_pos c5] at H
  have c5b0 := dT c5
  clear c5
  obtain ⟨c6, H⟩ := gp H
  have c6b0 := dT c6
  clear c6
  obtain ⟨c7, H⟩ := gp H
  have c7b0 := dT c7
  clear c7
  obtain ⟨c8, H⟩ := gp H
  have c8b0 := dT c8
  clear c8
  by_cases c9 : ((bD_ l0 (rd t317 x7_1)).f1).toList = ([] : List UInt8)
  rotate_left
  ·rw [if_neg c9] at H
   obtain ⟨c9b0, c9b1⟩ := eqF c9
   (try (have c9b2 : (((bD_ l0 (rd t317 x7_1)).f1).toList).isEmpty = false := by simpa using c9))
   have H' := aA_.mk H
   clear H
   obtain ⟨Ao12, co12, eo12⟩ := Kd.R_slice HO_6.out
   subst eo12
   have p320 : 0 ≤ (x7_1 : Int) := dA
   have q320 : x7_1 < (t317.length : Int) := dA
   (try (obtain ⟨Ao_, co_, eo_⟩ := Kd.R_slice HO_6.out; subst eo_))
   obtain ⟨ad320, e320, hx320_0⟩ := Kd.at_int (Kd.R_reads' HO_6.out).2.2 x7_1 p320 q320
   cases e320
   replace p320 := eq_true p320
   replace q320 := eq_true q320
   have p321 : 0 ≤ ((rd t317 x7_1) : Int) := dA
   have q321 : (rd t317 x7_1) < (l0.length : Int) := dA
   obtain ⟨ad321, A321_3, c321_3, e321, hx321_0, hx321_1, hx321_2, hx321_3, hl321_3, hi321_3⟩ := dM_ HR0.out (rd t317 x7_1) p321 q321
   cases e321
   replace hx321_0 := (HB.out.cell (World.block_lt_of_cell? w _ hx321_0)).trans hx321_0
   replace hx321_1 := (HB.out.cell (World.block_lt_of_cell? w _ hx321_1)).trans hx321_1
   replace hx321_2 := (HB.out.cell (World.block_lt_of_cell? w _ hx321_2)).trans hx321_2
   replace hx321_3 := (HB.out.cell (World.block_lt_of_cell? w _ hx321_3)).trans hx321_3
   have HR321_3 := aA_.mk hi321_3
   have HC321_3 := aA_.mk hl321_3
   clear hi321_3 hl321_3
   replace p321 := eq_true p321
   replace q321 := eq_true q321
   go_wp2
   go_roundg k1
   case measure => have := HK1.out; omega
   case rel => exact ⟨(x5_1), (wrap64 (x7_1 + 1)), cA, cA, H', ⟨by have := HK1.out; omega⟩, ⟨kR HO_6⟩, ⟨bE⟩⟩
  rw [if_pos c9] at H
  obtain ⟨c9b0, c9b1⟩ := eqT c9
  (try (have c9b2 : (((bD_ l0 (rd t317 x7_1)).f1).toList).isEmpty = true := by simpa using c9))
  clear c9
  obtain ⟨c10, H⟩ := gp H
  have c10b0 := eq_true c10
  have c10b1 := dT c10
  try have c10b2 : (9223372036854775807 < x5_1.size + ((bD_ l0 (rd t317 x7_1)).f2).size) = False := eq_false (Nat.not_lt.2 c10)
  have H' := aA_.mk H
  clear H
  obtain ⟨Ao11, co11, eo11⟩ := Kd.R_slice HO_6.out
  subst eo11
  have p320 : 0 ≤ (x7_1 : Int) := dA
  have q320 : x7_1 < (t317.length : Int) := dA
  (try (obtain ⟨Ao_, co_, eo_⟩ := Kd.R_slice HO_6.out; subst eo_))
  obtain ⟨ad320, e320, hx320_0⟩ := Kd.at_int (Kd.R_reads' HO_6.out).2.2 x7_1 p320 q320
  cases e320
  replace p320 := eq_true p320
  replace q320 := eq_true q320
  have p321 : 0 ≤ ((rd t317 x7_1) : Int) := dA
  have q321 : (rd t317 x7_1) < (l0.length : Int) := dA
  obtain ⟨ad321, A321_3, c321_3, e321, hx321_0, hx321_1, hx321_2, hx321_3, hl321_3, hi321_3⟩ := dM_ HR0.out (rd t317 x7_1) p321 q321
  cases e321
  replace hx321_0 := (HB.out.cell (World.block_lt_of_cell? w _ hx321_0)).trans hx321_0
  replace hx321_1 := (HB.out.cell (World.block_lt_of_cell? w _ hx321_1)).trans hx321_1
  replace hx321_2 := (HB.out.cell (World.block_lt_of_cell? w _ hx321_2)).trans hx321_2
  replace hx321_3 := (HB.out.cell (World.block_lt_of_cell? w _ hx321_3)).trans hx321_3
  have HR321_3 := aA_.mk hi321_3
  have HC321_3 := aA_.mk hl321_3
  clear hi321_3 hl321_3
  replace p321 := eq_true p321
  replace q321 := eq_true q321
  have p322 : 0 ≤ (x7_1 : Int) := dA
  have q322 : x7_1 < (t317.length : Int) := dA
  (try (obtain ⟨Ao_, co_, eo_⟩ := Kd.R_slice HO_6.out; subst eo_))
  obtain ⟨ad322, e322, hx322_0⟩ := Kd.at_int (Kd.R_reads' HO_6.out).2.2 x7_1 p322 q322
  obtain rfl : ad320 = ad322 := (by injection e322)
  replace p322 := eq_true p322
  replace q322 := eq_true q322
  have p323 : 0 ≤ ((rd t317 x7_1) : Int) := dA
  have q323 : (rd t317 x7_1) < (l0.length : Int) := dA
  obtain ⟨ad323, A323_3, c323_3, e323, hx323_0, hx323_1, hx323_2, hx323_3, hl323_3, hi323_3⟩ := dM_ HR0.out (rd t317 x7_1) p323 q323
  obtain rfl : ad321 = ad323 := (by injection e323)
  replace hx323_0 := (HB.out.cell (World.block_lt_of_cell? w _ hx323_0)).trans hx323_0
  replace hx323_1 := (HB.out.cell (World.block_lt_of_cell? w _ hx323_1)).trans hx323_1
  replace hx323_2 := (HB.out.cell (World.block_lt_of_cell? w _ hx323_2)).trans hx323_2
  replace hx323_3 := (HB.out.cell (World.block_lt_of_cell? w _ hx323_3)).trans hx323_3
  have HR323_3 := aA_.mk hi323_3
  have HC323_3 := aA_.mk hl323_3
  clear hi323_3 hl323_3
  replace p323 := eq_true p323
  replace q323 := eq_true q323
  have ea_ := Option.some.inj (hx321_3.symm.trans hx323_3)
  injection ea_ with ea_ en_ ec_
  subst ea_
  subst ec_
  clear en_
  go_wp2
  go_roundg k1
  case measure => have := HK1.out; omega
  case rel => exact ⟨(x5_1 ++ ((bD_ l0 (rd t317 x7_1)).f2)), (wrap64 (x7_1 + 1)), cA, cA, H', ⟨by have := HK1.out; omega⟩, ⟨kR HO_6⟩, ⟨bE⟩⟩
def cL_.f (a0 : Int) : Option (Bool) := if a0 = 9 then (some true) else (if a0 = 10 then (some true) else (if a0 = 13 then (some true) else (some (a0 == 32))))
theorem cL_.calls (a0 : Int) (r : Bool) (w : World) (hG : Glob w) (h : cL_.f a0 = some r) :
 Calls Tryz.prog 45 #[.int .u8 a0] w fun e w' => e = .returned (.bool r) ∧ aS_ w w' := by
 have HG := aA_.mk hG
 clear hG
 have H : (if a0 = 9 then (some true) else (if a0 = 10 then (some true) else (if a0 = 13 then (some true) else (some (a0 == 32))))) = some r := h
 clear h
 by_cases c2 : a0 = 9
 ·rw [if_pos c2] at H
  obtain ⟨c2b0, c2b1⟩ := eqT c2
  clear c2
  obtain rfl := Option.some.inj H
  go_enter Tryz.func45, Tryz.ntmps45
  go_wp2
  go_ret
  exact ⟨by first | rfl | (simp; done) | (simp [*]; done), r2a0_⟩
 rw [if_neg c2] at H
 obtain ⟨c2b0, c2b1⟩ := eqF c2
 by_cases c3 : a0 = 10
 ·rw [if_pos c3] at H
  obtain ⟨c3b0, c3b1⟩ := eqT c3
  clear c3
  obtain rfl := Option.some.inj H
  go_enter Tryz.func45, Tryz.ntmps45
  go_wp2
  go_ret
  exact ⟨by first | rfl | (simp; done) | (simp [*]; done), r2a0_⟩
 rw [if_neg c3] at H
 obtain ⟨c3b0, c3b1⟩ := eqF c3
 by_cases c4 : a0 = 13
 rotate_left
 ·rw [if_neg c4] at H
  obtain ⟨c4b0, c4b1⟩ := eqF c4
  obtain rfl := Option.some.inj H
  go_enter Tryz.func45, Tryz.ntmps45
  go_wp2
  go_ret
  exact ⟨by first | rfl | (simp; done) | (simp [*]; done), r2a0_⟩
 rw [if_pos c4] at H
 obtain ⟨c4b0, c4b1⟩ := eqT c4
 clear c4
 obtain rfl := Option.some.inj H
 go_enter Tryz.func45, Tryz.ntmps45
 go_wp2
 go_ret
 exact ⟨by first | rfl | (simp; done) | (simp [*]; done), r2a0_⟩
def chars_Allowed.f (a0 : Int) : Option (Bool) := if a0 > 32 then (some true) else ((cL_.f a0).bind fun t101 => (some t101))
theorem chars_Allowed.calls (a0 : Int) (r : Bool) (w : World) (hG : Glob w) (h : chars_Allowed.f a0 = some r) :
 Calls Tryz.prog 32 #[.int .u8 a0] w fun e w' => e = .returned (.bool r) ∧ aS_ w w' := by
 have HG := aA_.mk hG
 clear hG
 have H : (if a0 > 32 then (some true) else ((cL_.f a0).bind fun t101 => (some t101))) = some r := h
 clear h
 by_cases c2 : a0 > 32
 ·rw [if_pos c2] at H
  have c2b0 := dT c2
  clear c2
  obtain rfl := Option.some.inj H
  go_enter Tryz.func32, Tryz.ntmps32
  go_wp2
  go_ret
  exact ⟨by first | rfl | (simp; done) | (simp [*]; done), r2a0_⟩
 rw [if_neg c2] at H
 have c2b0 := dF c2
 clear c2
 replace H := bi H
 obtain ⟨t101, A30, H⟩ := H
 try dsimp only at H
 have A3 := aA_.mk A30
 clear A30
 obtain rfl := Option.some.inj H
 go_enter Tryz.func32, Tryz.ntmps32
 go_wp2_with (first | (go_at_call 45; (with_reducible refine (cL_.calls a0 t101 _ ?side1 A3.out).mono ?_); (case side1 => exact Glob.drawn HG.out (r2a0_)); rintro e w' ⟨rfl, ⟨nd, rfl⟩⟩))
 go_ret
 exact ⟨by first | rfl | (simp; done) | (simp [*]; done), r2a0_⟩
def bH_ (w : World) (B g : Nat) (ok : Nat → Prop) (s : ByteArray) (L : List S45) : Prop :=
 ∃ v, w.heap[g]? = some (.cells #[.string s, v] 72 (0, 0)) ∧ Kd.S k45 45 w B (fun k => ok k ∧ k ≠ g) v L ∧ B ≤ g ∧ 0 < B
theorem bH_.below {w w1 : World} {B g : Nat} {ok : Nat → Prop} {s : ByteArray} {L : List S45} (h : bH_ w B g ok s L) (hb : Below w.heap.size w w1) : bH_ w1 B g ok s L := by
 obtain ⟨v, h1, h2, h3⟩ := h
 exact ⟨v, b4_ h1 hb, Kd.S_below h2 hb, h3⟩
theorem bH_.left {w : World} {B g : Nat} {ok : Nat → Prop} {s : ByteArray} {L : List S45} (h : bH_ w B g ok s L) (x : ByteArray) : bH_ (w.setCell ⟨g, 0, none⟩ (.string x)) B g ok x L := by
 obtain ⟨v, h1, h2, h3⟩ := h
 exact ⟨v, by simpa using c5_ h1 0 (.string x), Kd.S_set h2 h1 (by decide) 0 _, h3⟩
theorem bH_.more {w : World} {B g : Nat} {ok ok' : Nat → Prop} {s : ByteArray} {L : List S45} (h : bH_ w B g ok s L) (hk : ∀ k, k < w.heap.size → ok k → ok' k) : bH_ w B g ok' s L := by
 obtain ⟨v, h1, h2, h3⟩ := h
 exact ⟨v, h1, Kd.S_mono (Kd.S_bound h2) (fun k hk' => ⟨hk k hk'.2.2.1 hk'.1.1, hk'.1.2⟩), h3⟩
theorem bH_.far {w : World} {B g : Nat} {ok : Nat → Prop} {s : ByteArray} {L : List S45} (h : bH_ w B g ok s L) {p : Addr} (hp : p.block ≠ g) (hk : ∀ k, ok k → k ≠ p.block) (u : Value) : bH_ (w.setCell p u) B g ok s L := by
 obtain ⟨v, h1, h2, h3⟩ := h
 exact ⟨v, bT_ h1 (fun e => hp e.symm) u, Kd.S_far h2 (fun k hk' => hk k hk'.1) u, h3⟩
theorem bH_.cell0 {w : World} {B g : Nat} {ok : Nat → Prop} {s : ByteArray} {L : List S45} (h : bH_ w B g ok s L) : w.cell? ⟨g, 0, none⟩ = some (.string s) := by
 obtain ⟨v, h1, h2, h3⟩ := h
 exact (aC_ h1 0).trans rfl
theorem bH_.frozen {w : World} {B g : Nat} {ok : Nat → Prop} {s : ByteArray} {L : List S45} (h : bH_ w B g ok s L) (i : Nat) : w.frozen? ⟨g, i, none⟩ = false := by
 obtain ⟨v, h1, h2, h3⟩ := h
 exact aE_ h1 i
theorem bH_.ge {w : World} {B g : Nat} {ok : Nat → Prop} {s : ByteArray} {L : List S45} (h : bH_ w B g ok s L) : B ≤ g := h.choose_spec.2.2.1
theorem bH_.pos {w : World} {B g : Nat} {ok : Nat → Prop} {s : ByteArray} {L : List S45} (h : bH_ w B g ok s L) : 0 < B := h.choose_spec.2.2.2
theorem bH_.lt {w : World} {B g : Nat} {ok : Nat → Prop} {s : ByteArray} {L : List S45} (h : bH_ w B g ok s L) : g < w.heap.size := cT_ h.choose_spec.1
theorem bH_.size {w : World} {B g : Nat} {ok : Nat → Prop} {s : ByteArray} {L : List S45} (h : bH_ w B g ok s L) : B ≤ w.heap.size := Nat.le_of_lt (Nat.lt_of_le_of_lt h.ge h.lt)
theorem bH_.apart {w : World} {B g : Nat} {ok okp : Nat → Prop} {v va : Value} {s : ByteArray} {L : List S45} {xs : List S53} (h1 : w.heap[g]? = some (.cells #[.string s, v] 72 (0, 0))) (h2 : Kd.S k45 45 w B ok v L) (ha : Kd.R k53 53 w B okp va xs) :
 Kd.R k53 53 w B (fun k => (okp k ∧ k ≠ g) ∧ some k ≠ v.ownBlock) va xs := by
 refine Kd.R_mono (Kd.R_bound ha) (fun k hk => ?_)
 obtain ⟨hok, _, _, q, hq, cells, hc⟩ := hk
 have hq' : q = 53 := by simpa [k53, Kd.iso, Kd.pair, Kd.string, Kd.scalar] using hq
 subst hq'
 refine ⟨⟨hok, ?_⟩, ?_⟩
 ·rintro rfl
  rw [h1] at hc
  injection hc with hc
  injection hc with _ hc
  exact absurd hc (by decide)
 ·intro he
  obtain ⟨cells', hc'⟩ := Kd.S_typed h2 k he.symm
  rw [hc'] at hc
  injection hc with hc
  injection hc with _ hc
  exact absurd hc (by decide)
theorem tokInfo : (Tryz.prog.info? 45).map (fun i => (i.zero, i.size, i.bytes)) = some (some (.agg #[.int .i64 0, .string ⟨#[]⟩, .string ⟨#[]⟩, .slice none 0 0, .bool false]), 5, 72) := by kernel_rfl
theorem dB_.calls (B g : Nat) {ok : Nat → Prop} (okp : Nat → Prop) (s : ByteArray) (L : List S45) (t : S45) (va : Value) (w : World) (h : bH_ w B g (fun k => ok k ∧ ¬ okp k) s L) (ha : Kd.R k53 53 w B okp va t.f3) (hop : ∀ k, okp k → ok k) (hok : ∀ k, w.heap.size ≤ k → ok k) (hl : L.length ≤ 100000) :
 Calls Tryz.prog 66 #[.pointer (some ⟨g, 0, none⟩), .agg #[.int .i64 t.f0, .string t.f1, .string t.f2, va, .bool t.f4]] w fun e w' => e = .returned (.bool true) ∧ bH_ w' B g ok s (L ++ [t]) ∧ Below B w w' := by
 have hgB := h.ge
 have hpos := h.pos
 have hsz := h.size
 obtain ⟨v, h1, h2, h3, _⟩ := h
 have ha' := bH_.apart h1 h2 ha
 obtain ⟨A0, c0, rfl⟩ := Kd.R_slice ha
 obtain ⟨A1, c1, rfl⟩ := Kd.S_slice h2
 have H1 := aA_.mk h1
 have H2 := aA_.mk h2
 have HA := aA_.mk ha'
 clear h1 h2 ha ha'
 go_enter Tryz.func66, Tryz.ntmps66
 go_wp2
 have hb0 : Below w.heap.size w (w.alloc (.cells #[.int .i64 t.f0, .string t.f1, .string t.f2, .slice A0 t.f3.length c0, .bool t.f4] 45)) := aH_ (Below.refl _ _) _
 have X : (w.alloc (.cells #[.int .i64 t.f0, .string t.f1, .string t.f2, .slice A0 t.f3.length c0, .bool t.f4] 45)).heap[w.heap.size]? = some (.cells #[.int .i64 t.f0, .string t.f1, .string t.f2, .slice A0 t.f3.length c0, .bool t.f4] 45 (0, 0)) := heap_alloc_new w _
 have HT1 := aA_.mk (b4_ H1.out hb0)
 have HT2 := aA_.mk (Kd.S_below H2.out hb0)
 have HTA := aA_.mk (Kd.R_below HA.out hb0)
 have HB := aA_.mk (hb0.mono hsz)
 have hwW : w.heap.size ≤ (w.alloc (.cells #[.int .i64 t.f0, .string t.f1, .string t.f2, .slice A0 t.f3.length c0, .bool t.f4] 45)).heap.size := hb0.size
 clear H1 H2 HA hb0
 generalize w.alloc _ = W at *
 have HX := aA_.mk X
 clear X
 have x0 := (aC_ HX.out 0).trans rfl
 have x1 := (aC_ HX.out 1).trans rfl
 have x2 := (aC_ HX.out 2).trans rfl
 have x3 := (aC_ HX.out 3).trans rfl
 have x4 := (aC_ HX.out 4).trans rfl
 have y1 := (aC_ HT1.out 1).trans rfl
 have z1 := aE_ HT1.out 1
 have y1a := fun o => (aC_ (aV_ HT1.out o) 1).trans rfl
 have hW : B ≤ W.heap.size := Nat.le_trans hsz HB.out.size
 have hfr : ∀ k, W.drew.heap.size ≤ k → ok k ∧ k ≠ g := fun k hk => by have := cT_ HT1.out; have e : W.drew.heap.size = W.heap.size := rfl; exact ⟨hok k (by omega), by omega⟩
 go_region_law (refine Kd.S_append_step k45 (w0 := w) (W := W.drew) B (by rfl) (.tmp 9) (.tmp 11) 22 45 _ 72 rfl Tryz.underlying22 tokInfo rfl (by decide) (by decide) (.slice A1 L.length c1) L t [.int .i64 t.f0, .string t.f1, .string t.f2, .slice A0 t.f3.length c0, .bool t.f4] (fun k => ok k ∧ k ≠ g) (fun k => (okp k ∧ k ≠ g) ∧ some k ≠ (Value.slice A1 L.length c1).ownBlock) rfl rfl (k45_mkM _ _ _ t (Kd.R_drew HTA.out)) (fun k hk => ⟨⟨hop k hk.1.1, hk.1.2⟩, hk.2⟩) hfr (Kd.S_mono (Kd.S_drew HT2.out) (fun k hk => ⟨⟨hk.1.1, hk.2⟩, fun h => hk.1.2 h.1.1⟩)) (b5_ HB.out) hW (by omega) ?_; intro v1 w1 r1 b1 g1 at1; obtain ⟨A2, c2, rfl⟩ := Kd.S_slice r1; have R1 := aA_.mk r1; have B1 := aA_.mk b1; have G1 := aA_.mk (b6_ (a0_ HT1.out) g1 (Kd.S_away HT2.out (fun k hk => hk.2))); clear r1 b1 g1 at1; have z2 := aE_ G1.out 1; have y2 := (aC_ G1.out 1).trans rfl)
 all_goals
  go_wp2
  go_ret
  have G2 := c5_ G1.out 1 (.slice A2 (L ++ [t]).length c2)
  have R2 := Kd.S_set R1.out G1.out (by decide) 1 (.slice A2 (L ++ [t]).length c2)
  have B2 := B1.out.setCell (p := ⟨g, 1, none⟩) hgB (.slice A2 (L ++ [t]).length c2)
  have el : (L ++ [t]).length = L.length + 1 := by simp
  rw [el] at G2 R2 B2
  exact ⟨rfl, ⟨_, by simpa using G2, R2, hgB, hpos⟩, B2⟩
theorem behind_some {x l r : List UInt8} (h : Tk.behind x l = some r) : Lib.hasPrefix l x = true ∧ Lib.trimPrefix l x = r := by
 unfold Tk.behind at h
 split at h
 ·rename_i hp
  injection h with h
  exact ⟨hp, by unfold Lib.trimPrefix; rw [if_pos (show Lib.hasPrefix l x = true from hp), h]⟩
 ·cases h
theorem behind_none {x l : List UInt8} (h : Tk.behind x l = none) : Lib.hasPrefix l x = false ∧ Lib.trimPrefix l x = l := by
 unfold Tk.behind at h
 split at h
 ·cases h
 ·rename_i hp
  have hp' : Lib.hasPrefix l x = false := Bool.eq_false_iff.2 hp
  exact ⟨hp', by unfold Lib.trimPrefix; rw [if_neg (by rw [hp']; decide)]⟩
theorem bC_.callsK (B g : Nat) {ok : Nat → Prop} (l x : List UInt8) (L : List S45) (w : World) (h : bH_ w B g ok (Tk.bs l) L) :
 Calls Tryz.prog 46 #[.pointer (some ⟨g, 0, none⟩), .string (Tk.bs x)] w fun e w' => e = .returned (.bool (Lib.hasPrefix l x)) ∧ bH_ w' B g ok (Tk.bs (Lib.trimPrefix l x)) L ∧ Below B w w' ∧ aJ_ w w' g none := by
 have c0 := h.cell0
 have f0 := h.frozen 0
 have H := aA_.mk h
 clear h
 go_enter Tryz.func46, Tryz.ntmps46
 go_wp2_with (first | (go_at_call 62; refine (Tryz.strings_CutPrefix _ _ _).mono ?_; rintro e w' ⟨rfl, rfl⟩))
 go_ret
 exact ⟨rfl, H.out.left _, (Below.refl _ _).setCell (p := ⟨g, 0, none⟩) H.out.ge _, (aJ_.refl _ _ _).set_ 0 _⟩
theorem bC_.yesK (B g : Nat) {ok : Nat → Prop} (l x r : List UInt8) (L : List S45) (w : World) (h : bH_ w B g ok (Tk.bs l) L) (hx : Tk.behind x l = some r) :
 Calls Tryz.prog 46 #[.pointer (some ⟨g, 0, none⟩), .string (Tk.bs x)] w fun e w' => e = .returned (.bool true) ∧ bH_ w' B g ok (Tk.bs r) L ∧ Below B w w' ∧ aJ_ w w' g none := by
 have := bC_.callsK B g l x L w h
 rwa [(behind_some hx).1, (behind_some hx).2] at this
theorem bC_.noK (B g : Nat) {ok : Nat → Prop} (l x : List UInt8) (L : List S45) (w : World) (h : bH_ w B g ok (Tk.bs l) L) (hx : Tk.behind x l = none) :
 Calls Tryz.prog 46 #[.pointer (some ⟨g, 0, none⟩), .string (Tk.bs x)] w fun e w' => e = .returned (.bool false) ∧ bH_ w' B g ok (Tk.bs l) L ∧ Below B w w' ∧ aJ_ w w' g none := by
 have := bC_.callsK B g l x L w h
 rwa [(behind_none hx).1, (behind_none hx).2] at this
theorem bC_.no (B g : Nat) {ok : Nat → Prop} (l x : List UInt8) (L : List S45) (w : World) (h : bH_ w B g ok (Tk.bs l) L) (hx : Tk.behind x l = none) :
 Calls Tryz.prog 46 #[.pointer (some ⟨g, 0, none⟩), .string (Tk.bs x)] w fun e w' => e = .returned (.bool false) ∧ bH_ w' B g ok (Tk.bs l) L ∧ Below B w w' := (bC_.noK B g l x L w h hx).mono fun e w' h => ⟨h.1, h.2.1, h.2.2.1⟩
theorem upto_some {x l a r : List UInt8} (h : Tk.upto x l = some (a, r)) : Lib.cut l x = (a, r, true) := by
 unfold Tk.upto at h
 unfold Lib.cut
 split at h
 ·rename_i hp
  injection h with h
  injection h with h1 h2
  rw [if_pos hp, h1, h2]
 ·cases h
theorem upto_none {x l : List UInt8} (h : Tk.upto x l = none) : Lib.cut l x = (l, [], false) := by
 unfold Tk.upto at h
 unfold Lib.cut
 split at h
 ·cases h
 ·rename_i hp
  rw [if_neg hp]
theorem bV_ (l : List UInt8) : (Tk.bs l).size = l.length := by rw [Lib.size_eq]; rfl
theorem bR_.callsK (B g : Nat) {ok : Nat → Prop} (l x : List UInt8) (L : List S45) (w : World) (h : bH_ w B g ok (Tk.bs l) L) (hG : Glob w) (hl : l.length ≤ 1000000) :
 Calls Tryz.prog 63 #[.pointer (some ⟨g, 0, none⟩), .string (Tk.bs x)] w fun e w' => e = .returned (.tuple #[.string (Tk.bs (Lib.cut l x).1), .bool (Lib.cut l x).2.2]) ∧ bH_ w' B g ok (Tk.bs (Lib.cut l x).2.1) L ∧ Below B w w' ∧ aJ_ w w' g none := by
 have hs : (Tk.bs l).size < 4294967281 := by rw [bV_]; omega
 have c0 := h.cell0
 have f0 := h.frozen 0
 obtain ⟨m, hm⟩ := hG
 have H := aA_.mk h
 clear h
 go_enter Tryz.func63, Tryz.ntmps63
 go_wp2_with (first | (go_at_call 79; refine (Tryz.strings_Cut _ _ m _ hs hm).mono ?_; rintro e w' ⟨rfl, nd, rfl⟩))
 go_ret2
 have h1 : bH_ (w.drewN nd) B g ok (Tk.bs l) L := H.out.below (aF_ (Below.refl _ _) nd)
 exact ⟨rfl, h1.left _, (aF_ (Below.refl _ _) nd).setCell (p := ⟨g, 0, none⟩) H.out.ge _, (aL_ (aJ_.refl _ _ _) nd).set_ 0 _⟩
theorem bR_.yesK (B g : Nat) {ok : Nat → Prop} (l x a r : List UInt8) (L : List S45) (w : World) (h : bH_ w B g ok (Tk.bs l) L) (hG : Glob w) (hl : l.length ≤ 1000000) (hx : Tk.upto x l = some (a, r)) :
 Calls Tryz.prog 63 #[.pointer (some ⟨g, 0, none⟩), .string (Tk.bs x)] w fun e w' => e = .returned (.tuple #[.string (Tk.bs a), .bool true]) ∧ bH_ w' B g ok (Tk.bs r) L ∧ Below B w w' ∧ aJ_ w w' g none := by
 have := bR_.callsK B g l x L w h hG hl
 rwa [upto_some hx] at this
theorem bR_.yes (B g : Nat) {ok : Nat → Prop} (l x a r : List UInt8) (L : List S45) (w : World) (h : bH_ w B g ok (Tk.bs l) L) (hG : Glob w) (hl : l.length ≤ 1000000) (hx : Tk.upto x l = some (a, r)) :
 Calls Tryz.prog 63 #[.pointer (some ⟨g, 0, none⟩), .string (Tk.bs x)] w fun e w' => e = .returned (.tuple #[.string (Tk.bs a), .bool true]) ∧ bH_ w' B g ok (Tk.bs r) L ∧ Below B w w' := (bR_.yesK B g l x a r L w h hG hl hx).mono fun e w' h => ⟨h.1, h.2.1, h.2.2.1⟩
theorem bR_.noK (B g : Nat) {ok : Nat → Prop} (l x : List UInt8) (L : List S45) (w : World) (h : bH_ w B g ok (Tk.bs l) L) (hG : Glob w) (hl : l.length ≤ 1000000) (hx : Tk.upto x l = none) :
 Calls Tryz.prog 63 #[.pointer (some ⟨g, 0, none⟩), .string (Tk.bs x)] w fun e w' => e = .returned (.tuple #[.string (Tk.bs l), .bool false]) ∧ bH_ w' B g ok (Tk.bs []) L ∧ Below B w w' ∧ aJ_ w w' g none := by
 have := bR_.callsK B g l x L w h hG hl
 rwa [upto_none hx] at this
theorem bR_.no (B g : Nat) {ok : Nat → Prop} (l x : List UInt8) (L : List S45) (w : World) (h : bH_ w B g ok (Tk.bs l) L) (hG : Glob w) (hl : l.length ≤ 1000000) (hx : Tk.upto x l = none) :
 Calls Tryz.prog 63 #[.pointer (some ⟨g, 0, none⟩), .string (Tk.bs x)] w fun e w' => e = .returned (.tuple #[.string (Tk.bs l), .bool false]) ∧ bH_ w' B g ok (Tk.bs []) L ∧ Below B w w' := (bR_.noK B g l x L w h hG hl hx).mono fun e w' h => ⟨h.1, h.2.1, h.2.2.1⟩
theorem contains_no {a x : List UInt8} (h : ¬ 0 ≤ Lib.index a x) : Lib.contains a x = false := by
 unfold Lib.contains
 exact decide_eq_false h
theorem contains_yes {a x : List UInt8} (h : 0 ≤ Lib.index a x) : Lib.contains a x = true := by
 unfold Lib.contains
 exact decide_eq_true h
theorem dK_ {x l a r : List UInt8} (h : Tk.upto x l = some (a, r)) : a.length ≤ l.length ∧ r.length ≤ l.length := by
 unfold Tk.upto at h
 split at h
 ·injection h with h
  injection h with h1 h2
  rw [← h1, ← h2, List.length_take, List.length_drop]
  omega
 ·cases h
theorem d2_.yes (B g : Nat) {ok : Nat → Prop} (l r : List UInt8) (t : S45) (L : List S45) (w : World) (h : bH_ w B g ok (Tk.bs l) L) (hG : Glob w) (hl : l.length ≤ 1000000) (hL : L.length ≤ 100000) (hok : ∀ k, w.heap.size ≤ k → ok k) (hx : Tk.comment l = some (t, r)) :
 Calls Tryz.prog 47 #[.pointer (some ⟨g, 0, none⟩)] w fun e w' => e = .returned (.bool true) ∧ bH_ w' B g ok (Tk.bs r) (L ++ [t]) ∧ Below B w w' := by
 unfold Tk.comment at hx
 obtain ⟨⟨a, b⟩, hu, hx⟩ := Option.bind_eq_some_iff.1 hx
 simp only at hx
 split at hx
 ·cases hx
 rename_i hn
 obtain ⟨rfl, rfl⟩ := Prod.mk.inj (Option.some.inj hx)
 have hn1 : ¬ 0 ≤ Lib.index a [45, 45] := fun h => hn (.inl h)
 have hn2 : Lib.hasSuffix a [45] = false := Bool.eq_false_iff.2 fun h => hn (.inr h)
 have hal := (dK_ hu).1
 have has : (Tk.bs a).size < 4294967281 := by rw [bV_]; omega
 have has2 : (Tk.bs a).size ≤ 9223372036854775807 := by omega
 have C1 : ∀ W, Glob W → Calls Tryz.prog 64 #[.string (Tk.bs a), .string (Tk.bs [45, 45])] W fun e w' => e = .returned (.bool false) ∧ w' = W := by
  intro W hW
  obtain ⟨m, hm⟩ := hW
  refine (Tryz.strings_Contains (Tk.bs a) (Tk.bs [45, 45]) m W has hm).mono ?_
  rintro e w' ⟨rfl, rfl⟩
  exact ⟨by rw [show Lib.contains (Tk.bs a).data.toList (Tk.bs [45, 45]).data.toList = false from contains_no hn1], rfl⟩
 have C2 : ∀ W, Calls Tryz.prog 65 #[.string (Tk.bs a), .string (Tk.bs [45])] W fun e w' => e = .returned (.bool false) ∧ w' = W := by
  intro W
  refine (Tryz.strings_HasSuffix (Tk.bs a) (Tk.bs [45]) W has2).mono ?_
  rintro e w' ⟨rfl, rfl⟩
  exact ⟨by rw [show Lib.hasSuffix (Tk.bs a).data.toList (Tk.bs [45]).data.toList = false from hn2], rfl⟩
 have hB := h.ge
 have hpos := h.pos
 have H := aA_.mk h
 have HG := aA_.mk hG
 have HU := aA_.mk hu
 clear h hG hu hn hn1 hn2 hx has has2
 go_enter Tryz.func47, Tryz.ntmps47
 go_wp2_with (first | (go_at_call 63; refine (bR_.yesK B g l [45, 45, 62] a _ L _ H.out HG.out hl HU.out).mono ?_; rintro e w1 ⟨rfl, h1, b1, k1⟩; have K1 := aA_.mk k1; clear k1; have H1 := aA_.mk h1; have B1 := aA_.mk b1; have HG1 := aA_.mk (HG.out.below b1 hpos); clear h1 b1) | (go_at_call 64; refine (C1 _ HG1.out).mono ?_; rintro e w2 ⟨rfl, rfl⟩) | (go_at_call 65; refine (C2 _).mono ?_; rintro e w2 ⟨rfl, rfl⟩) | (go_at_call 66; refine (dB_.calls B g (fun _ => False) _ L (Tk.tk 4 [] a [] false) (.slice none 0 0) _ (H1.out.more (fun k _ hk => ⟨hk, fun h => h⟩)) (Kd.R_nil _ _ _ _ _) (fun _ h => h.elim) (fun k hk => hok k (Nat.le_trans K1.out.1 hk)) hL).mono ?_; rintro e w3 ⟨rfl, h3, b3⟩; have H3 := aA_.mk h3; have B3 := aA_.mk b3; clear h3 b3))
 go_ret
 exact ⟨rfl, H3.out, B1.out.trans B3.out⟩
theorem d2_.no (B g : Nat) {ok : Nat → Prop} (l : List UInt8) (L : List S45) (w : World) (h : bH_ w B g ok (Tk.bs l) L) (hG : Glob w) (hl : l.length ≤ 1000000) (hx : Tk.comment l = none) :
 Calls Tryz.prog 47 #[.pointer (some ⟨g, 0, none⟩)] w fun e w' => e = .returned (.bool false) ∧ Below B w w' := by
 have hB := h.ge
 have hpos := h.pos
 unfold Tk.comment at hx
 have H := aA_.mk h
 have HG := aA_.mk hG
 clear h hG
 cases hu : Tk.upto [45, 45, 62] l with
 | none =>
  have HU := aA_.mk hu
  clear hu hx
  go_enter Tryz.func47, Tryz.ntmps47
  go_wp2_with (first | (go_at_call 63; refine (bR_.no B g l [45, 45, 62] L _ H.out HG.out hl HU.out).mono ?_; rintro e w1 ⟨rfl, h1, b1⟩; have B1 := aA_.mk b1; clear h1 b1))
  go_ret
  exact ⟨rfl, B1.out⟩
 | some p =>
  obtain ⟨a, r⟩ := p
  rw [hu, Option.bind_some] at hx
  have hn : 0 ≤ Lib.index a [45, 45] ∨ Lib.hasSuffix a [45] = true := by
   refine Classical.byContradiction fun hc => ?_
   rw [if_neg hc] at hx
   cases hx
  have hal := (dK_ hu).1
  have has : (Tk.bs a).size < 4294967281 := by rw [bV_]; omega
  have has2 : (Tk.bs a).size ≤ 9223372036854775807 := by omega
  have HU := aA_.mk hu
  clear hu hx
  by_cases h1 : 0 ≤ Lib.index a [45, 45]
  ·have C1 : ∀ W, Glob W → Calls Tryz.prog 64 #[.string (Tk.bs a), .string (Tk.bs [45, 45])] W fun e w' => e = .returned (.bool true) ∧ w' = W := by
    intro W hW
    obtain ⟨m, hm⟩ := hW
    refine (Tryz.strings_Contains (Tk.bs a) (Tk.bs [45, 45]) m W has hm).mono ?_
    rintro e w' ⟨rfl, rfl⟩
    exact ⟨by rw [show Lib.contains (Tk.bs a).data.toList (Tk.bs [45, 45]).data.toList = true from contains_yes h1], rfl⟩
   clear hn h1 has has2
   go_enter Tryz.func47, Tryz.ntmps47
   go_wp2_with (first | (go_at_call 63; refine (bR_.yes B g l [45, 45, 62] a _ L _ H.out HG.out hl HU.out).mono ?_; rintro e w1 ⟨rfl, h1, b1⟩; have B1 := aA_.mk b1; have HG1 := aA_.mk (HG.out.below b1 hpos); clear h1 b1) | (go_at_call 64; refine (C1 _ HG1.out).mono ?_; rintro e w2 ⟨rfl, rfl⟩))
   go_ret
   exact ⟨rfl, B1.out⟩
  have h2 := hn.resolve_left h1
  have C1 : ∀ W, Glob W → Calls Tryz.prog 64 #[.string (Tk.bs a), .string (Tk.bs [45, 45])] W fun e w' => e = .returned (.bool false) ∧ w' = W := by
   intro W hW
   obtain ⟨m, hm⟩ := hW
   refine (Tryz.strings_Contains (Tk.bs a) (Tk.bs [45, 45]) m W has hm).mono ?_
   rintro e w' ⟨rfl, rfl⟩
   exact ⟨by rw [show Lib.contains (Tk.bs a).data.toList (Tk.bs [45, 45]).data.toList = false from contains_no h1], rfl⟩
  have C2 : ∀ W, Calls Tryz.prog 65 #[.string (Tk.bs a), .string (Tk.bs [45])] W fun e w' => e = .returned (.bool true) ∧ w' = W := by
   intro W
   refine (Tryz.strings_HasSuffix (Tk.bs a) (Tk.bs [45]) W has2).mono ?_
   rintro e w' ⟨rfl, rfl⟩
   exact ⟨by rw [show Lib.hasSuffix (Tk.bs a).data.toList (Tk.bs [45]).data.toList = true from h2], rfl⟩
  clear hn h1 h2 has has2
  go_enter Tryz.func47, Tryz.ntmps47
  go_wp2_with (first | (go_at_call 63; refine (bR_.yes B g l [45, 45, 62] a _ L _ H.out HG.out hl HU.out).mono ?_; rintro e w1 ⟨rfl, h1, b1⟩; have B1 := aA_.mk b1; have HG1 := aA_.mk (HG.out.below b1 hpos); clear h1 b1) | (go_at_call 64; refine (C1 _ HG1.out).mono ?_; rintro e w2 ⟨rfl, rfl⟩) | (go_at_call 65; refine (C2 _).mono ?_; rintro e w2 ⟨rfl, rfl⟩))
  go_ret
  exact ⟨rfl, B1.out⟩
theorem token_walk_data.yes (B g : Nat) {ok : Nat → Prop} (l r : List UInt8) (t : S45) (L : List S45) (w : World) (h : bH_ w B g ok (Tk.bs l) L) (hG : Glob w) (hl : l.length ≤ 1000000) (hL : L.length ≤ 100000) (hok : ∀ k, w.heap.size ≤ k → ok k) (hx : Tk.data l = some (t, r)) :
 Calls Tryz.prog 48 #[.pointer (some ⟨g, 0, none⟩)] w fun e w' => e = .returned (.bool true) ∧ bH_ w' B g ok (Tk.bs r) (L ++ [t]) ∧ Below B w w' := by
 unfold Tk.data at hx
 obtain ⟨⟨a, b⟩, hu, hx⟩ := Option.map_eq_some_iff.1 hx
 obtain ⟨rfl, rfl⟩ := Prod.mk.inj hx
 have hB := h.ge
 have hpos := h.pos
 have H := aA_.mk h
 have HG := aA_.mk hG
 have HU := aA_.mk hu
 clear h hG hu hx
 go_enter Tryz.func48, Tryz.ntmps48
 go_wp2_with (first | (go_at_call 63; refine (bR_.yesK B g l [93, 93, 62] a _ L _ H.out HG.out hl HU.out).mono ?_; rintro e w1 ⟨rfl, h1, b1, k1⟩; have K1 := aA_.mk k1; clear k1; have H1 := aA_.mk h1; have B1 := aA_.mk b1; clear h1 b1) | (go_at_call 66; refine (dB_.calls B g (fun _ => False) _ L (Tk.tk 3 [] a [] false) (.slice none 0 0) _ (H1.out.more (fun k _ hk => ⟨hk, fun h => h⟩)) (Kd.R_nil _ _ _ _ _) (fun _ h => h.elim) (fun k hk => hok k (Nat.le_trans K1.out.1 hk)) hL).mono ?_; rintro e w3 ⟨rfl, h3, b3⟩; have H3 := aA_.mk h3; have B3 := aA_.mk b3; clear h3 b3))
 go_ret
 exact ⟨rfl, H3.out, B1.out.trans B3.out⟩
theorem token_walk_data.no (B g : Nat) {ok : Nat → Prop} (l : List UInt8) (L : List S45) (w : World) (h : bH_ w B g ok (Tk.bs l) L) (hG : Glob w) (hl : l.length ≤ 1000000) (hx : Tk.data l = none) :
 Calls Tryz.prog 48 #[.pointer (some ⟨g, 0, none⟩)] w fun e w' => e = .returned (.bool false) ∧ Below B w w' := by
 unfold Tk.data at hx
 have hu := Option.map_eq_none_iff.1 hx
 have H := aA_.mk h
 have HG := aA_.mk hG
 have HU := aA_.mk hu
 clear h hG hu hx
 go_enter Tryz.func48, Tryz.ntmps48
 go_wp2_with (first | (go_at_call 63; refine (bR_.no B g l [93, 93, 62] L _ H.out HG.out hl HU.out).mono ?_; rintro e w1 ⟨rfl, h1, b1⟩; have B1 := aA_.mk b1; clear h1 b1))
 go_ret
 exact ⟨rfl, B1.out⟩
theorem token_walk_prolog.yes (B g : Nat) {ok : Nat → Prop} (fst : Bool) (l r : List UInt8) (t : S45) (L : List S45) (w : World) (h : bH_ w B g ok (Tk.bs l) L) (hG : Glob w) (hl : l.length ≤ 1000000) (hL : L.length ≤ 100000) (hok : ∀ k, w.heap.size ≤ k → ok k) (hx : Tk.prolog fst l = some (t, r)) :
 Calls Tryz.prog 49 #[.pointer (some ⟨g, 0, none⟩), .bool fst] w fun e w' => e = .returned (.bool true) ∧ bH_ w' B g ok (Tk.bs r) (L ++ [t]) ∧ Below B w w' := by
 unfold Tk.prolog at hx
 obtain ⟨⟨a, b⟩, hu, hx⟩ := Option.bind_eq_some_iff.1 hx
 simp only at hx
 cases fst with
 | false => rw [if_neg (by decide)] at hx; cases hx
 | true =>
 rw [if_pos rfl] at hx
 obtain ⟨rfl, rfl⟩ := Prod.mk.inj (Option.some.inj hx)
 have H := aA_.mk h
 have HG := aA_.mk hG
 have HU := aA_.mk hu
 clear h hG hu hx
 go_enter Tryz.func49, Tryz.ntmps49
 go_wp2_with (first | (go_at_call 63; refine (bR_.yesK B g l [63, 62] a _ L _ H.out HG.out hl HU.out).mono ?_; rintro e w1 ⟨rfl, h1, b1, k1⟩; have K1 := aA_.mk k1; clear k1; have H1 := aA_.mk h1; have B1 := aA_.mk b1; clear h1 b1) | (go_at_call 66; refine (dB_.calls B g (fun _ => False) _ L (Tk.tk 5 [] a [] false) (.slice none 0 0) _ (H1.out.more (fun k _ hk => ⟨hk, fun h => h⟩)) (Kd.R_nil _ _ _ _ _) (fun _ h => h.elim) (fun k hk => hok k (Nat.le_trans K1.out.1 hk)) hL).mono ?_; rintro e w3 ⟨rfl, h3, b3⟩; have H3 := aA_.mk h3; have B3 := aA_.mk b3; clear h3 b3))
 go_ret
 exact ⟨rfl, H3.out, B1.out.trans B3.out⟩
theorem token_walk_prolog.no (B g : Nat) {ok : Nat → Prop} (fst : Bool) (l : List UInt8) (L : List S45) (w : World) (h : bH_ w B g ok (Tk.bs l) L) (hG : Glob w) (hl : l.length ≤ 1000000) (hx : Tk.prolog fst l = none) :
 Calls Tryz.prog 49 #[.pointer (some ⟨g, 0, none⟩), .bool fst] w fun e w' => e = .returned (.bool false) ∧ Below B w w' := by
 unfold Tk.prolog at hx
 have H := aA_.mk h
 have HG := aA_.mk hG
 clear h hG
 cases hu : Tk.upto [63, 62] l with
 | none =>
  have HU := aA_.mk hu
  clear hu hx
  go_enter Tryz.func49, Tryz.ntmps49
  go_wp2_with (first | (go_at_call 63; refine (bR_.no B g l [63, 62] L _ H.out HG.out hl HU.out).mono ?_; rintro e w1 ⟨rfl, h1, b1⟩; have B1 := aA_.mk b1; clear h1 b1))
  go_ret
  exact ⟨rfl, B1.out⟩
 | some p =>
  obtain ⟨a, r⟩ := p
  rw [hu, Option.bind_some] at hx
  cases fst with
  | true => rw [if_pos rfl] at hx; cases hx
  | false =>
  have HU := aA_.mk hu
  clear hu hx
  go_enter Tryz.func49, Tryz.ntmps49
  go_wp2_with (first | (go_at_call 63; refine (bR_.yes B g l [63, 62] a _ L _ H.out HG.out hl HU.out).mono ?_; rintro e w1 ⟨rfl, h1, b1⟩; have B1 := aA_.mk b1; clear h1 b1))
  go_ret
  exact ⟨rfl, B1.out⟩
theorem tw_at {p : UInt8 → Bool} : ∀ {l : List UInt8} {i : Nat} (h : i < (l.takeWhile p).length), ∃ h' : i < l.length, p l[i] = true
 | [], i, h => by simp at h
 | c :: r, i, h => by
  by_cases hc : p c = true
  ·rw [List.takeWhile_cons, if_pos hc] at h
   cases i with
   | zero => exact ⟨by simp, hc⟩
   | succ i =>
    obtain ⟨h', e⟩ := tw_at (l := r) (i := i) (by simpa using h)
    exact ⟨by simp; exact h', by simpa using e⟩
  ·rw [List.takeWhile_cons, if_neg hc] at h
   simp at h
theorem tw_end {p : UInt8 → Bool} : ∀ {l : List UInt8} (h : (l.takeWhile p).length < l.length), p l[(l.takeWhile p).length] = false
 | [], h => by simp at h
 | c :: r, h => by
  by_cases hc : p c = true
  ·have h2 : (r.takeWhile p).length < r.length := by
    rw [List.takeWhile_cons, if_pos hc] at h
    simpa using h
   have := tw_end h2
   simpa [List.takeWhile_cons, hc] using this
  ·simp [List.takeWhile_cons, hc]
theorem tw_le {p : UInt8 → Bool} (l : List UInt8) : (l.takeWhile p).length ≤ l.length := (List.takeWhile_sublist p).length_le
theorem dw_drop {p : UInt8 → Bool} : ∀ (l : List UInt8), l.dropWhile p = l.drop (l.takeWhile p).length
 | [] => rfl
 | c :: r => by
  by_cases hc : p c = true
  ·rw [List.dropWhile_cons, if_pos hc, List.takeWhile_cons, if_pos hc, List.length_cons, List.drop_succ_cons]
   exact dw_drop r
  ·rw [List.dropWhile_cons, if_neg hc, List.takeWhile_cons, if_neg hc]; rfl
theorem bs_bt (l : List UInt8) (i : Nat) (h : i < l.length) : bt (Tk.bs l) (i : Int) = (l[i].toNat : Int) := by
 unfold bt
 rw [dif_pos (by rw [bV_]; simpa using h)]
 rfl
theorem bs_drop (l : List UInt8) (i : Nat) : (Tk.bs l).extract i (Tk.bs l).size = Tk.bs (l.drop i) := by
 have : ((Tk.bs l).extract i (Tk.bs l).size).data.toList = (Tk.bs (l.drop i)).data.toList := by
  rw [Lib.extract_data, bV_]
  show (l.drop i).take (l.length - i) = l.drop i
  rw [List.take_of_length_le (by rw [List.length_drop]; omega)]
 cases h1 : (Tk.bs l).extract i (Tk.bs l).size with
 | mk d => rw [h1] at this; cases d; simp at this; subst this; rfl
theorem space_f (c : UInt8) : cL_.f (c.toNat : Int) = some (Tk.space c) := by
 unfold cL_.f Tk.space
 by_cases h1 : (c.toNat : Int) = 9
 ·have : c.toNat = 9 := by omega
  rw [if_pos h1, this]; rfl
 by_cases h2 : (c.toNat : Int) = 10
 ·have : c.toNat = 10 := by omega
  rw [if_neg h1, if_pos h2, this]; rfl
 by_cases h3 : (c.toNat : Int) = 13
 ·have : c.toNat = 13 := by omega
  rw [if_neg h1, if_neg h2, if_pos h3, this]; rfl
 rw [if_neg h1, if_neg h2, if_neg h3]
 congr 1
 rw [Bool.eq_iff_iff]
 simp only [beq_iff_eq, Bool.or_eq_true]
 omega
theorem cK_.callsK (B g : Nat) {ok : Nat → Prop} (l : List UInt8) (L : List S45) (w : World) (h : bH_ w B g ok (Tk.bs l) L) (hG : Glob w) (hl : l.length ≤ 1000000) :
 Calls Tryz.prog 68 #[.pointer (some ⟨g, 0, none⟩)] w fun e w' => e = .returned (.bool (decide ((Tk.skip l).length < l.length))) ∧ bH_ w' B g ok (Tk.bs (Tk.skip l)) L ∧ Below B w w' ∧ aJ_ w w' g none := by
 have hn := tw_le (p := Tk.space) l
 have hsk : Tk.skip l = l.drop (l.takeWhile Tk.space).length := dw_drop l
 have hin := fun i => tw_at (p := Tk.space) (l := l) (i := i)
 have hend := tw_end (p := Tk.space) (l := l)
 have hB := h.ge
 have hpos := h.pos
 obtain ⟨n0, hn0⟩ : ∃ n0, n0 = (l.takeWhile Tk.space).length := ⟨_, rfl⟩
 rw [← hn0] at hn hsk hin hend
 have hsz := bV_ l
 have hbt := bs_bt l
 have hdr := bs_drop l
 obtain ⟨s, hs⟩ : ∃ s, s = Tk.bs l := ⟨_, rfl⟩
 rw [← hs] at hsz hbt hdr h
 have HS := Lib.hid hs
 have HN := Lib.hid hn0
 have HSK := Lib.hid hsk
 have HIN := Lib.hid hin
 have HEND := Lib.hid hend
 have HSZ := Lib.hid hsz
 have HBT := Lib.hid hbt
 have HDR := Lib.hid hdr
 have H := aA_.mk h
 have HG := aA_.mk hG
 clear hs hn0 hsk hin hend hsz hbt hdr h hG
 go_enter Tryz.func68, Tryz.ntmps68
 go_wp2
 go_loopg [3] (n0 + 1) (fun gk v3 w' => ∃ (i : Nat) (x : Int), i ≤ n0 ∧ i + gk = n0 + 1 ∧ v3 = .int .i64 x ∧ aA_ (x = (i : Int)) ∧ aA_ (bH_ w' B g ok s L) ∧ aA_ (Below B w w') ∧ aA_ (aJ_ w w' g none))
 case atStart => exact ⟨0, 0, by omega, by omega, rfl, ⟨rfl⟩, H, ⟨Below.refl _ _⟩, ⟨aJ_.refl _ _ _⟩⟩
 clear H
 obtain ⟨i, x, hi, hgk, rfl, HX, H, HB, HK⟩ := hrel
 have c0 := H.out.cell0
 have f0 := H.out.frozen 0
 have hG1 : Glob wr := HG.out.below HB.out hpos
 by_cases hlt : i < n0
 ·obtain ⟨g1, rfl⟩ : ∃ g1, gk = g1 + 1 := ⟨gk - 1, by omega⟩
  obtain ⟨hil, hsp⟩ := HIN.out i hlt
  have hsz := HSZ.out
  have hxi := HX.out
  have d1 : decide (x < (s.size : Int)) = true := decide_eq_true (by omega)
  have p1 := eq_true (show 0 ≤ x by omega)
  have p2 := eq_true (show x < (s.size : Int) by omega)
  have hx := dP_ s x
  have hf : cL_.f (bt s x) = some true := by rw [hxi, HBT.out i hil, space_f, hsp]
  have HF := aA_.mk hf
  have HG1 := aA_.mk hG1
  have hw : wrap64 (x + 1) = ((i + 1 : Nat) : Int) := by unfold wrap64; omega
  have HW := aA_.mk hw
  clear hsz hf hG1 hsp hxi hw
  go_wp2_with (first | (go_at_call 45; (with_reducible refine (cL_.calls (bt s x) true _ HG1.out HF.out).mono ?_); rintro e w1 ⟨rfl, ⟨nd, rfl⟩⟩))
  go_roundg g1
  case measure => omega
  case rel => exact ⟨i + 1, _, by omega, by omega, by first | rfl | (simp; done), HW, ⟨H.out.below (aF_ (Below.refl _ _) nd)⟩, ⟨aF_ HB.out nd⟩, ⟨aL_ HK.out nd⟩⟩
 obtain rfl : i = n0 := by omega
 have hsz := HSZ.out
 have hxi := HX.out
 have hskl : (Tk.skip l).length = l.length - i := by rw [HSK.out, List.length_drop]
 have HSL := Lib.hid hskl
 have hbl : Below B w (wr.setCell ⟨g, 0, none⟩ (.string (s.extract x.toNat s.size))) := HB.out.setCell (p := ⟨g, 0, none⟩) hB _
 have p1 := eq_true (show 0 ≤ x by omega)
 have p3 := eq_true (show x ≤ (s.size : Int) by omega)
 have p3' : decide (x ≤ (s.size : Int)) = true := decide_eq_true (by omega)
 have hex : s.extract x.toNat s.size = Tk.bs (Tk.skip l) := by rw [hxi, Int.toNat_natCast, HDR.out, HSK.out]
 have hres : decide (x > 0) = decide ((Tk.skip l).length < l.length) := by rw [hskl]; congr 1; rw [eq_iff_iff]; omega
 have HEX := Lib.hid hex
 have HR := Lib.hid hres
 by_cases hl2 : i < l.length
 rotate_left
 ·have d1 : decide (x < (s.size : Int)) = false := decide_eq_false (by omega)
  clear hsz hG1 hxi hskl hex hres
  go_wp2
  go_ret
  refine ⟨by rw [HR.out]; rfl, ?_, ?_⟩
  ·rw [← HEX.out]
   exact H.out.left _
  ·exact ⟨HB.out.setCell (p := ⟨g, 0, none⟩) hB _, HK.out.set_ 0 _⟩
 have hns := HEND.out hl2
 have d1 : decide (x < (s.size : Int)) = true := decide_eq_true (by omega)
 have p2 := eq_true (show x < (s.size : Int) by omega)
 have hx := dP_ s x
 have hf : cL_.f (bt s x) = some false := by rw [hxi, HBT.out i hl2, space_f, hns]
 have HF := aA_.mk hf
 have HG1 := aA_.mk hG1
 clear hsz hf hG1 hns hxi hskl hex hres
 go_wp2_with (first | (go_at_call 45; (with_reducible refine (cL_.calls (bt s x) false _ HG1.out HF.out).mono ?_); rintro e w1 ⟨rfl, ⟨nd, rfl⟩⟩))
 go_ret
 refine ⟨by rw [HR.out]; rfl, ?_, ?_⟩
 ·rw [← HEX.out]
  exact (H.out.below (aF_ (Below.refl _ _) nd)).left _
 ·exact ⟨(aF_ HB.out nd).setCell (p := ⟨g, 0, none⟩) hB _, (aL_ HK.out nd).set_ 0 _⟩
theorem cK_.calls (B g : Nat) {ok : Nat → Prop} (l : List UInt8) (L : List S45) (w : World) (h : bH_ w B g ok (Tk.bs l) L) (hG : Glob w) (hl : l.length ≤ 1000000) :
 Calls Tryz.prog 68 #[.pointer (some ⟨g, 0, none⟩)] w fun e w' => e = .returned (.bool (decide ((Tk.skip l).length < l.length))) ∧ bH_ w' B g ok (Tk.bs (Tk.skip l)) L ∧ Below B w w' := (cK_.callsK B g l L w h hG hl).mono fun e w' h => ⟨h.1, h.2.1, h.2.2.1⟩
def c0_.f (a0 : Int) : Option (Bool) := if a0 ≥ 65 then (if a0 ≤ 90 then (some true) else (if a0 ≥ 97 then (if a0 ≤ 122 then (some true) else (some (a0 == 95))) else (some (a0 == 95)))) else (if a0 ≥ 97 then (if a0 ≤ 122 then (some true) else (some (a0 == 95))) else (some (a0 == 95)))
theorem c0_.calls (a0 : Int) (r : Bool) (w : World) (hG : Glob w) (h : c0_.f a0 = some r) :
 Calls Tryz.prog 94 #[.int .u8 a0] w fun e w' => e = .returned (.bool r) ∧ aS_ w w' := by
 have HG := aA_.mk hG
 clear hG
 have H : (if a0 ≥ 65 then (if a0 ≤ 90 then (some true) else (if a0 ≥ 97 then (if a0 ≤ 122 then (some true) else (some (a0 == 95))) else (some (a0 == 95)))) else (if a0 ≥ 97 then (if a0 ≤ 122 then (some true) else (some (a0 == 95))) else (some (a0 == 95)))) = some r := h
 clear h
 by_cases c2 : a0 ≥ 65
 rotate_left
 ·rw [if_neg c2] at H
  have c2b0 := dF c2
  clear c2
  by_cases c6 : a0 ≥ 97
  rotate_left
  ·rw [if_neg c6] at H
   have c6b0 := dF c6
   clear c6
   obtain rfl := Option.some.inj H
   go_enter Tryz.func94, Tryz.ntmps94
   go_wp2
   go_ret
   exact ⟨by first | rfl | (simp; done) | (simp [*]; done), r2a0_⟩
  rw [if_pos c6] at H
  have c6b0 := dT c6
  clear c6
  by_cases c7 : a0 ≤ 122
  rotate_left
  ·rw [if_neg c7] at H
   have c7b0 := dF c7
   clear c7
   obtain rfl := Option.some.inj H
   go_enter Tryz.func94, Tryz.ntmps94
   go_wp2
   go_ret
   exact ⟨by first | rfl | (simp; done) | (simp [*]; done), r2a0_⟩
  rw [if_pos c7] at H
  have c7b0 := dT c7
  clear c7
  obtain rfl := Option.some.inj H
  go_enter Tryz.func94, Tryz.ntmps94
  go_wp2
  go_ret
  exact ⟨by first | rfl | (simp; done) | (simp [*]; done), r2a0_⟩
 rw [if_pos c2] at H
 have c2b0 := dT c2
 clear c2
 by_cases c3 : a0 ≤ 90
 ·rw [if_pos c3] at H
  have c3b0 := dT c3
  clear c3
  obtain rfl := Option.some.inj H
  go_enter Tryz.func94, Tryz.ntmps94
  go_wp2
  go_ret
  exact ⟨by first | rfl | (simp; done) | (simp [*]; done), r2a0_⟩
 rw [if_neg c3] at H
 have c3b0 := dF c3
 clear c3
 by_cases c4 : a0 ≥ 97
 rotate_left
 ·rw [if_neg c4] at H
  have c4b0 := dF c4
  clear c4
  obtain rfl := Option.some.inj H
  go_enter Tryz.func94, Tryz.ntmps94
  go_wp2
  go_ret
  exact ⟨by first | rfl | (simp; done) | (simp [*]; done), r2a0_⟩
 rw [if_pos c4] at H
 have c4b0 := dT c4
 clear c4
 by_cases c5 : a0 ≤ 122
 rotate_left
 ·rw [if_neg c5] at H
  have c5b0 := dF c5
  clear c5
  obtain rfl := Option.some.inj H
  go_enter Tryz.func94, Tryz.ntmps94
  go_wp2
  go_ret
  exact ⟨by first | rfl | (simp; done) | (simp [*]; done), r2a0_⟩
 rw [if_pos c5] at H
 have c5b0 := dT c5
 clear c5
 obtain rfl := Option.some.inj H
 go_enter Tryz.func94, Tryz.ntmps94
 go_wp2
 go_ret
 exact ⟨by first | rfl | (simp; done) | (simp [*]; done), r2a0_⟩
def cX_.f (a0 : Int) : Option (Bool) := if a0 ≥ 48 then (some (decide (a0 ≤ 57))) else (some false)
theorem cX_.calls (a0 : Int) (r : Bool) (w : World) (hG : Glob w) (h : cX_.f a0 = some r) :
 Calls Tryz.prog 106 #[.int .u8 a0] w fun e w' => e = .returned (.bool r) ∧ aS_ w w' := by
 have HG := aA_.mk hG
 clear hG
 have H : (if a0 ≥ 48 then (some (decide (a0 ≤ 57))) else (some false)) = some r := h
 clear h
 by_cases c2 : a0 ≥ 48
 rotate_left
 ·rw [if_neg c2] at H
  have c2b0 := dF c2
  clear c2
  obtain rfl := Option.some.inj H
  go_enter Tryz.func106, Tryz.ntmps106
  go_wp2
  go_ret
  exact ⟨by first | rfl | (simp; done) | (simp [*]; done), r2a0_⟩
 rw [if_pos c2] at H
 have c2b0 := dT c2
 clear c2
 obtain rfl := Option.some.inj H
 go_enter Tryz.func106, Tryz.ntmps106
 go_wp2
 go_ret
 exact ⟨by first | rfl | (simp; done) | (simp [*]; done), r2a0_⟩
def d0_.f (a0 : Int) : Option (Bool) := (c0_.f a0).bind fun t106 => (if t106 = true then (some true) else ((cX_.f a0).bind fun t107 => (if t107 = true then (some true) else (if a0 = 45 then (some true) else (if a0 = 46 then (some true) else (some (a0 == 58)))))))
theorem d0_.calls (a0 : Int) (r : Bool) (w : World) (hG : Glob w) (h : d0_.f a0 = some r) :
 Calls Tryz.prog 95 #[.int .u8 a0] w fun e w' => e = .returned (.bool r) ∧ aS_ w w' := by
 have HG := aA_.mk hG
 clear hG
 have H : ((c0_.f a0).bind fun t106 => (if t106 = true then (some true) else ((cX_.f a0).bind fun t107 => (if t107 = true then (some true) else (if a0 = 45 then (some true) else (if a0 = 46 then (some true) else (some (a0 == 58)))))))) = some r := h
 clear h
 replace H := bi H
 obtain ⟨t106, A20, H⟩ := H
 try dsimp only at H
 have A2 := aA_.mk A20
 clear A20
 by_cases c3 : t106 = true
 ·subst c3
  replace H : (some true) = some r := by rw [if_pos rfl] at H; exact H
  obtain rfl := Option.some.inj H
  go_enter Tryz.func95, Tryz.ntmps95
  go_wp2_with (first | (refine gl (some 4) Tryz.func94 #[.int .u8 a0] ?_; (with_reducible refine (c0_.calls a0 true _ ?side1 A2.out).mono ?_); (case side1 => exact Glob.drawn HG.out (r2a0_)); rintro e w' ⟨rfl, ⟨nd, rfl⟩⟩; refine ⟨_, rfl, ?_⟩))
  go_ret
  exact ⟨by first | rfl | (simp; done) | (simp [*]; done), r2a0_⟩
 replace c3 := Bool.eq_false_iff.mpr c3
 subst c3
 replace H : ((cX_.f a0).bind fun t107 => (if t107 = true then (some true) else (if a0 = 45 then (some true) else (if a0 = 46 then (some true) else (some (a0 == 58)))))) = some r := by rw [if_neg nF] at H; exact H
 replace H := bi H
 obtain ⟨t107, A40, H⟩ := H
 try dsimp only at H
 have A4 := aA_.mk A40
 clear A40
 by_cases c5 : t107 = true
 ·subst c5
  replace H : (some true) = some r := by rw [if_pos rfl] at H; exact H
  obtain rfl := Option.some.inj H
  go_enter Tryz.func95, Tryz.ntmps95
  go_wp2_with (first | (refine gl (some 4) Tryz.func94 #[.int .u8 a0] ?_; (with_reducible refine (c0_.calls a0 false _ ?side1 A2.out).mono ?_); (case side1 => exact Glob.drawn HG.out (r2a0_)); rintro e w' ⟨rfl, ⟨nd, rfl⟩⟩; refine ⟨_, rfl, ?_⟩) | (go_at_call 106; (with_reducible refine (cX_.calls a0 true _ ?side1 A4.out).mono ?_); (case side1 => exact Glob.drawn HG.out (r2a0_)); rintro e w' ⟨rfl, ⟨nd, rfl⟩⟩))
  go_ret
  exact ⟨by first | rfl | (simp; done) | (simp [*]; done), r2a0_⟩
 replace c5 := Bool.eq_false_iff.mpr c5
 subst c5
 replace H : (if a0 = 45 then (some true) else (if a0 = 46 then (some true) else (some (a0 == 58)))) = some r := by rw [if_neg nF] at H; exact H
 by_cases c6 : a0 = 45
 ·rw [if_pos c6] at H
  obtain ⟨c6b0, c6b1⟩ := eqT c6
  clear c6
  obtain rfl := Option.some.inj H
  go_enter Tryz.func95, Tryz.ntmps95
  go_wp2_with (first | (refine gl (some 4) Tryz.func94 #[.int .u8 a0] ?_; (with_reducible refine (c0_.calls a0 false _ ?side1 A2.out).mono ?_); (case side1 => exact Glob.drawn HG.out (r2a0_)); rintro e w' ⟨rfl, ⟨nd, rfl⟩⟩; refine ⟨_, rfl, ?_⟩) | (go_at_call 106; (with_reducible refine (cX_.calls a0 false _ ?side1 A4.out).mono ?_); (case side1 => exact Glob.drawn HG.out (r2a0_)); rintro e w' ⟨rfl, ⟨nd, rfl⟩⟩))
  go_ret
  exact ⟨by first | rfl | (simp; done) | (simp [*]; done), r2a0_⟩
 rw [if_neg c6] at H
 obtain ⟨c6b0, c6b1⟩ := eqF c6
 by_cases c7 : a0 = 46
 rotate_left
 ·rw [if_neg c7] at H
  obtain ⟨c7b0, c7b1⟩ := eqF c7
  obtain rfl := Option.some.inj H
  go_enter Tryz.func95, Tryz.ntmps95
  go_wp2_with (first | (refine gl (some 4) Tryz.func94 #[.int .u8 a0] ?_; (with_reducible refine (c0_.calls a0 false _ ?side1 A2.out).mono ?_); (case side1 => exact Glob.drawn HG.out (r2a0_)); rintro e w' ⟨rfl, ⟨nd, rfl⟩⟩; refine ⟨_, rfl, ?_⟩) | (go_at_call 106; (with_reducible refine (cX_.calls a0 false _ ?side1 A4.out).mono ?_); (case side1 => exact Glob.drawn HG.out (r2a0_)); rintro e w' ⟨rfl, ⟨nd, rfl⟩⟩))
  go_ret
  exact ⟨by first | rfl | (simp; done) | (simp [*]; done), r2a0_⟩
 rw [if_pos c7] at H
 obtain ⟨c7b0, c7b1⟩ := eqT c7
 clear c7
 obtain rfl := Option.some.inj H
 go_enter Tryz.func95, Tryz.ntmps95
 go_wp2_with (first | (refine gl (some 4) Tryz.func94 #[.int .u8 a0] ?_; (with_reducible refine (c0_.calls a0 false _ ?side1 A2.out).mono ?_); (case side1 => exact Glob.drawn HG.out (r2a0_)); rintro e w' ⟨rfl, ⟨nd, rfl⟩⟩; refine ⟨_, rfl, ?_⟩) | (go_at_call 106; (with_reducible refine (cX_.calls a0 false _ ?side1 A4.out).mono ?_); (case side1 => exact Glob.drawn HG.out (r2a0_)); rintro e w' ⟨rfl, ⟨nd, rfl⟩⟩))
 go_ret
 exact ⟨by first | rfl | (simp; done) | (simp [*]; done), r2a0_⟩
mutual
def bY_.j0 : Nat → ByteArray → Bool → Option (ByteArray)
 | 0, _, _ => none
 | k + 1, x0, x11 => if x11 = true then (some (⟨#[]⟩ : ByteArray)) else (bY_.l0 k x0 1)
def bY_.l0 : Nat → ByteArray → Int → Option (ByteArray)
 | 0, _, _ => none
 | k + 1, x0, x3 => if x3 < (x0.size : Int) then (if 0 ≤ x3 then ((d0_.f (bt x0 x3)).bind fun t109 => (if t109 = true then (bY_.l0 k x0 (wrap64 (x3 + 1))) else (if x3 ≤ (x0.size : Int) then (some (x0.extract 0 (x3 : Int).toNat)) else (none)))) else (none)) else (if 0 ≤ x3 then (if x3 ≤ (x0.size : Int) then (some (x0.extract 0 (x3 : Int).toNat)) else (none)) else (none))
end
def bY_.f (k : Nat) (a0 : ByteArray) : Option (ByteArray) := if a0.toList = ([] : List UInt8) then (bY_.j0 k a0 true) else (if 0 < (a0.size : Int) then ((c0_.f (bt a0 0)).bind fun t108 => (bY_.j0 k a0 (!t108))) else (none))
theorem bY_.mono_l : ∀ k, (∀ y0 y1, LeO (bY_.j0 k y0 y1) (bY_.j0 (k + 1) y0 y1)) ∧ (∀ y0 y1, LeO (bY_.l0 k y0 y1) (bY_.l0 (k + 1) y0 y1))
 | 0 => ⟨fun _ _ r h => by simp [bY_.j0] at h, fun _ _ r h => by simp [bY_.l0] at h⟩
 | k + 1 => by
  obtain ⟨ih0, ih1⟩ := bY_.mono_l k
  refine ⟨?_, ?_⟩
  ·intro y0 y1
   unfold bY_.j0
   exact mo
  ·intro y0 y1
   unfold bY_.l0
   exact mo
theorem bY_.calls (k : Nat) (a0 : ByteArray) (r : ByteArray) (w : World) (hG : Glob w) (h : bY_.f k a0 = some r) :
 Calls Tryz.prog 82 #[.string a0] w fun e w' => e = .returned (.string r) ∧ aS_ w w' := by
 have HG := aA_.mk hG
 clear hG
 have H : (if a0.toList = ([] : List UInt8) then (bY_.j0 k a0 true) else (if 0 < (a0.size : Int) then ((c0_.f (bt a0 0)).bind fun t108 => (bY_.j0 k a0 (!t108))) else (none))) = some r := h
 clear h
 have HS2 := aA_.mk H
 clear H
 go_enter Tryz.func82, Tryz.ntmps82
 go_wp2
 refine dJ_ 0 (by rfl) ?_
 have H := HS2.out
 clear HS2
 have HC3 := aA_.mk H
 clear H
 go_upto_region 1 with (fail)
 go_cut [11] (fun v11 wc => ∃ (kq : Nat) (x11_2 : Bool), v11 = .bool x11_2 ∧ aA_ (bY_.j0 kq a0 x11_2 = some r) ∧ aA_ (kq ≤ k) ∧ aS_ w wc)
 case first =>
  have H := HC3.out
  clear HC3
  by_cases c4 : a0.toList = ([] : List UInt8)
  ·rw [if_pos c4] at H
   obtain ⟨c4b0, c4b1⟩ := eqT c4
   (try (have c4b2 : a0.toList.isEmpty = true := by simpa using c4))
   clear c4
   (first | rw [c4b0] | rw [c4b2] | (simp only [c6_, dY_]; rw [c4b0]) | skip)
   have H' := aA_.mk H
   clear H
   go_wp2
   go_meet
   case rel => exact ⟨_, (true), cA, H', ⟨by first | omega | exact Nat.le_refl _⟩, r2a0_⟩
  rw [if_neg c4] at H
  obtain ⟨c4b0, c4b1⟩ := eqF c4
  (try (have c4b2 : a0.toList.isEmpty = false := by simpa using c4))
  (first | rw [c4b0] | rw [c4b2] | (simp only [c6_, dY_]; rw [c4b0]) | skip)
  obtain ⟨c5, H⟩ := gp H
  have c5b0 := dT c5
  have c5b1 : decide (0 < a0.size) = true := decide_eq_true (by omega)
  clear c5
  replace H := bi H
  obtain ⟨t108, A70, H⟩ := H
  try dsimp only at H
  have A7 := aA_.mk A70
  clear A70
  have H' := aA_.mk H
  clear H
  have p6 : 0 ≤ (0 : Int) := (by omega)
  have q6 : 0 < a0.size := (by have : (0 : Int) < (a0.size : Int) := dA; omega)
  have hx6 : ∀ h : 0 < a0.size, ((a0[0]'h).toNat : Int) = bt a0 0 := dP_ a0 0
  clear p6
  have qi6 : (0 < (a0.size : Int)) = True := eq_true (dA)
  replace q6 := eq_true q6
  go_wp2_with (first | (go_at_call 94; (with_reducible refine (c0_.calls (bt a0 0) t108 _ ?side1 A7.out).mono ?_); (case side1 => exact Glob.drawn HG.out (r2a0_)); rintro e w' ⟨rfl, ⟨nd, rfl⟩⟩))
  go_meet
  case rel => exact ⟨_, (!t108), cA, H', ⟨by first | omega | exact Nat.le_refl _⟩, r2a0_⟩
 clear HC3
 try clear p2
 try clear c4
 try clear c4b0
 try clear c4b1
 try clear c4b2
 try clear c5
 try clear c5b0
 try clear c5b1
 try clear p6
 try clear q6
 try clear hx6
 try clear qi6
 try clear p6
 try clear q6
 obtain ⟨kq, x11_2, rfl, HA, HJ2, ⟨mc2, rfl⟩⟩ := hcut
 cases kq with
 | zero => exact absurd HA.out (by simp [bY_.j0])
 | succ kj2 =>
  have H := HA.out
  clear HA
  simp only [bY_.j0] at H
  (try simp only [toList_lit] at H)
  by_cases c8 : x11_2 = true
  ·subst c8
   replace H : (some (⟨#[]⟩ : ByteArray)) = some r := by rw [if_pos rfl] at H; exact H
   obtain rfl := Option.some.inj H
   go_wp2
   (try simp only [Exit.inBlock, Exit.then, dD_])
   go_ret
   exact ⟨by first | rfl | (simp; done) | (simp [*]; done), r2a0_⟩
  replace c8 := Bool.eq_false_iff.mpr c8
  subst c8
  replace H : (bY_.l0 kj2 a0 1) = some r := by rw [if_neg nF] at H; exact H
  have H' := aA_.mk H
  clear H
  go_wp2
  refine wp_label ?_
  rename_i hlb
  refine hlb _ _ ?_
  refine wp_at_label ?_
  refine LoopAt.intro (fun aB_ kq_ a1 w1 => ∃ (u2 u3 u12 u13 u14 u15 u16 u17 u18 u19 u20 u21 u22 u23 u24 u25 u26 : Value), (fun kq v3 w' => ∃ (x3_2 : Int), v3 = .int .i64 x3_2 ∧ aA_ (bY_.l0 kq a0 x3_2 = some r) ∧ aA_ (kq ≤ kj2) ∧ aS_ w w') kq_ u3 w1 ∧ a1 = (((((((((((((((((aB_.put (some 2) u2).put (some 3) u3).put (some 12) u12).put (some 13) u13).put (some 14) u14).put (some 15) u15).put (some 16) u16).put (some 17) u17).put (some 18) u18).put (some 19) u19).put (some 20) u20).put (some 21) u21).put (some 22) u22).put (some 23) u23).put (some 24) u24).put (some 25) u25).put (some 26) u26)) kj2 ?_ ?_
  ·(repeat apply Exists.intro)
   (try simp only [Act.put, List.setIfInBounds_toArray, List.set_cons_zero, List.set_cons_succ])
   refine ⟨?_, rfl⟩
   exact ⟨(1), cA, H', ⟨Nat.le_refl _⟩, r2a0_⟩
  ·intro gk a1 wr hinv
   obtain ⟨u2, u3, u12, u13, u14, u15, u16, u17, u18, u19, u20, u21, u22, u23, u24, u25, u26, hrel, ha⟩ := hinv
   subst ha
   (try simp only [Act.put, List.setIfInBounds_toArray, List.set_cons_zero, List.set_cons_succ])
   intro Js0 Ks0 hJs0 hKs0
   clear H'
   try clear c2
   try clear p2
   try clear c4
   try clear c4b0
   try clear c4b1
   try clear c4b2
   try clear c5
   try clear c5b0
   try clear c5b1
   try clear p6
   try clear q6
   try clear hx6
   try clear qi6
   try clear c8
   try clear p2
   try clear p6
   try clear q6
   obtain ⟨x3_2, rfl, HA, HK2, ⟨m2, rfl⟩⟩ := hrel
   cases gk with
   | zero => exact absurd HA.out (by simp [bY_.l0])
   | succ k2 =>
    have H := HA.out
    clear HA
    simp only [bY_.l0] at H
    by_cases c9 : x3_2 < (a0.size : Int)
    rotate_left
    ·rw [if_neg c9] at H
     have c9b0 := dF c9
     clear c9
     obtain ⟨c16, H⟩ := gp H
     have c16b0 := eq_true c16
     have c16b1 := dT c16
     clear c16
     obtain ⟨c17, H⟩ := gp H
     have c17b0 := eq_true c17
     have c17b1 := dT c17
     clear c17
     obtain rfl := Option.some.inj H
     go_wp2
     (try simp only [Exit.inBlock, Exit.then, dD_])
     go_ret
     exact ⟨by first | rfl | (simp; done) | (simp [*]; done), r2a0_⟩
    rw [if_pos c9] at H
    have c9b0 := dT c9
    clear c9
    obtain ⟨c10, H⟩ := gp H
    have c10b0 := dT c10
    clear c10
    replace H := bi H
    obtain ⟨t109, A120, H⟩ := H
    try dsimp only at H
    have A12 := aA_.mk A120
    clear A120
    by_cases c13 : t109 = true
    ·subst c13
     replace H : (bY_.l0 k2 a0 (wrap64 (x3_2 + 1))) = some r := by rw [if_pos rfl] at H; exact H
     have H' := aA_.mk H
     clear H
     have p11 : 0 ≤ (x3_2 : Int) := dA
     have q11 : x3_2 < (a0.size : Int) := dA
     have hx11 := dP_ a0 x3_2
     replace p11 := eq_true p11
     replace q11 := eq_true q11
     go_wp2_with (first | (go_at_call 95; (with_reducible refine (d0_.calls (bt a0 x3_2) true _ ?side1 A12.out).mono ?_); (case side1 => exact Glob.drawn HG.out (r2a0_)); rintro e w' ⟨rfl, ⟨nd, rfl⟩⟩))
     refine wp_goto (And.intro rfl ?_)
     refine hKs0 _ _ ?_
     go_roundg k2
     case measure => have := HJ2.out; have := HK2.out; omega
     case rel => exact ⟨(wrap64 (x3_2 + 1)), cA, H', ⟨by have := HJ2.out; have := HK2.out; omega⟩, r2a0_⟩
    replace c13 := Bool.eq_false_iff.mpr c13
    subst c13
    replace H : (if x3_2 ≤ (a0.size : Int) then (some (a0.extract 0 (x3_2 : Int).toNat)) else (none)) = some r := by rw [if_neg nF] at H; exact H
    have c14b0 := eq_true (dA : 0 ≤ x3_2)
    obtain ⟨c15, H⟩ := gp H
    have c15b0 := eq_true c15
    have c15b1 := dT c15
    clear c15
    obtain rfl := Option.some.inj H
    have p11 : 0 ≤ (x3_2 : Int) := dA
    have q11 : x3_2 < (a0.size : Int) := dA
    have hx11 := dP_ a0 x3_2
    replace p11 := eq_true p11
    replace q11 := eq_true q11
    go_wp2_with (first | (go_at_call 95; (with_reducible refine (d0_.calls (bt a0 x3_2) false _ ?side1 A12.out).mono ?_); (case side1 => exact Glob.drawn HG.out (r2a0_)); rintro e w' ⟨rfl, ⟨nd, rfl⟩⟩))
    (try simp only [Exit.inBlock, Exit.then, dD_])
    go_ret
    exact ⟨by first | rfl | (simp; done) | (simp [*]; done), r2a0_⟩
theorem first_f (c : UInt8) : c0_.f (c.toNat : Int) = some (Tk.letter c) := Tk.bytes_all (by kernel_rfl) c
theorem within_f (c : UInt8) : d0_.f (c.toNat : Int) = some (Tk.within c) := Tk.bytes_all (by kernel_rfl) c
theorem bs_take (l : List UInt8) (i : Nat) : (Tk.bs l).extract 0 i = Tk.bs (l.take i) := by
 have : ((Tk.bs l).extract 0 i).data.toList = (Tk.bs (l.take i)).data.toList := by
  rw [Lib.extract_data]
  show (l.drop 0).take (i - 0) = l.take i
  rw [List.drop_zero, Nat.sub_zero]
 cases h1 : (Tk.bs l).extract 0 i with
 | mk d => rw [h1] at this; cases d; simp at this; subst this; rfl
theorem dA_ (l : List UInt8) : (Tk.bs l).toList = l := Lib.toList_data _
theorem head_loop (c : UInt8) (r : List UInt8) (hl : r.length ≤ 1000000) : ∀ (d i : Nat), i + d = (r.takeWhile Tk.within).length → bY_.l0 (d + 1) (Tk.bs (c :: r)) ((i + 1 : Nat) : Int) = some (Tk.bs (c :: r.takeWhile Tk.within)) := by
 have hsz := bV_ (c :: r)
 rw [List.length_cons] at hsz
 have hle := tw_le (p := Tk.within) r
 have hfin : ∀ i, i = (r.takeWhile Tk.within).length → (Tk.bs (c :: r)).extract 0 (((i + 1 : Nat) : Int)).toNat = Tk.bs (c :: r.takeWhile Tk.within) := by
  intro i hi
  rw [Int.toNat_natCast, bs_take, hi, List.take_succ_cons]
  congr 2
  conv => lhs; arg 2; rw [← List.takeWhile_append_dropWhile (p := Tk.within) (l := r)]
  exact List.take_left
 intro d
 induction d with
 | zero =>
  intro i hi
  rw [Nat.add_zero] at hi
  rw [bY_.l0]
  by_cases hlt : i < r.length
  rotate_left
  ·rw [if_neg (by omega), if_pos (by omega), if_pos (by omega), hfin i hi]
  rw [if_pos (by omega), if_pos (by omega), bs_bt _ (i + 1) (by rw [List.length_cons]; omega), within_f]
  have hend := tw_end (p := Tk.within) (l := r) (by omega)
  have hq : Tk.within ((c :: r)[i + 1]'(by rw [List.length_cons]; omega)) = false := by
   rw [List.getElem_cons_succ]
   subst hi
   exact hend
  rw [hq, Option.bind_some, if_neg (by decide), if_pos (by omega), hfin i hi]
 | succ d ih =>
  intro i hi
  obtain ⟨hil, hw⟩ := tw_at (p := Tk.within) (l := r) (i := i) (by omega)
  rw [bY_.l0, if_pos (by omega), if_pos (by omega), bs_bt _ (i + 1) (by rw [List.length_cons]; omega), within_f]
  rw [show Tk.within ((c :: r)[i + 1]'(by rw [List.length_cons]; omega)) = true from by rw [List.getElem_cons_succ]; exact hw]
  rw [Option.bind_some, if_pos (show true = true from rfl)]
  have := ih (i + 1) (by omega)
  rw [show wrap64 (((i + 1 : Nat) : Int) + 1) = ((i + 1 + 1 : Nat) : Int) from by unfold wrap64; omega]
  exact this
theorem head_told (l : List UInt8) (hl : l.length ≤ 1000000) : ∃ k, bY_.f k (Tk.bs l) = some (Tk.bs (Tk.head l)) := by
 cases l with
 | nil => exact ⟨1, by kernel_rfl⟩
 | cons c r =>
  refine ⟨(r.takeWhile Tk.within).length + 2, ?_⟩
  rw [List.length_cons] at hl
  unfold bY_.f Tk.head
  rw [dA_, if_neg (by simp), bV_, if_pos (by rw [List.length_cons]; omega)]
  rw [show (0 : Int) = ((0 : Nat) : Int) from rfl, bs_bt _ 0 (by simp), first_f]
  rw [Option.bind_some]
  show bY_.j0 _ _ (!Tk.letter c) = _
  rw [bY_.j0]
  by_cases hc : Tk.letter c = true
  ·rw [hc, if_neg (by decide)]
   show _ = some (Tk.bs (if Tk.letter c = true then _ else []))
   rw [if_pos hc]
   exact head_loop c r (by omega) (r.takeWhile Tk.within).length 0 (by omega)
  ·rw [Bool.eq_false_iff.2 hc, if_pos (by decide)]
   show _ = some (Tk.bs (if Tk.letter c = true then _ else []))
   rw [if_neg hc]; rfl
theorem head_pre (l : List UInt8) : Tk.head l = l.take (Tk.head l).length := by
 cases l with
 | nil => rfl
 | cons c r =>
  show (if Tk.letter c = true then c :: r.takeWhile Tk.within else []) = (c :: r).take (if Tk.letter c = true then c :: r.takeWhile Tk.within else []).length
  by_cases hc : Tk.letter c = true
  ·rw [if_pos hc, List.length_cons, List.take_succ_cons]
   congr 1
   conv => rhs; arg 2; rw [← List.takeWhile_append_dropWhile (p := Tk.within) (l := r)]
   exact List.take_left.symm
  ·rw [if_neg hc]; rfl
theorem head_le (l : List UInt8) : (Tk.head l).length ≤ l.length := by
 conv => lhs; rw [head_pre l]
 rw [List.length_take]; omega
theorem cP_.callsK (B g : Nat) {ok : Nat → Prop} (l : List UInt8) (L : List S45) (w : World) (h : bH_ w B g ok (Tk.bs l) L) (hG : Glob w) (hl : l.length ≤ 1000000) :
 Calls Tryz.prog 67 #[.pointer (some ⟨g, 0, none⟩)] w fun e w' => e = .returned (.string (Tk.bs (Tk.head l))) ∧ bH_ w' B g ok (Tk.bs (l.drop (Tk.head l).length)) L ∧ Below B w w' ∧ aJ_ w w' g none := by
 obtain ⟨k, hk⟩ := head_told l hl
 have hle := head_le l
 have hB := h.ge
 have hsz := bV_ l
 have hsn := bV_ (Tk.head l)
 have hdr := bs_drop l (Tk.head l).length
 obtain ⟨s, hs⟩ : ∃ s, s = Tk.bs l := ⟨_, rfl⟩
 obtain ⟨nm, hnm⟩ : ∃ nm, nm = Tk.bs (Tk.head l) := ⟨_, rfl⟩
 rw [← hs] at hsz hdr h hk
 rw [← hnm] at hsn hk
 have c0 := h.cell0
 have f0 := h.frozen 0
 have HK := aA_.mk hk
 have HS := Lib.hid hs
 have HNM := Lib.hid hnm
 have HDR := Lib.hid hdr
 have hle2 : (nm.size : Int) ≤ (s.size : Int) := by omega
 have p3 := eq_true hle2
 have p3' : decide ((nm.size : Int) ≤ (s.size : Int)) = true := decide_eq_true hle2
 have p4 : (nm.size ≤ s.size) = True := eq_true (by omega)
 have HSN := Lib.hid hsn
 have H := aA_.mk h
 have HG := aA_.mk hG
 clear hs hnm hdr hk hsz hsn h hle hG hle2
 go_enter Tryz.func67, Tryz.ntmps67
 go_wp2_with (first | (go_at_call 82; (with_reducible refine (bY_.calls k s nm _ HG.out HK.out).mono ?_); rintro e w1 ⟨rfl, ⟨nd, rfl⟩⟩))
 go_ret
 refine ⟨by rw [HNM.out]; rfl, ?_, ?_⟩
 ·have := (H.out.below (aF_ (Below.refl _ _) nd)).left (s.extract nm.size s.size)
  rw [← HDR.out, ← HSN.out]
  exact this
 ·exact ⟨(aF_ (Below.refl _ _) nd).setCell (p := ⟨g, 0, none⟩) hB _, (aL_ (aJ_.refl _ _ _) nd).set_ 0 _⟩
theorem cP_.calls (B g : Nat) {ok : Nat → Prop} (l : List UInt8) (L : List S45) (w : World) (h : bH_ w B g ok (Tk.bs l) L) (hG : Glob w) (hl : l.length ≤ 1000000) :
 Calls Tryz.prog 67 #[.pointer (some ⟨g, 0, none⟩)] w fun e w' => e = .returned (.string (Tk.bs (Tk.head l))) ∧ bH_ w' B g ok (Tk.bs (l.drop (Tk.head l).length)) L ∧ Below B w w' := (cP_.callsK B g l L w h hG hl).mono fun e w' h => ⟨h.1, h.2.1, h.2.2.1⟩
theorem skip_len (l : List UInt8) : (Tk.skip l).length ≤ l.length := by
 rw [show Tk.skip l = l.drop (l.takeWhile Tk.space).length from dw_drop l, List.length_drop]; omega
theorem bs_none {l : List UInt8} (h : l = []) : (Tk.bs l).toList = [] := by rw [dA_, h]
theorem bs_some {l : List UInt8} (h : l ≠ []) : ((Tk.bs l).toList = []) = False ∧ (Tk.bs l).toList.isEmpty = false ∧ ((Tk.bs l).toList == []) = false ∧ ((Tk.bs l).toList != []) = true := by
 rw [dA_]
 refine ⟨eq_false h, ?_, ?_, ?_⟩ <;> cases l <;> first | exact absurd rfl h | rfl
theorem token_walk_end.yes (B g : Nat) {ok : Nat → Prop} (l r : List UInt8) (t : S45) (L : List S45) (w : World) (h : bH_ w B g ok (Tk.bs l) L) (hG : Glob w) (hl : l.length ≤ 1000000) (hL : L.length ≤ 100000) (hok : ∀ k, w.heap.size ≤ k → ok k) (hx : Tk.close l = some (t, r)) :
 Calls Tryz.prog 50 #[.pointer (some ⟨g, 0, none⟩)] w fun e w' => e = .returned (.bool true) ∧ bH_ w' B g ok (Tk.bs r) (L ++ [t]) ∧ Below B w w' := by
 unfold Tk.close at hx
 by_cases hh : Tk.head l = []
 ·rw [if_pos hh] at hx; cases hx
 rw [if_neg hh] at hx
 obtain ⟨b, hu, hx⟩ := Option.map_eq_some_iff.1 hx
 obtain ⟨rfl, rfl⟩ := Prod.mk.inj hx
 obtain ⟨e1, e2, e3, e4⟩ := bs_some hh
 have hpos := h.pos
 have hl1 : (l.drop (Tk.head l).length).length ≤ 1000000 := by rw [List.length_drop]; omega
 have H := aA_.mk h
 have HG := aA_.mk hG
 have HU := aA_.mk hu
 clear h hG hu hx hh
 go_enter Tryz.func50, Tryz.ntmps50
 go_wp2_with (first | (go_at_call 67; refine (cP_.callsK B g l L _ H.out HG.out hl).mono ?_; rintro e w1 ⟨rfl, h1, b1, k1⟩; have K1 := aA_.mk k1; clear k1; have H1 := aA_.mk h1; have B1 := aA_.mk b1; have HG1 := aA_.mk (HG.out.below b1 hpos); clear h1 b1) | (go_at_call 68; refine (cK_.callsK B g _ L _ H1.out HG1.out hl1).mono ?_; rintro e w2 ⟨rfl, h2, b2, k2⟩; have K2 := aA_.mk k2; clear k2; have H2 := aA_.mk h2; have B2 := aA_.mk b2; clear h2 b2) | (go_at_call 46; refine (bC_.yesK B g _ [62] _ L _ H2.out HU.out).mono ?_; rintro e w3 ⟨rfl, h3, b3, k3⟩; have K3 := aA_.mk k3; clear k3; have H3 := aA_.mk h3; have B3 := aA_.mk b3; clear h3 b3) | (go_at_call 66; refine (dB_.calls B g (fun _ => False) _ L (Tk.tk 2 (Tk.head l) [] [] false) (.slice none 0 0) _ (H3.out.more (fun k _ hk => ⟨hk, fun h => h⟩)) (Kd.R_nil _ _ _ _ _) (fun _ h => h.elim) (fun k hk => hok k (Nat.le_trans (Nat.le_trans (Nat.le_trans K1.out.1 K2.out.1) K3.out.1) hk)) hL).mono ?_; rintro e w4 ⟨rfl, h4, b4⟩; have H4 := aA_.mk h4; have B4 := aA_.mk b4; clear h4 b4))
 go_ret
 exact ⟨rfl, H4.out, ((B1.out.trans B2.out).trans B3.out).trans B4.out⟩
theorem token_walk_end.no (B g : Nat) {ok : Nat → Prop} (l : List UInt8) (L : List S45) (w : World) (h : bH_ w B g ok (Tk.bs l) L) (hG : Glob w) (hl : l.length ≤ 1000000) (hx : Tk.close l = none) :
 Calls Tryz.prog 50 #[.pointer (some ⟨g, 0, none⟩)] w fun e w' => e = .returned (.bool false) ∧ Below B w w' := by
 unfold Tk.close at hx
 have hpos := h.pos
 have hl1 : (l.drop (Tk.head l).length).length ≤ 1000000 := by rw [List.length_drop]; omega
 have H := aA_.mk h
 have HG := aA_.mk hG
 clear h hG
 by_cases hh : Tk.head l = []
 ·clear hx
  have e1 := bs_none hh
  clear hh
  go_enter Tryz.func50, Tryz.ntmps50
  go_wp2_with (first | (go_at_call 67; refine (cP_.calls B g l L _ H.out HG.out hl).mono ?_; rintro e w1 ⟨rfl, h1, b1⟩; have H1 := aA_.mk h1; have B1 := aA_.mk b1; have HG1 := aA_.mk (HG.out.below b1 hpos); clear h1 b1) | (go_at_call 68; refine (cK_.calls B g _ L _ H1.out HG1.out hl1).mono ?_; rintro e w2 ⟨rfl, h2, b2⟩; have H2 := aA_.mk h2; have B2 := aA_.mk b2; clear h2 b2))
  go_ret
  exact ⟨rfl, B1.out.trans B2.out⟩
 rw [if_neg hh] at hx
 have hu := Option.map_eq_none_iff.1 hx
 obtain ⟨e1, e2, e3, e4⟩ := bs_some hh
 have HU := aA_.mk hu
 clear hx hu hh
 go_enter Tryz.func50, Tryz.ntmps50
 go_wp2_with (first | (go_at_call 67; refine (cP_.calls B g l L _ H.out HG.out hl).mono ?_; rintro e w1 ⟨rfl, h1, b1⟩; have H1 := aA_.mk h1; have B1 := aA_.mk b1; have HG1 := aA_.mk (HG.out.below b1 hpos); clear h1 b1) | (go_at_call 68; refine (cK_.calls B g _ L _ H1.out HG1.out hl1).mono ?_; rintro e w2 ⟨rfl, h2, b2⟩; have H2 := aA_.mk h2; have B2 := aA_.mk b2; clear h2 b2) | (go_at_call 46; refine (bC_.no B g _ [62] L _ H2.out HU.out).mono ?_; rintro e w3 ⟨rfl, h3, b3⟩; have B3 := aA_.mk b3; clear h3 b3))
 go_ret
 exact ⟨rfl, (B1.out.trans B2.out).trans B3.out⟩
mutual
def bO_.j0 : Nat → Int → Int → Int → Bool → Option (Int)
 | 0, _, _, _, _ => none
 | k + 1, x0, x1, x5, x12 => if x12 = true then (if (((x0 - 97) % 256) + 10) ≥ x1 then (some (-1)) else (some (((x0 - 97) % 256) + 10))) else (if x0 ≥ 65 then (bO_.j1 k x0 x1 x5 (decide (x0 ≤ 70))) else (bO_.j1 k x0 x1 x5 false))
def bO_.j1 : Nat → Int → Int → Int → Bool → Option (Int)
 | 0, _, _, _, _ => none
 | k + 1, x0, x1, x5, x23 => if x23 = true then (if (((x0 - 65) % 256) + 10) ≥ x1 then (some (-1)) else (some (((x0 - 65) % 256) + 10))) else (if x5 ≥ x1 then (some (-1)) else (some x5))
end
def bO_.f (k : Nat) (a0 : Int) (a1 : Int) : Option (Int) := (cX_.f a0).bind fun t111 => (if t111 = true then (if ((a0 - 48) % 256) ≥ a1 then (some (-1)) else (some ((a0 - 48) % 256))) else (if a0 ≥ 97 then (bO_.j0 k a0 a1 (-1) (decide (a0 ≤ 102))) else (bO_.j0 k a0 a1 (-1) false)))
theorem bO_.mono_l : ∀ k, (∀ y0 y1 y2 y3, LeO (bO_.j0 k y0 y1 y2 y3) (bO_.j0 (k + 1) y0 y1 y2 y3)) ∧ (∀ y0 y1 y2 y3, LeO (bO_.j1 k y0 y1 y2 y3) (bO_.j1 (k + 1) y0 y1 y2 y3))
 | 0 => ⟨fun _ _ _ _ r h => by simp [bO_.j0] at h, fun _ _ _ _ r h => by simp [bO_.j1] at h⟩
 | k + 1 => by
  obtain ⟨ih0, ih1⟩ := bO_.mono_l k
  refine ⟨?_, ?_⟩
  ·intro y0 y1 y2 y3
   unfold bO_.j0
   exact mo
  ·intro y0 y1 y2 y3
   unfold bO_.j1
   exact mo
theorem bO_.calls (k : Nat) (a0 : Int) (a1 : Int) (r : Int) (w : World) (hG : Glob w) (h : bO_.f k a0 a1 = some r) :
 Calls Tryz.prog 107 #[.int .u8 a0, .int .i64 a1] w fun e w' => e = .returned (.int .i64 r) ∧ aS_ w w' := by
 have HG := aA_.mk hG
 clear hG
 have H : ((cX_.f a0).bind fun t111 => (if t111 = true then (if ((a0 - 48) % 256) ≥ a1 then (some (-1)) else (some ((a0 - 48) % 256))) else (if a0 ≥ 97 then (bO_.j0 k a0 a1 (-1) (decide (a0 ≤ 102))) else (bO_.j0 k a0 a1 (-1) false)))) = some r := h
 clear h
 replace H := bi H
 obtain ⟨t111, A30, H⟩ := H
 try dsimp only at H
 have A3 := aA_.mk A30
 clear A30
 by_cases c4 : t111 = true
 ·subst c4
  replace H : (if ((a0 - 48) % 256) ≥ a1 then (some (-1)) else (some ((a0 - 48) % 256))) = some r := by rw [if_pos rfl] at H; exact H
  by_cases c5 : ((a0 - 48) % 256) ≥ a1
  rotate_left
  ·rw [if_neg c5] at H
   have c5b0 := dF c5
   clear c5
   obtain rfl := Option.some.inj H
   go_enter Tryz.func107, Tryz.ntmps107
   go_wp2_with (first | (refine gl (some 8) Tryz.func106 #[.int .u8 a0] ?_; (with_reducible refine (cX_.calls a0 true _ ?side1 A3.out).mono ?_); (case side1 => exact Glob.drawn HG.out (r2a0_)); rintro e w' ⟨rfl, ⟨nd, rfl⟩⟩; refine ⟨_, rfl, ?_⟩))
   go_ret
   exact ⟨by first | rfl | (simp; done) | (simp [*]; done), r2a0_⟩
  rw [if_pos c5] at H
  have c5b0 := dT c5
  clear c5
  obtain rfl := Option.some.inj H
  go_enter Tryz.func107, Tryz.ntmps107
  go_wp2_with (first | (refine gl (some 8) Tryz.func106 #[.int .u8 a0] ?_; (with_reducible refine (cX_.calls a0 true _ ?side1 A3.out).mono ?_); (case side1 => exact Glob.drawn HG.out (r2a0_)); rintro e w' ⟨rfl, ⟨nd, rfl⟩⟩; refine ⟨_, rfl, ?_⟩))
  go_ret
  exact ⟨by first | rfl | (simp; done) | (simp [*]; done), r2a0_⟩
 replace c4 := Bool.eq_false_iff.mpr c4
 subst c4
 replace H : (if a0 ≥ 97 then (bO_.j0 k a0 a1 (-1) (decide (a0 ≤ 102))) else (bO_.j0 k a0 a1 (-1) false)) = some r := by rw [if_neg nF] at H; exact H
 have HC6 := aA_.mk H
 clear H
 go_enter Tryz.func107, Tryz.ntmps107
 go_upto_region 4 with (first | (refine gl (some 8) Tryz.func106 #[.int .u8 a0] ?_; (with_reducible refine (cX_.calls a0 false _ ?side1 A3.out).mono ?_); (case side1 => exact Glob.drawn HG.out (r2a0_)); rintro e w' ⟨rfl, ⟨nd, rfl⟩⟩; refine ⟨_, rfl, ?_⟩))
 (try simp only [Act.put, List.setIfInBounds_toArray, List.set_cons_zero, List.set_cons_succ])
 go_cut [12] (fun v12 wc => ∃ (kq : Nat) (x12_5 : Bool), v12 = .bool x12_5 ∧ aA_ (bO_.j0 kq a0 a1 (-1) x12_5 = some r) ∧ aA_ (kq ≤ k) ∧ aS_ w wc)
 case first =>
  have H := HC6.out
  clear HC6
  by_cases c7 : a0 ≥ 97
  rotate_left
  ·rw [if_neg c7] at H
   have c7b0 := dF c7
   clear c7
   (first | rw [c7b0] | (simp only [c6_, dY_]; rw [c7b0]) | skip)
   have H' := aA_.mk H
   clear H
   go_wp2
   go_meet
   case rel => exact ⟨_, (false), cA, H', ⟨by first | omega | exact Nat.le_refl _⟩, r2a0_⟩
  rw [if_pos c7] at H
  have c7b0 := dT c7
  clear c7
  (first | rw [c7b0] | (simp only [c6_, dY_]; rw [c7b0]) | skip)
  have H' := aA_.mk H
  clear H
  go_wp2
  go_meet
  case rel => exact ⟨_, (decide (a0 ≤ 102)), cA, H', ⟨by first | omega | exact Nat.le_refl _⟩, r2a0_⟩
 clear HC6
 try clear c1
 try clear p2
 try clear c4
 try clear c5
 try clear c5b0
 try clear c7
 try clear c7b0
 obtain ⟨kq, x12_5, rfl, HA, HJ5, ⟨mc5, rfl⟩⟩ := hcut
 cases kq with
 | zero => exact absurd HA.out (by simp [bO_.j0])
 | succ kj5 =>
  have H := HA.out
  clear HA
  simp only [bO_.j0] at H
  by_cases c8 : x12_5 = true
  ·subst c8
   replace H : (if (((a0 - 97) % 256) + 10) ≥ a1 then (some (-1)) else (some (((a0 - 97) % 256) + 10))) = some r := by rw [if_pos rfl] at H; exact H
   by_cases c9 : (((a0 - 97) % 256) + 10) ≥ a1
   rotate_left
   ·rw [if_neg c9] at H
    have c9b0 := dF c9
    clear c9
    obtain rfl := Option.some.inj H
    go_wp2
    go_ret
    exact ⟨by first | rfl | (simp; done) | (simp [*]; done), r2a0_⟩
   rw [if_pos c9] at H
   have c9b0 := dT c9
   clear c9
   obtain rfl := Option.some.inj H
   go_wp2
   go_ret
   exact ⟨by first | rfl | (simp; done) | (simp [*]; done), r2a0_⟩
  replace c8 := Bool.eq_false_iff.mpr c8
  subst c8
  replace H : (if a0 ≥ 65 then (bO_.j1 kj5 a0 a1 (-1) (decide (a0 ≤ 70))) else (bO_.j1 kj5 a0 a1 (-1) false)) = some r := by rw [if_neg nF] at H; exact H
  have HC10 := aA_.mk H
  clear H
  go_upto_region 6 with (fail)
  go_cut [23] (fun v23 wc => ∃ (kq : Nat) (x23_9 : Bool), v23 = .bool x23_9 ∧ aA_ (bO_.j1 kq a0 a1 (-1) x23_9 = some r) ∧ aA_ (kq ≤ kj5) ∧ aS_ w wc)
  case first =>
   have H := HC10.out
   clear HC10
   by_cases c11 : a0 ≥ 65
   rotate_left
   ·rw [if_neg c11] at H
    have c11b0 := dF c11
    clear c11
    (first | rw [c11b0] | (simp only [c6_, dY_]; rw [c11b0]) | skip)
    have H' := aA_.mk H
    clear H
    go_wp2
    go_meet
    case rel => exact ⟨_, (false), cA, H', ⟨by have := HJ5.out; first | omega | exact Nat.le_refl _⟩, r2a0_⟩
   rw [if_pos c11] at H
   have c11b0 := dT c11
   clear c11
   (first | rw [c11b0] | (simp only [c6_, dY_]; rw [c11b0]) | skip)
   have H' := aA_.mk H
   clear H
   go_wp2
   go_meet
   case rel => exact ⟨_, (decide (a0 ≤ 70)), cA, H', ⟨by have := HJ5.out; first | omega | exact Nat.le_refl _⟩, r2a0_⟩
  clear HC10
  try clear c1
  try clear p2
  try clear c4
  try clear c5
  try clear c5b0
  try clear c7
  try clear c7b0
  try clear c8
  try clear c9
  try clear c9b0
  try clear c10
  try clear c11
  try clear c11b0
  try clear p2
  obtain ⟨kq, x23_9, rfl, HA, HJ9, ⟨mc9, rfl⟩⟩ := hcut
  cases kq with
  | zero => exact absurd HA.out (by simp [bO_.j1])
  | succ kj9 =>
   have H := HA.out
   clear HA
   simp only [bO_.j1] at H
   by_cases c12 : x23_9 = true
   ·subst c12
    replace H : (if (((a0 - 65) % 256) + 10) ≥ a1 then (some (-1)) else (some (((a0 - 65) % 256) + 10))) = some r := by rw [if_pos rfl] at H; exact H
    by_cases c13 : (((a0 - 65) % 256) + 10) ≥ a1
    rotate_left
    ·rw [if_neg c13] at H
     have c13b0 := dF c13
     clear c13
     obtain rfl := Option.some.inj H
     go_wp2
     go_ret
     exact ⟨by first | rfl | (simp; done) | (simp [*]; done), r2a0_⟩
    rw [if_pos c13] at H
    have c13b0 := dT c13
    clear c13
    obtain rfl := Option.some.inj H
    go_wp2
    go_ret
    exact ⟨by first | rfl | (simp; done) | (simp [*]; done), r2a0_⟩
   replace c12 := Bool.eq_false_iff.mpr c12
   subst c12
   replace H : (if (-1) ≥ a1 then (some (-1)) else (some (-1))) = some r := by rw [if_neg nF] at H; exact H
   by_cases c14 : (-1) ≥ a1
   rotate_left
   ·rw [if_neg c14] at H
    have c14b0 := dF c14
    clear c14
    obtain rfl := Option.some.inj H
    go_wp2
    go_ret
    exact ⟨by first | rfl | (simp; done) | (simp [*]; done), r2a0_⟩
   rw [if_pos c14] at H
   have c14b0 := dT c14
   clear c14
   obtain rfl := Option.some.inj H
   go_wp2
   go_ret
   exact ⟨by first | rfl | (simp; done) | (simp [*]; done), r2a0_⟩
def dV_.f (a0 : Int) : Option (Bool) := if a0 = 9 then (some true) else (if a0 = 10 then (some true) else (if a0 = 13 then (some true) else (if a0 ≥ 32 then (if a0 ≤ 1114111 then (if a0 < 55296 then (some true) else (some (decide (a0 > 57343)))) else (some false)) else (some false))))
theorem dV_.calls (a0 : Int) (r : Bool) (w : World) (hG : Glob w) (h : dV_.f a0 = some r) :
 Calls Tryz.prog 108 #[.int .i64 a0] w fun e w' => e = .returned (.bool r) ∧ aS_ w w' := by
 have HG := aA_.mk hG
 clear hG
 have H : (if a0 = 9 then (some true) else (if a0 = 10 then (some true) else (if a0 = 13 then (some true) else (if a0 ≥ 32 then (if a0 ≤ 1114111 then (if a0 < 55296 then (some true) else (some (decide (a0 > 57343)))) else (some false)) else (some false))))) = some r := h
 clear h
 by_cases c2 : a0 = 9
 ·rw [if_pos c2] at H
  obtain ⟨c2b0, c2b1⟩ := eqT c2
  clear c2
  obtain rfl := Option.some.inj H
  go_enter Tryz.func108, Tryz.ntmps108
  go_wp2
  go_ret
  exact ⟨by first | rfl | (simp; done) | (simp [*]; done), r2a0_⟩
 rw [if_neg c2] at H
 obtain ⟨c2b0, c2b1⟩ := eqF c2
 by_cases c3 : a0 = 10
 ·rw [if_pos c3] at H
  obtain ⟨c3b0, c3b1⟩ := eqT c3
  clear c3
  obtain rfl := Option.some.inj H
  go_enter Tryz.func108, Tryz.ntmps108
  go_wp2
  go_ret
  exact ⟨by first | rfl | (simp; done) | (simp [*]; done), r2a0_⟩
 rw [if_neg c3] at H
 obtain ⟨c3b0, c3b1⟩ := eqF c3
 by_cases c4 : a0 = 13
 ·rw [if_pos c4] at H
  obtain ⟨c4b0, c4b1⟩ := eqT c4
  clear c4
  obtain rfl := Option.some.inj H
  go_enter Tryz.func108, Tryz.ntmps108
  go_wp2
  go_ret
  exact ⟨by first | rfl | (simp; done) | (simp [*]; done), r2a0_⟩
 rw [if_neg c4] at H
 obtain ⟨c4b0, c4b1⟩ := eqF c4
 by_cases c5 : a0 ≥ 32
 rotate_left
 ·rw [if_neg c5] at H
  have c5b0 := dF c5
  clear c5
  obtain rfl := Option.some.inj H
  go_enter Tryz.func108, Tryz.ntmps108
  go_wp2
  go_ret
  exact ⟨by first | rfl | (simp; done) | (simp [*]; done), r2a0_⟩
 rw [if_pos c5] at H
 have c5b0 := dT c5
 clear c5
 by_cases c6 : a0 ≤ 1114111
 rotate_left
 ·rw [if_neg c6] at H
  have c6b0 := dF c6
  clear c6
  obtain rfl := Option.some.inj H
  go_enter Tryz.func108, Tryz.ntmps108
  go_wp2
  go_ret
  exact ⟨by first | rfl | (simp; done) | (simp [*]; done), r2a0_⟩
 rw [if_pos c6] at H
 have c6b0 := dT c6
 clear c6
 by_cases c7 : a0 < 55296
 rotate_left
 ·rw [if_neg c7] at H
  have c7b0 := dF c7
  clear c7
  obtain rfl := Option.some.inj H
  go_enter Tryz.func108, Tryz.ntmps108
  go_wp2
  go_ret
  exact ⟨by first | rfl | (simp; done) | (simp [*]; done), r2a0_⟩
 rw [if_pos c7] at H
 have c7b0 := dT c7
 clear c7
 obtain rfl := Option.some.inj H
 go_enter Tryz.func108, Tryz.ntmps108
 go_wp2
 go_ret
 exact ⟨by first | rfl | (simp; done) | (simp [*]; done), r2a0_⟩
def numB (base : Nat) (l : List UInt8) : List UInt8 × Bool := match Tk.numbered base l with
 | some c => (c, true)
 | none => ([], false)
theorem digit_16 (c : UInt8) : bO_.f 3 (c.toNat : Int) 16 = some (match Tk.digitOf 16 c with | some n => (n : Int) | none => -1) := Tk.bytes_all (f := fun x => bO_.f 3 x 16) (g := fun c => match Tk.digitOf 16 c with | some n => (n : Int) | none => -1) (by kernel_rfl) c
theorem digit_10 (c : UInt8) : bO_.f 3 (c.toNat : Int) 10 = some (match Tk.digitOf 10 c with | some n => (n : Int) | none => -1) := Tk.bytes_all (f := fun x => bO_.f 3 x 10) (g := fun c => match Tk.digitOf 10 c with | some n => (n : Int) | none => -1) (by kernel_rfl) c
theorem digitOf_lt {base : Nat} {c : UInt8} {n : Nat} (h : Tk.digitOf base c = some n) : n < base := by
 unfold Tk.digitOf at h
 obtain ⟨m, _, h⟩ := Option.bind_eq_some_iff.1 h
 split at h
 ·rename_i hm
  injection h with h
  omega
 ·cases h
theorem may_f (v : Nat) : dV_.f (v : Int) = some (Tk.may v) := by
 unfold dV_.f Tk.may
 by_cases h1 : v = 9
 ·subst h1; rfl
 by_cases h2 : v = 10
 ·subst h2; rfl
 by_cases h3 : v = 13
 ·subst h3; rfl
 rw [if_neg (by omega), if_neg (by omega), if_neg (by omega)]
 have e1 : (v == 9) = false := by simpa using h1
 have e2 : (v == 10) = false := by simpa using h2
 have e3 : (v == 13) = false := by simpa using h3
 rw [e1, e2, e3]
 by_cases h4 : 32 ≤ v
 rotate_left
 ·rw [if_neg (by omega), decide_eq_false h4]; rfl
 rw [if_pos (by omega), decide_eq_true h4]
 by_cases h5 : v ≤ 1114111
 rotate_left
 ·rw [if_neg (by omega), decide_eq_false h5]; rfl
 rw [if_pos (by omega), decide_eq_true h5]
 by_cases h6 : v < 55296
 ·rw [if_pos (by omega), decide_eq_true h6]; rfl
 ·rw [if_neg (by omega), decide_eq_false h6]
  simp only [Bool.false_or, Bool.true_and, Option.some.injEq]
  rw [Bool.eq_iff_iff]
  simp only [decide_eq_true_eq]
  omega
theorem number_drop {base v : Nat} {l : List UInt8} {i : Nat} (h : i < l.length) : Tk.number base v (l.drop i) = (Tk.digitOf base l[i]).bind fun d => Tk.number base (v * base + d) (l.drop (i + 1)) := by
 rw [List.drop_eq_getElem_cons h]; rfl
theorem number_end {base v : Nat} {l : List UInt8} : Tk.number base v (l.drop l.length) = some v := by
 rw [List.drop_length]; rfl
theorem numB_short {base : Nat} {l : List UInt8} (h : l = [] ∨ 6 < l.length) : numB base l = ([], false) := by
 unfold numB Tk.numbered
 rw [if_pos h]
theorem numB_none {base : Nat} {l : List UInt8} (h : Tk.number base 0 l = none) : numB base l = ([], false) := by
 have e : Tk.numbered base l = none := by
  unfold Tk.numbered
  split
  ·rfl
  ·rw [h]; rfl
 unfold numB
 rw [e]
theorem numB_may {base v : Nat} {l : List UInt8} (hs : ¬ (l = [] ∨ 6 < l.length)) (h : Tk.number base 0 l = some v) (hm : Tk.may v = true) : numB base l = ((Utf8.encode (v : Int)).data.toList, true) := by
 unfold numB Tk.numbered
 rw [if_neg hs, h, Option.bind_some, if_pos hm]
theorem numB_not {base v : Nat} {l : List UInt8} (hs : ¬ (l = [] ∨ 6 < l.length)) (h : Tk.number base 0 l = some v) (hm : Tk.may v = false) : numB base l = ([], false) := by
 unfold numB Tk.numbered
 rw [if_neg hs, h, Option.bind_some, if_neg (by rw [hm]; decide)]
theorem bs_data (a : ByteArray) : Tk.bs a.data.toList = a := by
 cases a with
 | mk d => rfl
theorem token_numbered.calls16 (l : List UInt8) (w : World) (hG : Glob w) :
 Calls Tryz.prog 98 #[.string (Tk.bs (120 :: l))] w fun e w' => e = .returned (.tuple #[.string (Tk.bs (numB 16 l).1), .bool (numB 16 l).2]) ∧ aS_ w w' := by
 have CP : ∀ W, Calls Tryz.prog 96 #[.string (Tk.bs (120 :: l)), .string (Tk.bs [120])] W fun e w' => e = .returned (.bool true) ∧ W = w' := by
  intro W
  refine (Tryz.strings_HasPrefix (Tk.bs (120 :: l)) (Tk.bs [120]) W).mono ?_
  rintro e w' ⟨rfl, rfl⟩
  exact ⟨by rw [show Lib.hasPrefix (Tk.bs (120 :: l)).data.toList (Tk.bs [120]).data.toList = true from by show List.isPrefixOf [120] (120 :: l) = true; simp [List.isPrefixOf]], rfl⟩
 have hdr := bs_drop (120 :: l) 1
 rw [List.drop_succ_cons, List.drop_zero] at hdr
 have hz0 := bV_ (120 :: l)
 rw [List.length_cons] at hz0
 obtain ⟨s0, hs0⟩ : ∃ s, s = Tk.bs (120 :: l) := ⟨_, rfl⟩
 rw [← hs0] at hdr hz0 CP ⊢
 have q1 : ((1 : Int) ≤ (s0.size : Int)) = True := eq_true (by omega)
 have q2 : (1 ≤ s0.size) = True := eq_true (by omega)
 clear hs0 hz0
 have hsz := bV_ l
 have hbt := bs_bt l
 have htl := dA_ l
 obtain ⟨s, hs⟩ : ∃ s, s = Tk.bs l := ⟨_, rfl⟩
 rw [← hs] at hsz hbt htl hdr
 have HS := Lib.hid hs
 have HSZ := Lib.hid hsz
 have HBT := Lib.hid hbt
 have HG := aA_.mk hG
 clear hs hbt hG
 by_cases hsh : l = [] ∨ 6 < l.length
 ·have HR := Lib.hid (numB_short (base := 16) hsh)
  by_cases hcase : l = []
  ·have e1 : s.toList = [] := by rw [htl]; exact hcase
   clear hcase hsh htl hsz
   go_enter Tryz.func98, Tryz.ntmps98
   go_wp2_with (first | (go_at_call 96; refine (CP _).mono ?_; rintro e w1 ⟨rfl, rfl⟩))
   go_quiet (fail)
   go_wp2
   go_ret2
   exact ⟨by rw [HR.out]; rfl, (aS_.refl _).step _⟩
  have e1 : (s.toList = []) = False := by rw [htl]; exact eq_false hcase
  have e2 : s.toList.isEmpty = false := by rw [htl]; cases l with | nil => exact absurd rfl hcase | cons _ _ => rfl
  have e3 : (s.toList == []) = false := by rw [htl]; cases l with | nil => exact absurd rfl hcase | cons _ _ => rfl
  have hgt : 6 < l.length := hsh.resolve_left hcase
  have e4 : decide ((6 : Int) < (s.size : Int)) = true := decide_eq_true (by omega)
  have e5 : decide (6 < s.size) = true := decide_eq_true (by omega)
  clear hcase hsh htl hsz hgt
  go_enter Tryz.func98, Tryz.ntmps98
  go_wp2_with (first | (go_at_call 96; refine (CP _).mono ?_; rintro e w1 ⟨rfl, rfl⟩))
  go_quiet (fail)
  go_wp2
  go_ret2
  exact ⟨by rw [HR.out]; rfl, (aS_.refl _).step _⟩
 have hne : l ≠ [] := fun h => hsh (.inl h)
 have h6 : l.length ≤ 6 := Nat.le_of_not_lt fun h => hsh (.inr h)
 have e1 : (s.toList = []) = False := by rw [htl]; exact eq_false hne
 have e2 : s.toList.isEmpty = false := by rw [htl]; cases l with | nil => exact absurd rfl hne | cons _ _ => rfl
 have e3 : (s.toList == []) = false := by rw [htl]; cases l with | nil => exact absurd rfl hne | cons _ _ => rfl
 have e4 : decide ((6 : Int) < (s.size : Int)) = false := decide_eq_false (by omega)
 have e5 : decide (6 < s.size) = false := decide_eq_false (by omega)
 have HSH := Lib.hid hsh
 clear hsh htl hsz hne
 go_enter Tryz.func98, Tryz.ntmps98
 go_wp2_with (first | (go_at_call 96; refine (CP _).mono ?_; rintro e w1 ⟨rfl, rfl⟩))
 go_quiet (fail)
 go_wp2
 go_loopg [5, 21] (l.length + 1) (fun gk v5 v21 w' => ∃ (i v : Nat) (x y : Int), i ≤ l.length ∧ i + gk = l.length + 1 ∧ v5 = .int .i64 y ∧ v21 = .int .i64 x ∧ aA_ (x = (i : Int)) ∧ aA_ (y = (v : Int)) ∧ aA_ (v < 16 ^ i) ∧ aA_ (Tk.number 16 v (l.drop i) = Tk.number 16 0 l) ∧ aA_ (aS_ w w'))
 case atStart => exact ⟨0, 0, 0, 0, by omega, by omega, rfl, rfl, ⟨rfl⟩, ⟨rfl⟩, ⟨by decide⟩, ⟨by rw [List.drop_zero]⟩, ⟨(aS_.refl _).step _⟩⟩
 obtain ⟨i, v, x, y, hi, hgk, rfl, rfl, HX, HY, HV, HN, HD⟩ := hrel
 have hG1 : Glob wr := HG.out.drawn HD.out
 have hxi := HX.out
 have hyv := HY.out
 have hvb := HV.out
 have hsz := HSZ.out
 have hpw : 16 ^ i ≤ 16 ^ 6 := Nat.pow_le_pow_right (by decide) (by omega)
 have hpw2 : 16 ^ 6 ≤ 16777216 := by decide
 have HG1 := aA_.mk hG1
 by_cases hlt : i < l.length
 rotate_left
 ·obtain rfl : i = l.length := by omega
  have d1 : decide (x < (s.size : Int)) = false := decide_eq_false (by omega)
  have hnum : Tk.number 16 0 l = some v := by rw [← HN.out, number_end]
  have hmf : dV_.f y = some (Tk.may v) := by rw [hyv, may_f]
  have hwi : IntKind.i32.wrap y = (v : Int) := by rw [dY_]; unfold wrap32; omega
  have y0 : 0 ≤ y := by omega
  have y1 : y ≤ 16777216 := by omega
  cases hm : Tk.may v with
  | true =>
   have HR := Lib.hid (numB_may (base := 16) HSH.out hnum hm)
   have HM := aA_.mk (hmf.trans (congrArg some hm))
   have HWI := Lib.hid hwi
   have HYV := Lib.hid hyv
   clear hmf hm hnum hxi hyv hvb hsz hpw hpw2 hG1 hwi
   go_wp2_with (first | (go_at_call 108; (with_reducible refine (dV_.calls y true _ HG1.out HM.out).mono ?_); rintro e w1 ⟨rfl, ⟨nd, rfl⟩⟩))
   go_ret2
   refine ⟨?_, HD.out.step nd⟩
   rw [HR.out, bs_data, ← HYV.out]; rfl
  | false =>
   have HR := Lib.hid (numB_not (base := 16) HSH.out hnum hm)
   have HM := aA_.mk (hmf.trans (congrArg some hm))
   clear hmf hm hnum hxi hyv hvb hsz hpw hpw2 hG1 hwi
   go_wp2_with (first | (go_at_call 108; (with_reducible refine (dV_.calls y false _ HG1.out HM.out).mono ?_); rintro e w1 ⟨rfl, ⟨nd, rfl⟩⟩))
   go_ret2
   exact ⟨by rw [HR.out]; rfl, HD.out.step nd⟩
 obtain ⟨g1, rfl⟩ : ∃ g1, gk = g1 + 1 := ⟨gk - 1, by omega⟩
 have d1 : decide (x < (s.size : Int)) = true := decide_eq_true (by omega)
 have p1 := eq_true (show 0 ≤ x by omega)
 have p2 := eq_true (show x < (s.size : Int) by omega)
 have hx := dP_ s x
 have hbx : bt s x = ((l[i]'hlt).toNat : Int) := by rw [hxi, HBT.out i hlt]
 have hnd := number_drop (base := 16) (v := v) hlt
 cases hd : Tk.digitOf 16 (l[i]'hlt) with
 | none =>
  have hf : bO_.f 3 (bt s x) 16 = some (-1) := by rw [hbx, digit_16, hd]
  have hno2 : Tk.number 16 0 l = none := by rw [← HN.out, hnd, hd]; rfl
  have HR := Lib.hid (numB_none (base := 16) hno2)
  have HF := aA_.mk hf
  clear hf hno2 hnd hd hbx hxi hyv hvb hsz hpw hpw2 hG1
  go_wp2_with (first | (go_at_call 107; (with_reducible refine (bO_.calls 3 (bt s x) 16 (-1) _ HG1.out HF.out).mono ?_); rintro e w1 ⟨rfl, ⟨nd, rfl⟩⟩))
  go_ret2
  exact ⟨by rw [HR.out]; rfl, HD.out.step nd⟩
 | some d =>
  have hdl := digitOf_lt hd
  obtain ⟨z, hz⟩ : ∃ z : Int, z = (d : Int) := ⟨_, rfl⟩
  have hf : bO_.f 3 (bt s x) 16 = some z := by rw [hbx, digit_16, hd, hz]
  have z0 : decide (z < 0) = false := decide_eq_false (by omega)
  have HF := aA_.mk hf
  have hw1 : wrap64 (x + 1) = ((i + 1 : Nat) : Int) := by unfold wrap64; omega
  have hw2 : wrap64 (wrap64 (y * 16) + z) = ((v * 16 + d : Nat) : Int) := by unfold wrap64; omega
  have hvn : v * 16 + d < 16 ^ (i + 1) := by rw [Nat.pow_succ]; omega
  have hnn : Tk.number 16 (v * 16 + d) (l.drop (i + 1)) = Tk.number 16 0 l := by rw [← HN.out, hnd, hd]; rfl
  have HW1 := aA_.mk hw1
  have HW2 := aA_.mk hw2
  have HVN := aA_.mk hvn
  have HNN := aA_.mk hnn
  clear hf hnd hd hbx hxi hyv hvb hsz hpw hpw2 hG1 hw1 hw2 hvn hnn hz hdl
  go_wp2_with (first | (go_at_call 107; (with_reducible refine (bO_.calls 3 (bt s x) 16 z _ HG1.out HF.out).mono ?_); rintro e w1 ⟨rfl, ⟨nd, rfl⟩⟩))
  go_roundg g1
  case measure => omega
  case rel => exact ⟨i + 1, v * 16 + d, _, _, by omega, by omega, by first | rfl | (simp; done), by first | rfl | (simp; done), HW1, HW2, HVN, HNN, ⟨HD.out.step nd⟩⟩
theorem token_numbered.calls10 (l : List UInt8) (w : World) (hG : Glob w) (hno : Lib.hasPrefix l [120] = false) :
 Calls Tryz.prog 98 #[.string (Tk.bs l)] w fun e w' => e = .returned (.tuple #[.string (Tk.bs (numB 10 l).1), .bool (numB 10 l).2]) ∧ aS_ w w' := by
 have CP : ∀ W, Calls Tryz.prog 96 #[.string (Tk.bs l), .string (Tk.bs [120])] W fun e w' => e = .returned (.bool false) ∧ W = w' := by
  intro W
  refine (Tryz.strings_HasPrefix (Tk.bs l) (Tk.bs [120]) W).mono ?_
  rintro e w' ⟨rfl, rfl⟩
  exact ⟨by rw [show Lib.hasPrefix (Tk.bs l).data.toList (Tk.bs [120]).data.toList = false from hno], rfl⟩
 clear hno
 have hsz := bV_ l
 have hbt := bs_bt l
 have htl := dA_ l
 obtain ⟨s, hs⟩ : ∃ s, s = Tk.bs l := ⟨_, rfl⟩
 rw [← hs] at hsz hbt htl CP ⊢
 have HS := Lib.hid hs
 have HSZ := Lib.hid hsz
 have HBT := Lib.hid hbt
 have HG := aA_.mk hG
 clear hs hbt hG
 by_cases hsh : l = [] ∨ 6 < l.length
 ·have HR := Lib.hid (numB_short (base := 10) hsh)
  by_cases hcase : l = []
  ·have e1 : s.toList = [] := by rw [htl]; exact hcase
   clear hcase hsh htl hsz
   go_enter Tryz.func98, Tryz.ntmps98
   go_wp2_with (first | (go_at_call 96; refine (CP _).mono ?_; rintro e w1 ⟨rfl, rfl⟩))
   go_ret2
   exact ⟨by rw [HR.out]; rfl, aS_.refl _⟩
  have e1 : (s.toList = []) = False := by rw [htl]; exact eq_false hcase
  have e2 : s.toList.isEmpty = false := by rw [htl]; cases l with | nil => exact absurd rfl hcase | cons _ _ => rfl
  have e3 : (s.toList == []) = false := by rw [htl]; cases l with | nil => exact absurd rfl hcase | cons _ _ => rfl
  have hgt : 6 < l.length := hsh.resolve_left hcase
  have e4 : decide ((6 : Int) < (s.size : Int)) = true := decide_eq_true (by omega)
  have e5 : decide (6 < s.size) = true := decide_eq_true (by omega)
  clear hcase hsh htl hsz hgt
  go_enter Tryz.func98, Tryz.ntmps98
  go_wp2_with (first | (go_at_call 96; refine (CP _).mono ?_; rintro e w1 ⟨rfl, rfl⟩))
  go_ret2
  exact ⟨by rw [HR.out]; rfl, aS_.refl _⟩
 have hne : l ≠ [] := fun h => hsh (.inl h)
 have h6 : l.length ≤ 6 := Nat.le_of_not_lt fun h => hsh (.inr h)
 have e1 : (s.toList = []) = False := by rw [htl]; exact eq_false hne
 have e2 : s.toList.isEmpty = false := by rw [htl]; cases l with | nil => exact absurd rfl hne | cons _ _ => rfl
 have e3 : (s.toList == []) = false := by rw [htl]; cases l with | nil => exact absurd rfl hne | cons _ _ => rfl
 have e4 : decide ((6 : Int) < (s.size : Int)) = false := decide_eq_false (by omega)
 have e5 : decide (6 < s.size) = false := decide_eq_false (by omega)
 have HSH := Lib.hid hsh
 clear hsh htl hsz hne
 go_enter Tryz.func98, Tryz.ntmps98
 go_wp2_with (first | (go_at_call 96; refine (CP _).mono ?_; rintro e w1 ⟨rfl, rfl⟩))
 go_loopg [5, 21] (l.length + 1) (fun gk v5 v21 w' => ∃ (i v : Nat) (x y : Int), i ≤ l.length ∧ i + gk = l.length + 1 ∧ v5 = .int .i64 y ∧ v21 = .int .i64 x ∧ aA_ (x = (i : Int)) ∧ aA_ (y = (v : Int)) ∧ aA_ (v < 10 ^ i) ∧ aA_ (Tk.number 10 v (l.drop i) = Tk.number 10 0 l) ∧ aA_ (aS_ w w'))
 case atStart => exact ⟨0, 0, 0, 0, by omega, by omega, rfl, rfl, ⟨rfl⟩, ⟨rfl⟩, ⟨by decide⟩, ⟨by rw [List.drop_zero]⟩, ⟨aS_.refl _⟩⟩
 obtain ⟨i, v, x, y, hi, hgk, rfl, rfl, HX, HY, HV, HN, HD⟩ := hrel
 have hG1 : Glob wr := HG.out.drawn HD.out
 have hxi := HX.out
 have hyv := HY.out
 have hvb := HV.out
 have hsz := HSZ.out
 have hpw : 10 ^ i ≤ 10 ^ 6 := Nat.pow_le_pow_right (by decide) (by omega)
 have hpw2 : 10 ^ 6 ≤ 16777216 := by decide
 have HG1 := aA_.mk hG1
 by_cases hlt : i < l.length
 rotate_left
 ·obtain rfl : i = l.length := by omega
  have d1 : decide (x < (s.size : Int)) = false := decide_eq_false (by omega)
  have hnum : Tk.number 10 0 l = some v := by rw [← HN.out, number_end]
  have hmf : dV_.f y = some (Tk.may v) := by rw [hyv, may_f]
  have hwi : IntKind.i32.wrap y = (v : Int) := by rw [dY_]; unfold wrap32; omega
  have y0 : 0 ≤ y := by omega
  have y1 : y ≤ 16777216 := by omega
  cases hm : Tk.may v with
  | true =>
   have HR := Lib.hid (numB_may (base := 10) HSH.out hnum hm)
   have HM := aA_.mk (hmf.trans (congrArg some hm))
   have HWI := Lib.hid hwi
   have HYV := Lib.hid hyv
   clear hmf hm hnum hxi hyv hvb hsz hpw hpw2 hG1 hwi
   go_wp2_with (first | (go_at_call 108; (with_reducible refine (dV_.calls y true _ HG1.out HM.out).mono ?_); rintro e w1 ⟨rfl, ⟨nd, rfl⟩⟩))
   go_ret2
   refine ⟨?_, HD.out.step nd⟩
   rw [HR.out, bs_data, ← HYV.out]; rfl
  | false =>
   have HR := Lib.hid (numB_not (base := 10) HSH.out hnum hm)
   have HM := aA_.mk (hmf.trans (congrArg some hm))
   clear hmf hm hnum hxi hyv hvb hsz hpw hpw2 hG1 hwi
   go_wp2_with (first | (go_at_call 108; (with_reducible refine (dV_.calls y false _ HG1.out HM.out).mono ?_); rintro e w1 ⟨rfl, ⟨nd, rfl⟩⟩))
   go_ret2
   exact ⟨by rw [HR.out]; rfl, HD.out.step nd⟩
 obtain ⟨g1, rfl⟩ : ∃ g1, gk = g1 + 1 := ⟨gk - 1, by omega⟩
 have d1 : decide (x < (s.size : Int)) = true := decide_eq_true (by omega)
 have p1 := eq_true (show 0 ≤ x by omega)
 have p2 := eq_true (show x < (s.size : Int) by omega)
 have hx := dP_ s x
 have hbx : bt s x = ((l[i]'hlt).toNat : Int) := by rw [hxi, HBT.out i hlt]
 have hnd := number_drop (base := 10) (v := v) hlt
 cases hd : Tk.digitOf 10 (l[i]'hlt) with
 | none =>
  have hf : bO_.f 3 (bt s x) 10 = some (-1) := by rw [hbx, digit_10, hd]
  have hno2 : Tk.number 10 0 l = none := by rw [← HN.out, hnd, hd]; rfl
  have HR := Lib.hid (numB_none (base := 10) hno2)
  have HF := aA_.mk hf
  clear hf hno2 hnd hd hbx hxi hyv hvb hsz hpw hpw2 hG1
  go_wp2_with (first | (go_at_call 107; (with_reducible refine (bO_.calls 3 (bt s x) 10 (-1) _ HG1.out HF.out).mono ?_); rintro e w1 ⟨rfl, ⟨nd, rfl⟩⟩))
  go_ret2
  exact ⟨by rw [HR.out]; rfl, HD.out.step nd⟩
 | some d =>
  have hdl := digitOf_lt hd
  obtain ⟨z, hz⟩ : ∃ z : Int, z = (d : Int) := ⟨_, rfl⟩
  have hf : bO_.f 3 (bt s x) 10 = some z := by rw [hbx, digit_10, hd, hz]
  have z0 : decide (z < 0) = false := decide_eq_false (by omega)
  have HF := aA_.mk hf
  have hw1 : wrap64 (x + 1) = ((i + 1 : Nat) : Int) := by unfold wrap64; omega
  have hw2 : wrap64 (wrap64 (y * 10) + z) = ((v * 10 + d : Nat) : Int) := by unfold wrap64; omega
  have hvn : v * 10 + d < 10 ^ (i + 1) := by rw [Nat.pow_succ]; omega
  have hnn : Tk.number 10 (v * 10 + d) (l.drop (i + 1)) = Tk.number 10 0 l := by rw [← HN.out, hnd, hd]; rfl
  have HW1 := aA_.mk hw1
  have HW2 := aA_.mk hw2
  have HVN := aA_.mk hvn
  have HNN := aA_.mk hnn
  clear hf hnd hd hbx hxi hyv hvb hsz hpw hpw2 hG1 hw1 hw2 hvn hnn hz hdl
  go_wp2_with (first | (go_at_call 107; (with_reducible refine (bO_.calls 3 (bt s x) 10 z _ HG1.out HF.out).mono ?_); rintro e w1 ⟨rfl, ⟨nd, rfl⟩⟩))
  go_roundg g1
  case measure => omega
  case rel => exact ⟨i + 1, v * 10 + d, _, _, by omega, by omega, by first | rfl | (simp; done), by first | rfl | (simp; done), HW1, HW2, HVN, HNN, ⟨HD.out.step nd⟩⟩
def token_named.f (a0 : ByteArray) : Option (ByteArray) := if a0.toList = ([108, 116] : List UInt8) then (some (⟨#[60]⟩ : ByteArray)) else (if a0.toList = ([103, 116] : List UInt8) then (some (⟨#[62]⟩ : ByteArray)) else (if a0.toList = ([97, 109, 112] : List UInt8) then (some (⟨#[38]⟩ : ByteArray)) else (if a0.toList = ([113, 117, 111, 116] : List UInt8) then (some (⟨#[34]⟩ : ByteArray)) else (if a0.toList = ([97, 112, 111, 115] : List UInt8) then (some (⟨#[39]⟩ : ByteArray)) else (some (⟨#[]⟩ : ByteArray))))))
theorem token_named.calls (a0 : ByteArray) (r : ByteArray) (w : World) (hG : Glob w) (h : token_named.f a0 = some r) :
 Calls Tryz.prog 99 #[.string a0] w fun e w' => e = .returned (.string r) ∧ aS_ w w' := by
 have HG := aA_.mk hG
 clear hG
 have H : (if a0.toList = ([108, 116] : List UInt8) then (some (⟨#[60]⟩ : ByteArray)) else (if a0.toList = ([103, 116] : List UInt8) then (some (⟨#[62]⟩ : ByteArray)) else (if a0.toList = ([97, 109, 112] : List UInt8) then (some (⟨#[38]⟩ : ByteArray)) else (if a0.toList = ([113, 117, 111, 116] : List UInt8) then (some (⟨#[34]⟩ : ByteArray)) else (if a0.toList = ([97, 112, 111, 115] : List UInt8) then (some (⟨#[39]⟩ : ByteArray)) else (some (⟨#[]⟩ : ByteArray))))))) = some r := h
 clear h
 by_cases c2 : a0.toList = ([108, 116] : List UInt8)
 ·rw [if_pos c2] at H
  obtain ⟨c2b0, c2b1⟩ := eqT c2
  clear c2
  obtain rfl := Option.some.inj H
  go_enter Tryz.func99, Tryz.ntmps99
  go_wp2
  go_ret
  exact ⟨by first | rfl | (simp; done) | (simp [*]; done), r2a0_⟩
 rw [if_neg c2] at H
 obtain ⟨c2b0, c2b1⟩ := eqF c2
 by_cases c3 : a0.toList = ([103, 116] : List UInt8)
 ·rw [if_pos c3] at H
  obtain ⟨c3b0, c3b1⟩ := eqT c3
  clear c3
  obtain rfl := Option.some.inj H
  go_enter Tryz.func99, Tryz.ntmps99
  go_wp2
  go_ret
  exact ⟨by first | rfl | (simp; done) | (simp [*]; done), r2a0_⟩
 rw [if_neg c3] at H
 obtain ⟨c3b0, c3b1⟩ := eqF c3
 by_cases c4 : a0.toList = ([97, 109, 112] : List UInt8)
 ·rw [if_pos c4] at H
  obtain ⟨c4b0, c4b1⟩ := eqT c4
  clear c4
  obtain rfl := Option.some.inj H
  go_enter Tryz.func99, Tryz.ntmps99
  go_wp2
  go_ret
  exact ⟨by first | rfl | (simp; done) | (simp [*]; done), r2a0_⟩
 rw [if_neg c4] at H
 obtain ⟨c4b0, c4b1⟩ := eqF c4
 by_cases c5 : a0.toList = ([113, 117, 111, 116] : List UInt8)
 ·rw [if_pos c5] at H
  obtain ⟨c5b0, c5b1⟩ := eqT c5
  clear c5
  obtain rfl := Option.some.inj H
  go_enter Tryz.func99, Tryz.ntmps99
  go_wp2
  go_ret
  exact ⟨by first | rfl | (simp; done) | (simp [*]; done), r2a0_⟩
 rw [if_neg c5] at H
 obtain ⟨c5b0, c5b1⟩ := eqF c5
 by_cases c6 : a0.toList = ([97, 112, 111, 115] : List UInt8)
 rotate_left
 ·rw [if_neg c6] at H
  obtain ⟨c6b0, c6b1⟩ := eqF c6
  obtain rfl := Option.some.inj H
  go_enter Tryz.func99, Tryz.ntmps99
  go_wp2
  go_ret
  exact ⟨by first | rfl | (simp; done) | (simp [*]; done), r2a0_⟩
 rw [if_pos c6] at H
 obtain ⟨c6b0, c6b1⟩ := eqT c6
 clear c6
 obtain rfl := Option.some.inj H
 go_enter Tryz.func99, Tryz.ntmps99
 go_wp2
 go_ret
 exact ⟨by first | rfl | (simp; done) | (simp [*]; done), r2a0_⟩
def entV (l : List UInt8) : List UInt8 × Bool := match Tk.entity l with
 | some c => (c, true)
 | none => ([], false)
theorem entV_hash16 (l : List UInt8) : entV (35 :: 120 :: l) = numB 16 l := rfl
theorem entV_hash10 (l : List UInt8) (h : Lib.hasPrefix l [120] = false) : entV (35 :: l) = numB 10 l := by
 unfold entV numB
 have : Tk.entity (35 :: l) = Tk.numbered 10 l := by
  unfold Tk.entity
  split
  ·rename_i r heq
   injection heq with _ heq
   subst heq
   exact absurd h (by simp [Lib.hasPrefix, List.isPrefixOf])
  ·rename_i r _ heq
   injection heq with _ heq
   subst heq
   rfl
  ·rename_i h2
   exact absurd rfl (h2 l)
 rw [this]
 try rfl
theorem entV_named (l : List UInt8) (h : Lib.hasPrefix l [35] = false) : Tk.entity l = Tk.named l := by
 unfold Tk.entity
 split
 ·exact absurd h (by simp [Lib.hasPrefix, List.isPrefixOf])
 ·exact absurd h (by simp [Lib.hasPrefix, List.isPrefixOf])
 ·rfl
theorem named_f (l : List UInt8) : token_named.f (Tk.bs l) = some (Tk.bs (match Tk.named l with | some c => c | none => [])) := by
 unfold token_named.f Tk.named
 rw [dA_]
 by_cases h1 : l = [108, 116]
 ·rw [if_pos h1, if_pos h1]; rfl
 rw [if_neg h1, if_neg h1]
 by_cases h2 : l = [103, 116]
 ·rw [if_pos h2, if_pos h2]; rfl
 rw [if_neg h2, if_neg h2]
 by_cases h3 : l = [97, 109, 112]
 ·rw [if_pos h3, if_pos h3]; rfl
 rw [if_neg h3, if_neg h3]
 by_cases h4 : l = [113, 117, 111, 116]
 ·rw [if_pos h4, if_pos h4]; rfl
 rw [if_neg h4, if_neg h4]
 by_cases h5 : l = [97, 112, 111, 115]
 ·rw [if_pos h5, if_pos h5]; rfl
 rw [if_neg h5, if_neg h5]; rfl
theorem named_ne {l c : List UInt8} (h : Tk.named l = some c) : c ≠ [] ∧ c.length ≤ 4 := by
 unfold Tk.named at h
 repeat' split at h
 all_goals first | (injection h with h; subst h; exact ⟨by decide, by decide⟩) | cases h
theorem token_entity.calls (l : List UInt8) (w : World) (hG : Glob w) :
 Calls Tryz.prog 86 #[.string (Tk.bs l)] w fun e w' => e = .returned (.tuple #[.string (Tk.bs (entV l).1), .bool (entV l).2]) ∧ aS_ w w' := by
 by_cases h35 : Lib.hasPrefix l [35] = true
 ·obtain ⟨r, rfl⟩ : ∃ r, l = 35 :: r := by
   cases l with
   | nil => simp [Lib.hasPrefix, List.isPrefixOf] at h35
   | cons c r =>
    simp [Lib.hasPrefix, List.isPrefixOf] at h35
    exact ⟨r, by rw [← h35]⟩
  have C1 : ∀ W, Calls Tryz.prog 62 #[.string (Tk.bs (35 :: r)), .string (Tk.bs [35])] W fun e w' => e = .returned (.tuple #[.string (Tk.bs r), .bool true]) ∧ W = w' := by
   intro W
   refine (Tryz.strings_CutPrefix (Tk.bs (35 :: r)) (Tk.bs [35]) W).mono ?_
   rintro e w' ⟨rfl, rfl⟩
   refine ⟨?_, rfl⟩
   rw [show Lib.hasPrefix (Tk.bs (35 :: r)).data.toList (Tk.bs [35]).data.toList = true from h35]
   rw [show Lib.trimPrefix (Tk.bs (35 :: r)).data.toList (Tk.bs [35]).data.toList = r from by show Lib.trimPrefix (35 :: r) [35] = r; unfold Lib.trimPrefix; rw [if_pos h35]; rfl]
   rfl
  have C2 : ∀ W, Glob W → Calls Tryz.prog 98 #[.string (Tk.bs r)] W fun e w' => e = .returned (.tuple #[.string (Tk.bs (entV (35 :: r)).1), .bool (entV (35 :: r)).2]) ∧ aS_ W w' := by
   intro W hW
   by_cases h120 : Lib.hasPrefix r [120] = true
   rotate_left
   ·have h120' := Bool.eq_false_iff.2 h120
    rw [entV_hash10 r h120']
    exact token_numbered.calls10 r W hW h120'
   obtain ⟨q, rfl⟩ : ∃ q, r = 120 :: q := by
    cases r with
    | nil => simp [Lib.hasPrefix, List.isPrefixOf] at h120
    | cons c q =>
     simp [Lib.hasPrefix, List.isPrefixOf] at h120
     exact ⟨q, by rw [← h120]⟩
   exact token_numbered.calls16 q W hW
  obtain ⟨a, b, hab⟩ : ∃ a b, entV (35 :: r) = (a, b) := ⟨_, _, rfl⟩
  rw [hab] at C2
  have HR := Lib.hid hab
  have HG := aA_.mk hG
  clear hab hG h35
  go_enter Tryz.func86, Tryz.ntmps86
  go_wp2_with (first | (go_at_call 62; refine (C1 _).mono ?_; rintro e w1 ⟨rfl, rfl⟩) | (go_at_call 98; refine (C2 _ HG.out).mono ?_; rintro e w2 ⟨rfl, ⟨nd, rfl⟩⟩))
  go_ret2
  exact ⟨by rw [HR.out]; rfl, (aS_.refl _).step _⟩
 have h35' := Bool.eq_false_iff.2 h35
 have C1 : ∀ W, Calls Tryz.prog 62 #[.string (Tk.bs l), .string (Tk.bs [35])] W fun e w' => e = .returned (.tuple #[.string (Tk.bs l), .bool false]) ∧ W = w' := by
  intro W
  refine (Tryz.strings_CutPrefix (Tk.bs l) (Tk.bs [35]) W).mono ?_
  rintro e w' ⟨rfl, rfl⟩
  refine ⟨?_, rfl⟩
  rw [show Lib.hasPrefix (Tk.bs l).data.toList (Tk.bs [35]).data.toList = false from h35']
  rw [show Lib.trimPrefix (Tk.bs l).data.toList (Tk.bs [35]).data.toList = l from by show Lib.trimPrefix l [35] = l; unfold Lib.trimPrefix; rw [if_neg h35]]
  rfl
 have hnm := named_f l
 have hen := entV_named l h35'
 have HG := aA_.mk hG
 clear hG h35 h35'
 cases hn : Tk.named l with
 | none =>
  rw [hn] at hnm
  have hR : entV l = ([], false) := by unfold entV; rw [hen, hn]
  have HR := Lib.hid hR
  have HF := aA_.mk hnm
  have e1 := bs_none (l := []) rfl
  clear hn hnm hen hR
  go_enter Tryz.func86, Tryz.ntmps86
  go_wp2_with (first | (go_at_call 62; refine (C1 _).mono ?_; rintro e w1 ⟨rfl, rfl⟩) | (go_at_call 99; refine (token_named.calls (Tk.bs l) _ _ HG.out HF.out).mono ?_; rintro e w2 ⟨rfl, ⟨nd, rfl⟩⟩))
  go_ret2
  exact ⟨by rw [HR.out]; rfl, (aS_.refl _).step _⟩
 | some c =>
  rw [hn] at hnm
  obtain ⟨hne, _⟩ := named_ne hn
  have hR : entV l = (c, true) := by unfold entV; rw [hen, hn]
  have HR := Lib.hid hR
  have HF := aA_.mk hnm
  obtain ⟨e1, e2, e3, e4⟩ := bs_some hne
  clear hn hnm hen hR hne
  go_enter Tryz.func86, Tryz.ntmps86
  go_wp2_with (first | (go_at_call 62; refine (C1 _).mono ?_; rintro e w1 ⟨rfl, rfl⟩) | (go_at_call 99; refine (token_named.calls (Tk.bs l) _ _ HG.out HF.out).mono ?_; rintro e w2 ⟨rfl, ⟨nd, rfl⟩⟩))
  go_ret2
  exact ⟨by rw [HR.out]; rfl, (aS_.refl _).step _⟩
end Go.Proofs.YtkoogebfdinbnaaGreat.Q
