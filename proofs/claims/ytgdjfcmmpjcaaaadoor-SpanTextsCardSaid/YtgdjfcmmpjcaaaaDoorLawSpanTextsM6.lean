/- Texts put together: what functions of the program compute, and plain words about them. -/
import Derived.Test.YtgdjfcmmpjcaaaaDoorLawSpanTextsM1
import Derived.Test.YtgdjfcmmpjcaaaaDoorLawSpanTextsM5
import Derived.Test.YtgdjfcmmpjcaaaaDoorLawSpanTextsM4
import Derived.Test.YtgdjfcmmpjcaaaaDoorLawSpanTextsM3
import Derived.Test.YtgdjfcmmpjcaaaaDoorProg
import Derived.Test.YtgdjfcmmpjcaaaaDoorRows
import Derived.ChangeArms
import Derived.Deep.DeepHandedRow
import Derived.Shelf.Vars
import Derived.Below
import Derived.Deep.Draws
import Derived.Deep.AppendLies
import Derived.Maps.AppendAt
import Derived.OwnWalk
import Derived.Laws.BytesArg
import Derived.Laws.MakeOwn
import Derived.Laws.OwnMore
import Derived.Deep.OwnRows
import Derived.Tactics
import Derived.Lib.ConvBytes
import Derived.Laws.Slices
import Derived.WalkKit
import Derived.KernelRfl
import Derived.RowKit3
import Derived.Deep.LoopGhost
import Derived.Deep.QuietTactic
import Derived.BigQuiet
import Derived.WideLaws
import Derived.Deep.DeepCutAuto
import Derived.Deep.CutBlock
import Derived.Deep.RegionHeld3
import Derived.Laws.Rows
import Derived.Lib.AppendStr
import Derived.ArgAppend
import Derived.Laws.IdiomCopy
import Derived.OrdersHeld
import Derived.Laws.BitsLemmas
import Derived.RowKit
import Derived.Lib.IndexMore
import Derived.Lib.IndexAny
import Derived.Test.YtgdjfcmmpjcaaaaDoorLawSpanTextsM2
namespace Go.Proofs.YtgdjfcmmpjcaaaaDoor.Q
open Go.RowKit Go.Proofs.YtgdjfcmmpjcaaaaDoorW.PrintWords Go.Proofs.YtgdjfcmmpjcaaaaDoorW.PrintLast Go.Proofs.YtgdjfcmmpjcaaaaDoorW.Own Go.Proofs.YtgdjfcmmpjcaaaaDoorW.PrintMore
attribute [local go_sem] max2_int min2_int max_two min_two max_three min_three max_four min_four   -- for this text's walks alone
set_option linter.unusedVariables false
set_option linter.unusedSimpArgs false
set_option maxHeartbeats 8000000
set_option maxRecDepth 100000
def api_Span_100.l0 : Nat → List (S58) → List (S58) → Int → Option (Bool)
 | 0, _, _, _ => none
 | k + 1, x0, x1, x7 => if x7 < (x0.length : Int) then (if 0 ≤ x7 then (if x7 < (x1.length : Int) then ((api_Span_1.f ((rd_T58 x0 x7).f0) ((rd_T58 x0 x7).f1) ((rd_T58 x0 x7).f2) ((rd_T58 x0 x7).f3) ((rd_T58 x1 x7).f0) ((rd_T58 x1 x7).f1) ((rd_T58 x1 x7).f2) ((rd_T58 x1 x7).f3)).bind fun t550 => (if t550 = true then (api_Span_100.l0 k x0 x1 (wrap64 (x7 + 1))) else (some false))) else (none)) else (none)) else (some true)
def api_Span_100.f (k : Nat) (l0 : List (S58)) (l1 : List (S58))  : Option (Bool) := if (l0.length : Int) = (l1.length : Int) then (api_Span_100.l0 k l0 l1 0) else (some false)
theorem api_Span_100.mono_l : ∀ k, (∀ y0 y1 y2, LeO (api_Span_100.l0 k y0 y1 y2) (api_Span_100.l0 (k + 1) y0 y1 y2))
 | 0 => fun _ _ _ r h => by simp [api_Span_100.l0] at h
 | k + 1 => by
  have ih0 := api_Span_100.mono_l k
  ·intro y0 y1 y2
   unfold api_Span_100.l0
   exact mo
theorem api_Span_100.mono : ∀ a0 a1 k, LeO (api_Span_100.f k a0 a1) (api_Span_100.f (k + 1) a0 a1) := by
 intro a0 a1 k
 have ih0 := api_Span_100.mono_l k
 unfold api_Span_100.f
 exact mo
def api_Span_100.T6 : Bool × List (List Nat × List Nat) := (true, [([], []), ([], []), ([], []), ([1, 2], [1, 2]), ([3], [3]), ([], []), ([], []), ([5, 6], [5, 6]), ([7], [7]), ([0, 4, 8], [0, 4, 8]), ([9], [9])])
def api_Span_100.B6 : List Nat := [0, 0, 0, 6, 14, 0, 0, 96, 224, 511, 1023]
theorem api_Span_100.tab6 : rtab .any (opsOf Tryd.f100 6) = api_Span_100.T6 := by kernel_rfl
theorem api_Span_100.bits6 : waitsOk api_Span_100.T6.2 api_Span_100.B6 = true := by kernel_rfl
theorem api_Span_100.calls (k : Nat) (A0 : Option Addr) (c0 : Nat) (l0 : List (S58)) (A1 : Option Addr) (c1 : Nat) (l1 : List (S58))  (r : Bool) (w : World) (hr0 : Kd.C k58 w A0 l0.length l0) (hc0 : l0.length ≤ c0) (hr1 : Kd.C k58 w A1 l1.length l1) (hc1 : l1.length ≤ c1) (hG : Glob w) (h : api_Span_100.f k l0 l1 = some r) :
 Calls Tryd.prog 100 #[.slice A0 l0.length c0, .slice A1 l1.length c1, .func (.func 101) #[] #[]] w fun e w' => e = .returned (.bool r) ∧ Below w.heap.size w w' := by
 have hu58 := Tryd.underlying58
 have HG := Aside0.mk hG
 clear hG
 have HR0 := Aside0.mk hr0
 have HC0 := Aside0.mk hc0
 clear hr0 hc0
 have HR1 := Aside0.mk hr1
 have HC1 := Aside0.mk hc1
 clear hr1 hc1
 have HB := Aside0.mk (Below.refl w.heap.size w)
 have H : (if (l0.length : Int) = (l1.length : Int) then (api_Span_100.l0 k l0 l1 0) else (some false)) = some r := h
 clear h
 by_cases c4 : (l0.length : Int) = (l1.length : Int)
 rotate_left
 ·rw [if_neg c4] at H
  obtain ⟨c4b0, c4b1⟩ := eqF c4
  have c4b2 : (l0.length == l1.length) = false := by first | simpa using c4 | (simp at c4 ⊢; omega)
  obtain rfl := Option.some.inj H
  go_enter Tryd.func100, Tryd.ntmps100
  go_wp2
  go_ret
  exact ⟨eA, bE⟩
 rw [if_pos c4] at H
 obtain ⟨c4b0, c4b1⟩ := eqT c4
 have c4b2 : (l0.length == l1.length) = true := by first | simpa using c4 | (simp at c4 ⊢; omega)
 clear c4
 have H' := Aside0.mk H
 clear H
 go_enter Tryd.func100, Tryd.ntmps100
 go_wp2
 go_loopg [7] k (fun kq v7 w' => ∃ (x7_1 : Int), v7 = .int .i64 x7_1 ∧ Aside0 (api_Span_100.l0 kq l0 l1 x7_1 = some r) ∧ Aside0 (kq ≤ k) ∧ Aside0 (Below w.heap.size w w'))
 case atStart => exact ⟨(0), cA, H', ⟨Nat.le_refl _⟩, ⟨bE⟩⟩
 clear H'
 try clear c1
 try clear p2
 try clear c4
 try clear c4b0
 try clear c4b1
 try clear c4b2
 obtain ⟨x7_1, rfl, HA, HK1, HB⟩ := hrel
 cases gk with
 | zero => exact absurd HA.out (by simp [api_Span_100.l0])
 | succ k1 =>
  have H := HA.out
  clear HA
  simp only [api_Span_100.l0] at H
  by_cases c5 : x7_1 < (l0.length : Int)
  rotate_left
  ·rw [if_neg c5] at H
   have c5b0 := dF c5
   clear c5
   obtain rfl := Option.some.inj H
   go_wp2
   go_ret
   exact ⟨eA, bE⟩
  rw [if_pos c5] at H
  have c5b0 := dT c5
  clear c5
  by_cases c6 : 0 ≤ x7_1
  rotate_left
  ·rw [if_neg c6] at H
   exact absurd H (by simp)
  rw [if_pos c6] at H
  have c6b0 := dT c6
  clear c6
  by_cases c7 : x7_1 < (l1.length : Int)
  rotate_left
  ·rw [if_neg c7] at H
   exact absurd H (by simp)
  rw [if_pos c7] at H
  have c7b0 := dT c7
  clear c7
  replace H := bi H
  obtain ⟨t550, A80, H⟩ := H
  try dsimp only at H
  have A8 := Aside0.mk A80
  clear A80
  by_cases c9 : t550 = true
  rotate_left
  ·replace c9 := Bool.eq_false_iff.mpr c9
   subst c9
   have H1 : (some false) = some r := by rw [if_neg (show ¬ (false = true) by decide)] at H; exact H
   clear H
   have H := H1
   clear H1
   obtain rfl := Option.some.inj H
   try go_wp2
   replace HB := Aside0.mk (below_drew1 HB.out)
   have p548 : 0 ≤ (x7_1 : Int) := dA
   have q548 : x7_1 < (l0.length : Int) := dA
   obtain ⟨ad548, e548, hx548_0, hx548_1, hx548_2, hx548_3⟩ := at_T58 HR0.out x7_1 p548 q548
   have hw548_3 := hx548_3
   have hw548_2 := hx548_2
   have hw548_1 := hx548_1
   have hw548_0 := hx548_0
   cases e548
   replace hx548_0 := (HB.out.cell (World.block_lt_of_cell? w _ hx548_0)).trans hx548_0
   replace hx548_1 := (HB.out.cell (World.block_lt_of_cell? w _ hx548_1)).trans hx548_1
   replace hx548_2 := (HB.out.cell (World.block_lt_of_cell? w _ hx548_2)).trans hx548_2
   replace hx548_3 := (HB.out.cell (World.block_lt_of_cell? w _ hx548_3)).trans hx548_3
   replace p548 := eq_true p548
   replace q548 := eq_true q548
   have p549 : 0 ≤ (x7_1 : Int) := dA
   have q549 : x7_1 < (l1.length : Int) := dA
   obtain ⟨ad549, e549, hx549_0, hx549_1, hx549_2, hx549_3⟩ := at_T58 HR1.out x7_1 p549 q549
   have hw549_3 := hx549_3
   have hw549_2 := hx549_2
   have hw549_1 := hx549_1
   have hw549_0 := hx549_0
   cases e549
   replace hx549_0 := (HB.out.cell (World.block_lt_of_cell? w _ hx549_0)).trans hx549_0
   replace hx549_1 := (HB.out.cell (World.block_lt_of_cell? w _ hx549_1)).trans hx549_1
   replace hx549_2 := (HB.out.cell (World.block_lt_of_cell? w _ hx549_2)).trans hx549_2
   replace hx549_3 := (HB.out.cell (World.block_lt_of_cell? w _ hx549_3)).trans hx549_3
   replace p549 := eq_true p549
   replace q549 := eq_true q549
   refine start_ (n := 11) (S := fun w' => w'.cell? (ad548.add ((x7_1).toNat * 4)) = some (.string ((rd_T58 l0 x7_1).f0)) ∧ w'.cell? ⟨(ad548.add ((x7_1).toNat * 4)).block, (ad548.add ((x7_1).toNat * 4)).off + 1, none⟩ = some (.string ((rd_T58 l0 x7_1).f1)) ∧ w'.cell? ⟨(ad548.add ((x7_1).toNat * 4)).block, (ad548.add ((x7_1).toNat * 4)).off + 2, none⟩ = some (.bool ((rd_T58 l0 x7_1).f2)) ∧ w'.cell? ⟨(ad548.add ((x7_1).toNat * 4)).block, (ad548.add ((x7_1).toNat * 4)).off + 3, none⟩ = some (.bool ((rd_T58 l0 x7_1).f3)) ∧ w'.cell? (ad549.add ((x7_1).toNat * 4)) = some (.string ((rd_T58 l1 x7_1).f0)) ∧ w'.cell? ⟨(ad549.add ((x7_1).toNat * 4)).block, (ad549.add ((x7_1).toNat * 4)).off + 1, none⟩ = some (.string ((rd_T58 l1 x7_1).f1)) ∧ w'.cell? ⟨(ad549.add ((x7_1).toNat * 4)).block, (ad549.add ((x7_1).toNat * 4)).off + 2, none⟩ = some (.bool ((rd_T58 l1 x7_1).f2)) ∧ w'.cell? ⟨(ad549.add ((x7_1).toNat * 4)).block, (ad549.add ((x7_1).toNat * 4)).off + 3, none⟩ = some (.bool ((rd_T58 l1 x7_1).f3))) (ds := []) #[false, false, false, false, false, false, false, false, false, false, false] (by kernel_rfl) rfl rfl ⟨((HB.out.cell (World.block_lt_of_cell? w _ hw548_0)).trans hw548_0), ((HB.out.cell (World.block_lt_of_cell? w _ hw548_1)).trans hw548_1), ((HB.out.cell (World.block_lt_of_cell? w _ hw548_2)).trans hw548_2), ((HB.out.cell (World.block_lt_of_cell? w _ hw548_3)).trans hw548_3), ((HB.out.cell (World.block_lt_of_cell? w _ hw549_0)).trans hw549_0), ((HB.out.cell (World.block_lt_of_cell? w _ hw549_1)).trans hw549_1), ((HB.out.cell (World.block_lt_of_cell? w _ hw549_2)).trans hw549_2), ((HB.out.cell (World.block_lt_of_cell? w _ hw549_3)).trans hw549_3)⟩ (fun hHeld => ?_); refine with_tabW api_Span_100.tab6 api_Span_100.bits6 (fun HT_ HW_ => ?_)
   generalize wr.drew = w12 at HB hx548_0 hx548_1 hx548_2 hx548_3 hx549_0 hx549_1 hx549_2 hx549_3 hHeld ⊢
   refine pz 0 (some 19) HT_ ?_
   refine pz 1 (some 20) HT_ ?_
   refine pz 2 (some 21) HT_ ?_
   refine pz 3 (some 22) HT_ ?_
   refine pz 5 (some 24) HT_ ?_
   refine pz 6 (some 25) HT_ ?_
   refine pz 7 (some 26) HT_ ?_
   refine tm 4 (some 23) HT_ HW_ hHeld ?_
   refine tm 8 (some 27) HT_ HW_ hHeld ?_
   refine on 9 (some 28) HT_ (fun K hK => ?_)
   first | (refine goes_ Tryd.func101 (by kernel_rfl) rfl #[.agg #[.string ((rd_T58 l0 x7_1).f0), .string ((rd_T58 l0 x7_1).f1), .bool ((rd_T58 l0 x7_1).f2), .bool ((rd_T58 l0 x7_1).f3)], .agg #[.string ((rd_T58 l1 x7_1).f0), .string ((rd_T58 l1 x7_1).f1), .bool ((rd_T58 l1 x7_1).f2), .bool ((rd_T58 l1 x7_1).f3)]] (by rfl) rfl rfl mA ?_) | (refine goesV_ Tryd.func101 (by kernel_rfl) rfl #[.agg #[.string ((rd_T58 l0 x7_1).f0), .string ((rd_T58 l0 x7_1).f1), .bool ((rd_T58 l0 x7_1).f2), .bool ((rd_T58 l0 x7_1).f3)], .agg #[.string ((rd_T58 l1 x7_1).f0), .string ((rd_T58 l1 x7_1).f1), .bool ((rd_T58 l1 x7_1).f2), .bool ((rd_T58 l1 x7_1).f3)]] (by rfl) rfl rfl rfl mA ?_)
   with_reducible refine (api_Span_1.calls ((rd_T58 l0 x7_1).f0) ((rd_T58 l0 x7_1).f1) ((rd_T58 l0 x7_1).f2) ((rd_T58 l0 x7_1).f3) ((rd_T58 l1 x7_1).f0) ((rd_T58 l1 x7_1).f1) ((rd_T58 l1 x7_1).f2) ((rd_T58 l1 x7_1).f3) false _ (gS HG) A8.out).mono ?_
   rintro e w13 ⟨rfl, hb⟩
   refine ⟨_, rfl, ?_⟩
   replace HB := sB hb
   (try clear hb)
   refine hK.out _ _ ⟨((HB.out.cell (World.block_lt_of_cell? w _ hw548_0)).trans hw548_0), ((HB.out.cell (World.block_lt_of_cell? w _ hw548_1)).trans hw548_1), ((HB.out.cell (World.block_lt_of_cell? w _ hw548_2)).trans hw548_2), ((HB.out.cell (World.block_lt_of_cell? w _ hw548_3)).trans hw548_3), ((HB.out.cell (World.block_lt_of_cell? w _ hw549_0)).trans hw549_0), ((HB.out.cell (World.block_lt_of_cell? w _ hw549_1)).trans hw549_1), ((HB.out.cell (World.block_lt_of_cell? w _ hw549_2)).trans hw549_2), ((HB.out.cell (World.block_lt_of_cell? w _ hw549_3)).trans hw549_3)⟩ (fun hHeld => ?_)
   clear hK K
   refine nz (some 28) ?_
   refine pz 10 (some 29) HT_ ?_
   refine done_ (done_of HT_.out (by kernel_rfl)) ?_
   try go_wp2
   go_ret
   exact ⟨eA, bE⟩
  subst c9
  have H1 : (api_Span_100.l0 k1 l0 l1 (wrap64 (x7_1 + 1))) = some r := by rw [if_pos rfl] at H; exact H
  clear H
  have H := H1
  clear H1
  have H' := Aside0.mk H
  clear H
  try go_wp2
  replace HB := Aside0.mk (below_drew1 HB.out)
  have p548 : 0 ≤ (x7_1 : Int) := dA
  have q548 : x7_1 < (l0.length : Int) := dA
  obtain ⟨ad548, e548, hx548_0, hx548_1, hx548_2, hx548_3⟩ := at_T58 HR0.out x7_1 p548 q548
  have hw548_3 := hx548_3
  have hw548_2 := hx548_2
  have hw548_1 := hx548_1
  have hw548_0 := hx548_0
  cases e548
  replace hx548_0 := (HB.out.cell (World.block_lt_of_cell? w _ hx548_0)).trans hx548_0
  replace hx548_1 := (HB.out.cell (World.block_lt_of_cell? w _ hx548_1)).trans hx548_1
  replace hx548_2 := (HB.out.cell (World.block_lt_of_cell? w _ hx548_2)).trans hx548_2
  replace hx548_3 := (HB.out.cell (World.block_lt_of_cell? w _ hx548_3)).trans hx548_3
  replace p548 := eq_true p548
  replace q548 := eq_true q548
  have p549 : 0 ≤ (x7_1 : Int) := dA
  have q549 : x7_1 < (l1.length : Int) := dA
  obtain ⟨ad549, e549, hx549_0, hx549_1, hx549_2, hx549_3⟩ := at_T58 HR1.out x7_1 p549 q549
  have hw549_3 := hx549_3
  have hw549_2 := hx549_2
  have hw549_1 := hx549_1
  have hw549_0 := hx549_0
  cases e549
  replace hx549_0 := (HB.out.cell (World.block_lt_of_cell? w _ hx549_0)).trans hx549_0
  replace hx549_1 := (HB.out.cell (World.block_lt_of_cell? w _ hx549_1)).trans hx549_1
  replace hx549_2 := (HB.out.cell (World.block_lt_of_cell? w _ hx549_2)).trans hx549_2
  replace hx549_3 := (HB.out.cell (World.block_lt_of_cell? w _ hx549_3)).trans hx549_3
  replace p549 := eq_true p549
  replace q549 := eq_true q549
  refine start_ (n := 11) (S := fun w' => w'.cell? (ad548.add ((x7_1).toNat * 4)) = some (.string ((rd_T58 l0 x7_1).f0)) ∧ w'.cell? ⟨(ad548.add ((x7_1).toNat * 4)).block, (ad548.add ((x7_1).toNat * 4)).off + 1, none⟩ = some (.string ((rd_T58 l0 x7_1).f1)) ∧ w'.cell? ⟨(ad548.add ((x7_1).toNat * 4)).block, (ad548.add ((x7_1).toNat * 4)).off + 2, none⟩ = some (.bool ((rd_T58 l0 x7_1).f2)) ∧ w'.cell? ⟨(ad548.add ((x7_1).toNat * 4)).block, (ad548.add ((x7_1).toNat * 4)).off + 3, none⟩ = some (.bool ((rd_T58 l0 x7_1).f3)) ∧ w'.cell? (ad549.add ((x7_1).toNat * 4)) = some (.string ((rd_T58 l1 x7_1).f0)) ∧ w'.cell? ⟨(ad549.add ((x7_1).toNat * 4)).block, (ad549.add ((x7_1).toNat * 4)).off + 1, none⟩ = some (.string ((rd_T58 l1 x7_1).f1)) ∧ w'.cell? ⟨(ad549.add ((x7_1).toNat * 4)).block, (ad549.add ((x7_1).toNat * 4)).off + 2, none⟩ = some (.bool ((rd_T58 l1 x7_1).f2)) ∧ w'.cell? ⟨(ad549.add ((x7_1).toNat * 4)).block, (ad549.add ((x7_1).toNat * 4)).off + 3, none⟩ = some (.bool ((rd_T58 l1 x7_1).f3))) (ds := []) #[false, false, false, false, false, false, false, false, false, false, false] (by kernel_rfl) rfl rfl ⟨((HB.out.cell (World.block_lt_of_cell? w _ hw548_0)).trans hw548_0), ((HB.out.cell (World.block_lt_of_cell? w _ hw548_1)).trans hw548_1), ((HB.out.cell (World.block_lt_of_cell? w _ hw548_2)).trans hw548_2), ((HB.out.cell (World.block_lt_of_cell? w _ hw548_3)).trans hw548_3), ((HB.out.cell (World.block_lt_of_cell? w _ hw549_0)).trans hw549_0), ((HB.out.cell (World.block_lt_of_cell? w _ hw549_1)).trans hw549_1), ((HB.out.cell (World.block_lt_of_cell? w _ hw549_2)).trans hw549_2), ((HB.out.cell (World.block_lt_of_cell? w _ hw549_3)).trans hw549_3)⟩ (fun hHeld => ?_); refine with_tabW api_Span_100.tab6 api_Span_100.bits6 (fun HT_ HW_ => ?_)
  generalize wr.drew = w10 at HB hx548_0 hx548_1 hx548_2 hx548_3 hx549_0 hx549_1 hx549_2 hx549_3 hHeld ⊢
  refine pz 0 (some 19) HT_ ?_
  refine pz 1 (some 20) HT_ ?_
  refine pz 2 (some 21) HT_ ?_
  refine pz 3 (some 22) HT_ ?_
  refine pz 5 (some 24) HT_ ?_
  refine pz 6 (some 25) HT_ ?_
  refine pz 7 (some 26) HT_ ?_
  refine tm 4 (some 23) HT_ HW_ hHeld ?_
  refine tm 8 (some 27) HT_ HW_ hHeld ?_
  refine on 9 (some 28) HT_ (fun K hK => ?_)
  first | (refine goes_ Tryd.func101 (by kernel_rfl) rfl #[.agg #[.string ((rd_T58 l0 x7_1).f0), .string ((rd_T58 l0 x7_1).f1), .bool ((rd_T58 l0 x7_1).f2), .bool ((rd_T58 l0 x7_1).f3)], .agg #[.string ((rd_T58 l1 x7_1).f0), .string ((rd_T58 l1 x7_1).f1), .bool ((rd_T58 l1 x7_1).f2), .bool ((rd_T58 l1 x7_1).f3)]] (by rfl) rfl rfl mA ?_) | (refine goesV_ Tryd.func101 (by kernel_rfl) rfl #[.agg #[.string ((rd_T58 l0 x7_1).f0), .string ((rd_T58 l0 x7_1).f1), .bool ((rd_T58 l0 x7_1).f2), .bool ((rd_T58 l0 x7_1).f3)], .agg #[.string ((rd_T58 l1 x7_1).f0), .string ((rd_T58 l1 x7_1).f1), .bool ((rd_T58 l1 x7_1).f2), .bool ((rd_T58 l1 x7_1).f3)]] (by rfl) rfl rfl rfl mA ?_)
  with_reducible refine (api_Span_1.calls ((rd_T58 l0 x7_1).f0) ((rd_T58 l0 x7_1).f1) ((rd_T58 l0 x7_1).f2) ((rd_T58 l0 x7_1).f3) ((rd_T58 l1 x7_1).f0) ((rd_T58 l1 x7_1).f1) ((rd_T58 l1 x7_1).f2) ((rd_T58 l1 x7_1).f3) true _ (gS HG) A8.out).mono ?_
  rintro e w11 ⟨rfl, hb⟩
  refine ⟨_, rfl, ?_⟩
  replace HB := sB hb
  (try clear hb)
  refine hK.out _ _ ⟨((HB.out.cell (World.block_lt_of_cell? w _ hw548_0)).trans hw548_0), ((HB.out.cell (World.block_lt_of_cell? w _ hw548_1)).trans hw548_1), ((HB.out.cell (World.block_lt_of_cell? w _ hw548_2)).trans hw548_2), ((HB.out.cell (World.block_lt_of_cell? w _ hw548_3)).trans hw548_3), ((HB.out.cell (World.block_lt_of_cell? w _ hw549_0)).trans hw549_0), ((HB.out.cell (World.block_lt_of_cell? w _ hw549_1)).trans hw549_1), ((HB.out.cell (World.block_lt_of_cell? w _ hw549_2)).trans hw549_2), ((HB.out.cell (World.block_lt_of_cell? w _ hw549_3)).trans hw549_3)⟩ (fun hHeld => ?_)
  clear hK K
  refine nz (some 28) ?_
  refine pz 10 (some 29) HT_ ?_
  refine done_ (done_of HT_.out (by kernel_rfl)) ?_
  try go_wp2
  go_roundg k1
  case measure => have := HK1.out; omega
  case rel => exact ⟨(wrap64 (x7_1 + 1)), cA, H', ⟨by have := HK1.out; omega⟩, ⟨bE⟩⟩
def api_Span_60.f (k : Nat) (l0 : List (S58)) (l1 : List (S58)) : Option (Bool) := (api_Span_100.f k l0 l1).bind fun t551 => (some t551)
theorem api_Span_60.mono : ∀ a0 a1 k, LeO (api_Span_60.f k a0 a1) (api_Span_60.f (k + 1) a0 a1) := by
 intro a0 a1 k
 unfold api_Span_60.f
 have m0 := @api_Span_100.mono
 exact mo
theorem api_Span_60.calls (k : Nat) (A0 : Option Addr) (c0 : Nat) (l0 : List (S58)) (A1 : Option Addr) (c1 : Nat) (l1 : List (S58)) (r : Bool) (w : World) (hr0 : Kd.C k58 w A0 l0.length l0) (hc0 : l0.length ≤ c0) (hr1 : Kd.C k58 w A1 l1.length l1) (hc1 : l1.length ≤ c1) (hG : Glob w) (h : api_Span_60.f k l0 l1 = some r) :
 Calls Tryd.prog 60 #[.slice A0 l0.length c0, .slice A1 l1.length c1] w fun e w' => e = .returned (.bool r) ∧ Below w.heap.size w w' := by
 have HG := Aside0.mk hG
 clear hG
 have HR0 := Aside0.mk hr0
 have HC0 := Aside0.mk hc0
 clear hr0 hc0
 have HR1 := Aside0.mk hr1
 have HC1 := Aside0.mk hc1
 clear hr1 hc1
 have HB := Aside0.mk (Below.refl w.heap.size w)
 have H : ((api_Span_100.f k l0 l1).bind fun t551 => (some t551)) = some r := h
 clear h
 replace H := bi H
 obtain ⟨t551, A30, H⟩ := H
 try dsimp only at H
 have A3 := Aside0.mk A30
 clear A30
 obtain rfl := Option.some.inj H
 go_enter Tryd.func60, Tryd.ntmps60
 go_wp2_with (first | (refine gl (some 7) Tryd.func100 #[.slice A0 l0.length c0, .slice A1 l1.length c1, .func (.func 101) #[] #[]] ?_; (with_reducible refine (api_Span_100.calls k _ _ l0 _ _ l1  t551 _ ?side1 ?side2 ?side3 ?side4 (gS HG) A3.out).mono ?_); (case side1 => repeat (first | exact HR0.out | (with_reducible refine Kd.C_alloc ?_ _) | (with_reducible refine Kd.C_drewN ?_ _) | (with_reducible refine Kd.C_drew ?_))); (case side2 => exact HC0.out); (case side3 => repeat (first | exact HR1.out | (with_reducible refine Kd.C_alloc ?_ _) | (with_reducible refine Kd.C_drewN ?_ _) | (with_reducible refine Kd.C_drew ?_))); (case side4 => exact HC1.out); rintro e w4 ⟨rfl, hb⟩; refine ⟨_, rfl, ?_⟩; replace HB := sB hb; (try clear hb)))
 go_ret
 exact ⟨eA, bE⟩
mutual
def newellaw07_right.l0 : Nat → List (S58) → List (S58) → Int → Option ((List (S58)))
 | 0, _, _, _ => none
 | k + 1, x0, x3, x4 => if x4 < (x0.length : Int) then (newellaw07_right.j1 k x0 x3 x4 (decide (x4 < 12))) else (newellaw07_right.j1 k x0 x3 x4 false)
def newellaw07_right.j1 : Nat → List (S58) → List (S58) → Int → Bool → Option ((List (S58)))
 | 0, _, _, _, _ => none
 | k + 1, x0, x3, x4, x15 => if x15 = true then (if ([] : List (S58)).length + x3.length < 3518437208883 then ((some (([] : List (S58)) ++ x3 : List (S58))).bind fun y552 => (if 0 ≤ x4 then (if x4 < (x0.length : Int) then ((some (([(⟨(rd_T58 x0 x4).f0, (rd_T58 x0 x4).f1, (rd_T58 x0 x4).f2, (rd_T58 x0 x4).f3⟩ : S58)] : List (S58)) : List (S58))).bind fun y556 => (if y552.length + y556.length < 3518437208883 then ((some (y552 ++ y556 : List (S58))).bind fun y559 => ((newelref05_Text.f k y559).bind fun t562 => ((newelref05_Parse.f k t562).bind fun bt563 => ((newelref05_May.f k ((rd_T58 x0 x4).f0) ((rd_T58 x0 x4).f1) ((rd_T58 x0 x4).f2) ((rd_T58 x0 x4).f3)).bind fun t568 => (if t568 = true then (if bt563.2 = 0 then ((api_Span_60.f k bt563.1 y559).bind fun t569 => (if t569 = true then (newellaw07_right.l0 k x0 y559 (wrap64 (x4 + 1))) else (newellaw07_right.l0 k x0 x3 (wrap64 (x4 + 1))))) else (newellaw07_right.l0 k x0 x3 (wrap64 (x4 + 1)))) else (newellaw07_right.l0 k x0 x3 (wrap64 (x4 + 1)))))))) else (none))) else (none)) else (none))) else (none)) else (some x3)
end
def newellaw07_right.f (k : Nat) (l0 : List (S58)) : Option ((List (S58))) := newellaw07_right.l0 k l0 ([] : List (S58)) 0
theorem newellaw07_right.mono_l : ∀ k, (∀ y0 y1 y2, LeO (newellaw07_right.l0 k y0 y1 y2) (newellaw07_right.l0 (k + 1) y0 y1 y2)) ∧ (∀ y0 y1 y2 y3, LeO (newellaw07_right.j1 k y0 y1 y2 y3) (newellaw07_right.j1 (k + 1) y0 y1 y2 y3))
 | 0 => ⟨fun _ _ _ r h => by simp [newellaw07_right.l0] at h, fun _ _ _ _ r h => by simp [newellaw07_right.j1] at h⟩
 | k + 1 => by
  obtain ⟨ih0, ih1⟩ := newellaw07_right.mono_l k
  refine ⟨?_, ?_⟩
  ·intro y0 y1 y2
   unfold newellaw07_right.l0
   have m0 := @api_Span_60.mono
   have m1 := @newelref05_May.mono
   have m2 := @newelref05_Parse.mono
   have m3 := @newelref05_Text.mono
   exact mo
  ·intro y0 y1 y2 y3
   unfold newellaw07_right.j1
   have m0 := @api_Span_60.mono
   have m1 := @newelref05_May.mono
   have m2 := @newelref05_Parse.mono
   have m3 := @newelref05_Text.mono
   exact mo
theorem newellaw07_right.mono : ∀ a0 k, LeO (newellaw07_right.f k a0) (newellaw07_right.f (k + 1) a0) := by
 intro a0 k
 obtain ⟨ih0, ih1⟩ := newellaw07_right.mono_l k
 unfold newellaw07_right.f
 have m0 := @api_Span_60.mono
 have m1 := @newelref05_May.mono
 have m2 := @newelref05_Parse.mono
 have m3 := @newelref05_Text.mono
 exact mo
def newellaw07_right.T5 : Bool × List (List Nat × List Nat) := (true, [([], []), ([0], [0]), ([], []), ([], []), ([2, 3], [2, 3]), ([4], [4]), ([5], [5]), ([1, 6, 1], [1, 6]), ([7, 7, 0, 1, 2, 3, 4, 5, 6, 7], [7])])
def newellaw07_right.B5 : List Nat := [0, 1, 0, 0, 12, 28, 60, 127, 255]
theorem newellaw07_right.tab5 : rtab .any (opsOf Tryd.f62 5) = newellaw07_right.T5 := by kernel_rfl
theorem newellaw07_right.bits5 : waitsOk newellaw07_right.T5.2 newellaw07_right.B5 = true := by kernel_rfl
theorem newellaw07_right.calls (k : Nat) (A0 : Option Addr) (c0 : Nat) (l0 : List (S58)) (r : List (S58)) (w : World) (hr0 : Kd.C k58 w A0 l0.length l0) (hc0 : l0.length ≤ c0) (hG : Glob w) (h : newellaw07_right.f k l0 = some r) :
 Calls Tryd.prog 62 #[.slice A0 l0.length c0] w fun e w' => ∃ v0_ : Value, e = .returned (v0_) ∧ Kd.R k58 58 w' w.heap.size (fun _ => True) v0_ r ∧ Below w.heap.size w w' := by
 have hu58 := Tryd.underlying58
 have HG := Aside0.mk hG
 clear hG
 have HR0 := Aside0.mk hr0
 have HC0 := Aside0.mk hc0
 clear hr0 hc0
 have HB := Aside0.mk (Below.refl w.heap.size w)
 have H : (newellaw07_right.l0 k l0 ([] : List (S58)) 0) = some r := h
 clear h
 have H' := Aside0.mk H
 clear H
 go_enter Tryd.func62, Tryd.ntmps62
 go_wp2
 go_loopg [3, 4] k (fun kq v3 v4 w' => ∃ (x3_1 : List (S58)) (x4_1 : Int), v4 = .int .i64 x4_1 ∧ Aside0 (newellaw07_right.l0 kq l0 x3_1 x4_1 = some r) ∧ Aside0 (kq ≤ k) ∧ Aside0 (Kd.R k58 58 w' w.heap.size (fun _ => True) v3 x3_1) ∧ Aside0 (Below w.heap.size w w'))
 case atStart => exact ⟨(([] : List (S58))), (0), cA, H', ⟨Nat.le_refl _⟩, ⟨by first | exact Kd.R_nil _ _ _ _ _ | exact Kd.N_nil _ _ _ _ _ | exact Kd.V_nil _ _ _ _ _ | exact Kd.Q_nil _ _ _ _ _ | exact Kd.S_nil _ _ _ _ _⟩, ⟨bE⟩⟩
 clear H'
 obtain ⟨x3_1, x4_1, rfl, HA, HK1, HO_3, HB⟩ := hrel
 cases gk with
 | zero => exact absurd HA.out (by simp [newellaw07_right.l0])
 | succ k1 =>
  have H := HA.out
  clear HA
  simp only [newellaw07_right.l0] at H
  have HC2 := Aside0.mk H
  clear H
  go_upto_region 3 with (fail)
  go_cut [15] (fun v15 wc => ∃ (kq : Nat) (x15_1 : Bool), v15 = .bool x15_1 ∧ Aside0 (newellaw07_right.j1 kq l0 x3_1 x4_1 x15_1 = some r) ∧ Aside0 (kq ≤ k1) ∧ Aside0 (Kd.R k58 58 wc w.heap.size (fun _ => True) u3 x3_1) ∧ Aside0 (Below w.heap.size w wc))
  case first =>
   have H := HC2.out
   clear HC2
   by_cases c3 : x4_1 < (l0.length : Int)
   rotate_left
   ·rw [if_neg c3] at H
    have c3b0 := dF c3
    clear c3
    (first | rw [c3b0] | (simp only [i64_w, i32_w]; rw [c3b0]) | skip)
    have H' := Aside0.mk H
    clear H
    go_wp2
    go_meet
    case rel => exact ⟨_, (false), cA, H', ⟨by have := HK1.out; first | omega | exact Nat.le_refl _⟩, ⟨kR HO_3⟩, ⟨bE⟩⟩
   rw [if_pos c3] at H
   have c3b0 := dT c3
   clear c3
   (first | rw [c3b0] | (simp only [i64_w, i32_w]; rw [c3b0]) | skip)
   have H' := Aside0.mk H
   clear H
   go_wp2
   go_meet
   case rel => exact ⟨_, (decide (x4_1 < 12)), cA, H', ⟨by have := HK1.out; first | omega | exact Nat.le_refl _⟩, ⟨kR HO_3⟩, ⟨bE⟩⟩
  clear HC2
  try clear p2
  try clear c3
  try clear c3b0
  obtain ⟨kq, x15_1, rfl, HA, HJ1, HO_3, HB⟩ := hcut
  cases kq with
  | zero => exact absurd HA.out (by simp [newellaw07_right.j1])
  | succ kj1 =>
   have H := HA.out
   clear HA
   simp only [newellaw07_right.j1] at H
   by_cases c4 : x15_1 = true
   rotate_left
   ·replace c4 := Bool.eq_false_iff.mpr c4
    subst c4
    have H1 : (some x3_1) = some r := by rw [if_neg (show ¬ (false = true) by decide)] at H; exact H
    clear H
    have H := H1
    clear H1
    obtain rfl := Option.some.inj H
    go_wp2
    go_ret
    exact ⟨_, by first | rfl | (simp [errW_none, errW_some] <;> rfl) | (simp [*, errW_none, errW_some] <;> rfl), by (with_reducible repeat (first | apply Kd.R_alloc | apply Kd.R_drewN | apply Kd.R_drew)); exact HO_3.out, bE⟩
   subst c4
   have H1 : (if ([] : List (S58)).length + x3_1.length < 3518437208883 then ((some (([] : List (S58)) ++ x3_1 : List (S58))).bind fun y552 => (if 0 ≤ x4_1 then (if x4_1 < (l0.length : Int) then ((some (([(⟨(rd_T58 l0 x4_1).f0, (rd_T58 l0 x4_1).f1, (rd_T58 l0 x4_1).f2, (rd_T58 l0 x4_1).f3⟩ : S58)] : List (S58)) : List (S58))).bind fun y556 => (if y552.length + y556.length < 3518437208883 then ((some (y552 ++ y556 : List (S58))).bind fun y559 => ((newelref05_Text.f kj1 y559).bind fun t562 => ((newelref05_Parse.f kj1 t562).bind fun bt563 => ((newelref05_May.f kj1 ((rd_T58 l0 x4_1).f0) ((rd_T58 l0 x4_1).f1) ((rd_T58 l0 x4_1).f2) ((rd_T58 l0 x4_1).f3)).bind fun t568 => (if t568 = true then (if bt563.2 = 0 then ((api_Span_60.f kj1 bt563.1 y559).bind fun t569 => (if t569 = true then (newellaw07_right.l0 kj1 l0 y559 (wrap64 (x4_1 + 1))) else (newellaw07_right.l0 kj1 l0 x3_1 (wrap64 (x4_1 + 1))))) else (newellaw07_right.l0 kj1 l0 x3_1 (wrap64 (x4_1 + 1)))) else (newellaw07_right.l0 kj1 l0 x3_1 (wrap64 (x4_1 + 1)))))))) else (none))) else (none)) else (none))) else (none)) = some r := by rw [if_pos rfl] at H; exact H
   clear H
   have H := H1
   clear H1
   by_cases c5 : ([] : List (S58)).length + x3_1.length < 3518437208883
   rotate_left
   ·rw [if_neg c5] at H
    exact absurd H (by simp)
   rw [if_pos c5] at H
   have LMc5 := Aside0.mk c5
   clear c5
   obtain ⟨y552, hy552⟩ : ∃ y_ : List (S58), y_ = (([] : List (S58)) ++ x3_1) := ⟨_, rfl⟩
   replace H : (if 0 ≤ x4_1 then (if x4_1 < (l0.length : Int) then ((some (([(⟨(rd_T58 l0 x4_1).f0, (rd_T58 l0 x4_1).f1, (rd_T58 l0 x4_1).f2, (rd_T58 l0 x4_1).f3⟩ : S58)] : List (S58)) : List (S58))).bind fun y556 => (if y552.length + y556.length < 3518437208883 then ((some (y552 ++ y556 : List (S58))).bind fun y559 => ((newelref05_Text.f kj1 y559).bind fun t562 => ((newelref05_Parse.f kj1 t562).bind fun bt563 => ((newelref05_May.f kj1 ((rd_T58 l0 x4_1).f0) ((rd_T58 l0 x4_1).f1) ((rd_T58 l0 x4_1).f2) ((rd_T58 l0 x4_1).f3)).bind fun t568 => (if t568 = true then (if bt563.2 = 0 then ((api_Span_60.f kj1 bt563.1 y559).bind fun t569 => (if t569 = true then (newellaw07_right.l0 kj1 l0 y559 (wrap64 (x4_1 + 1))) else (newellaw07_right.l0 kj1 l0 x3_1 (wrap64 (x4_1 + 1))))) else (newellaw07_right.l0 kj1 l0 x3_1 (wrap64 (x4_1 + 1)))) else (newellaw07_right.l0 kj1 l0 x3_1 (wrap64 (x4_1 + 1)))))))) else (none))) else (none)) else (none)) = some r := by first | (rw [hy552]; with_reducible exact H) | (have H2_ := (Option.bind_some _ _).symm.trans H; rw [hy552]; with_reducible exact H2_) | (have H2_ := (Option.bind_some _ _).symm.trans H; with_reducible exact H2_) | with_reducible exact H | (rw [hy552]; exact H) | exact H
   have Ny552 := Aside0.mk hy552
   clear hy552
   by_cases c6 : 0 ≤ x4_1
   rotate_left
   ·rw [if_neg c6] at H
    exact absurd H (by simp)
   rw [if_pos c6] at H
   have c6b0 := dT c6
   clear c6
   by_cases c7 : x4_1 < (l0.length : Int)
   rotate_left
   ·rw [if_neg c7] at H
    exact absurd H (by simp)
   rw [if_pos c7] at H
   have c7b0 := dT c7
   clear c7
   obtain ⟨y556, hy556⟩ : ∃ y_ : List (S58), y_ = (([(⟨(rd_T58 l0 x4_1).f0, (rd_T58 l0 x4_1).f1, (rd_T58 l0 x4_1).f2, (rd_T58 l0 x4_1).f3⟩ : S58)] : List (S58))) := ⟨_, rfl⟩
   replace H : (if y552.length + y556.length < 3518437208883 then ((some (y552 ++ y556 : List (S58))).bind fun y559 => ((newelref05_Text.f kj1 y559).bind fun t562 => ((newelref05_Parse.f kj1 t562).bind fun bt563 => ((newelref05_May.f kj1 ((rd_T58 l0 x4_1).f0) ((rd_T58 l0 x4_1).f1) ((rd_T58 l0 x4_1).f2) ((rd_T58 l0 x4_1).f3)).bind fun t568 => (if t568 = true then (if bt563.2 = 0 then ((api_Span_60.f kj1 bt563.1 y559).bind fun t569 => (if t569 = true then (newellaw07_right.l0 kj1 l0 y559 (wrap64 (x4_1 + 1))) else (newellaw07_right.l0 kj1 l0 x3_1 (wrap64 (x4_1 + 1))))) else (newellaw07_right.l0 kj1 l0 x3_1 (wrap64 (x4_1 + 1)))) else (newellaw07_right.l0 kj1 l0 x3_1 (wrap64 (x4_1 + 1)))))))) else (none)) = some r := by first | (rw [hy556]; with_reducible exact H) | (have H2_ := (Option.bind_some _ _).symm.trans H; rw [hy556]; with_reducible exact H2_) | (have H2_ := (Option.bind_some _ _).symm.trans H; with_reducible exact H2_) | with_reducible exact H | (rw [hy556]; exact H) | exact H
   have Ny556 := Aside0.mk hy556
   clear hy556
   by_cases c8 : y552.length + y556.length < 3518437208883
   rotate_left
   ·rw [if_neg c8] at H
    exact absurd H (by simp)
   rw [if_pos c8] at H
   have LMc8 := Aside0.mk c8
   clear c8
   obtain ⟨y559, hy559⟩ : ∃ y_ : List (S58), y_ = (y552 ++ y556) := ⟨_, rfl⟩
   replace H : ((newelref05_Text.f kj1 y559).bind fun t562 => ((newelref05_Parse.f kj1 t562).bind fun bt563 => ((newelref05_May.f kj1 ((rd_T58 l0 x4_1).f0) ((rd_T58 l0 x4_1).f1) ((rd_T58 l0 x4_1).f2) ((rd_T58 l0 x4_1).f3)).bind fun t568 => (if t568 = true then (if bt563.2 = 0 then ((api_Span_60.f kj1 bt563.1 y559).bind fun t569 => (if t569 = true then (newellaw07_right.l0 kj1 l0 y559 (wrap64 (x4_1 + 1))) else (newellaw07_right.l0 kj1 l0 x3_1 (wrap64 (x4_1 + 1))))) else (newellaw07_right.l0 kj1 l0 x3_1 (wrap64 (x4_1 + 1)))) else (newellaw07_right.l0 kj1 l0 x3_1 (wrap64 (x4_1 + 1))))))) = some r := by first | (rw [hy559]; with_reducible exact H) | (have H2_ := (Option.bind_some _ _).symm.trans H; rw [hy559]; with_reducible exact H2_) | (have H2_ := (Option.bind_some _ _).symm.trans H; with_reducible exact H2_) | with_reducible exact H | (rw [hy559]; exact H) | exact H
   have Ny559 := Aside0.mk hy559
   clear hy559
   replace H := bi H
   obtain ⟨t562, A90, H⟩ := H
   try dsimp only at H
   have A9 := Aside0.mk A90
   clear A90
   replace H := bi H
   obtain ⟨⟨t563, t564⟩, A100, H⟩ := H
   try dsimp only at H
   have A10 := Aside0.mk A100
   clear A100
   replace H := bi H
   obtain ⟨t568, A110, H⟩ := H
   try dsimp only at H
   have A11 := Aside0.mk A110
   clear A110
   by_cases c12 : t568 = true
   rotate_left
   ·replace c12 := Bool.eq_false_iff.mpr c12
    subst c12
    have H1 : (newellaw07_right.l0 kj1 l0 x3_1 (wrap64 (x4_1 + 1))) = some r := by rw [if_neg (show ¬ (false = true) by decide)] at H; exact H
    clear H
    have H := H1
    clear H1
    have H' := Aside0.mk H
    clear H
    obtain ⟨Ao56, co56, eo56⟩ := Kd.R_slice HO_3.out
    subst eo56
    try go_wp2
    replace HO_3 := Aside0.mk (Kd.R_drew HO_3.out)
    replace HB := Aside0.mk (below_drew1 HB.out)
    have p555 : 0 ≤ (x4_1 : Int) := dA
    have q555 : x4_1 < (l0.length : Int) := dA
    obtain ⟨ad555, e555, hx555_0, hx555_1, hx555_2, hx555_3⟩ := at_T58 HR0.out x4_1 p555 q555
    have hw555_3 := hx555_3
    have hw555_2 := hx555_2
    have hw555_1 := hx555_1
    have hw555_0 := hx555_0
    cases e555
    replace hx555_0 := (HB.out.cell (World.block_lt_of_cell? w _ hx555_0)).trans hx555_0
    replace hx555_1 := (HB.out.cell (World.block_lt_of_cell? w _ hx555_1)).trans hx555_1
    replace hx555_2 := (HB.out.cell (World.block_lt_of_cell? w _ hx555_2)).trans hx555_2
    replace hx555_3 := (HB.out.cell (World.block_lt_of_cell? w _ hx555_3)).trans hx555_3
    replace p555 := eq_true p555
    replace q555 := eq_true q555
    refine start_ (n := 9) (S := fun w' => w'.cell? (ad555.add ((x4_1).toNat * 4)) = some (.string ((rd_T58 l0 x4_1).f0)) ∧ w'.cell? ⟨(ad555.add ((x4_1).toNat * 4)).block, (ad555.add ((x4_1).toNat * 4)).off + 1, none⟩ = some (.string ((rd_T58 l0 x4_1).f1)) ∧ w'.cell? ⟨(ad555.add ((x4_1).toNat * 4)).block, (ad555.add ((x4_1).toNat * 4)).off + 2, none⟩ = some (.bool ((rd_T58 l0 x4_1).f2)) ∧ w'.cell? ⟨(ad555.add ((x4_1).toNat * 4)).block, (ad555.add ((x4_1).toNat * 4)).off + 3, none⟩ = some (.bool ((rd_T58 l0 x4_1).f3))) (ds := []) #[false, false, false, false, false, false, false, false, false] (by kernel_rfl) rfl rfl ⟨((HB.out.cell (World.block_lt_of_cell? w _ hw555_0)).trans hw555_0), ((HB.out.cell (World.block_lt_of_cell? w _ hw555_1)).trans hw555_1), ((HB.out.cell (World.block_lt_of_cell? w _ hw555_2)).trans hw555_2), ((HB.out.cell (World.block_lt_of_cell? w _ hw555_3)).trans hw555_3)⟩ (fun hHeld => ?_); refine with_tabW newellaw07_right.tab5 newellaw07_right.bits5 (fun HT_ HW_ => ?_)
    generalize wc.drew = w57 at HO_3 HB hx555_0 hx555_1 hx555_2 hx555_3 hHeld ⊢
    refine pz 0 (some 18) HT_ ?_
    refine pz 2 (some 20) HT_ ?_
    refine pz 3 (some 21) HT_ ?_
    refine pz 4 (some 22) HT_ ?_
    refine tm 5 (some 23) HT_ HW_ hHeld ?_
    refine join_ (σ := Value × Value) 2 #[true, true, true, true, true, true, true, false, false] (fun s_ => [(19, s_.1), (24, s_.2)]) (fun s_ w' => (w'.cell? (ad555.add ((x4_1).toNat * 4)) = some (.string ((rd_T58 l0 x4_1).f0)) ∧ w'.cell? ⟨(ad555.add ((x4_1).toNat * 4)).block, (ad555.add ((x4_1).toNat * 4)).off + 1, none⟩ = some (.string ((rd_T58 l0 x4_1).f1)) ∧ w'.cell? ⟨(ad555.add ((x4_1).toNat * 4)).block, (ad555.add ((x4_1).toNat * 4)).off + 2, none⟩ = some (.bool ((rd_T58 l0 x4_1).f2)) ∧ w'.cell? ⟨(ad555.add ((x4_1).toNat * 4)).block, (ad555.add ((x4_1).toNat * 4)).off + 3, none⟩ = some (.bool ((rd_T58 l0 x4_1).f3))) ∧ (Kd.R k58 58 w' w.heap.size (fun k_ => some k_ ≠ (s_.2 : Value).ownBlock ∧ some k_ ≠ (.slice Ao56 x3_1.length co56 : Value).ownBlock) s_.1 y552) ∧ (Kd.R k58 58 w' w.heap.size (fun k_ => some k_ ≠ (s_.1 : Value).ownBlock ∧ some k_ ≠ (.slice Ao56 x3_1.length co56 : Value).ownBlock) s_.2 y556) ∧ (Kd.R k58 58 w' w.heap.size (fun k_ => some k_ ≠ (s_.1 : Value).ownBlock ∧ some k_ ≠ (s_.2 : Value).ownBlock) (.slice Ao56 x3_1.length co56) x3_1) ∧ (Below w.heap.size w w')) ?_ ?_
    rotate_left
    ·intro hCont
     refine two_ (i := 1) (j := 6) (Ni := some 19) (Nj := some 24) #[true, true, true, true, true, true, false, false, false] #[true, false, true, true, true, true, true, false, false] rfl rfl rfl rfl (two_of HT_.out (by kernel_rfl)) (by decide) (by decide) (fun K hK => ?_) (fun K hK => ?_)
     ·skip
      refine Kd.R_append_rows_step k58 (w0 := w) w.heap.size (by rfl) (.const (.slice none 0 0)) (.tmp 18) 55 58 (.agg #[(.string ⟨#[]⟩), (.string ⟨#[]⟩), (.bool false), (.bool false)]) 40 rfl Tryd.underlying55 info58 rfl (by decide) (by omega) (.slice none 0 0) ([] : List (S58)) x3_1 _ _ _ (fun k_ => some k_ ≠ (.slice Ao56 x3_1.length co56 : Value).ownBlock) (fun _ => False) rfl rfl ?aO ?aR (fun _ _ h => h) (fun _ h => h.elim) ?aF ?aB ?aS ?aL ?_
      (case aR => repeat (first | exact (Kd.R_reads' HO_3.out).2.2 | (with_reducible refine Kd.C_alloc ?_ _) | (with_reducible refine Kd.C_drewN ?_ _) | (with_reducible refine Kd.C_drew ?_)))
      (case aB => exact bE)
      (case aF => exact (fun k_ hk => Kd.fresh' (Kd.R_lt (kR HO_3)) k_ hk))
      (case aO => exact ((Kd.R_nil _ _ _ _ (fun k_ => some k_ ≠ (.slice Ao56 x3_1.length co56 : Value).ownBlock))))
      (case aS => exact (below_size bE))
      (case aL => have := LMc5.out; omega)
      intro v553 w58 ho hb hg hat
      rw [← Ny552.out] at ho
      replace HO_3 := Aside0.mk (Kd.R_after (Kd.R_apart_nil (kR HO_3)) hg hat)
      replace HB := Aside0.mk (hb)
      have HO554 := Aside0.mk (ho)
      clear ho hb hg hat
      refine hK.out _ _ ⟨((HB.out.cell (World.block_lt_of_cell? w _ hw555_0)).trans hw555_0), ((HB.out.cell (World.block_lt_of_cell? w _ hw555_1)).trans hw555_1), ((HB.out.cell (World.block_lt_of_cell? w _ hw555_2)).trans hw555_2), ((HB.out.cell (World.block_lt_of_cell? w _ hw555_3)).trans hw555_3)⟩ (fun hHeld => ?_)
      clear hK K
      refine nz (some 19) ?_
      refine on 6 (some 24) HT_ (fun K hK => ?_)
      refine Kd.R_lit_step k58 _ 58 ?hg (N := 24) ?hd (xs := ([(⟨(rd_T58 l0 x4_1).f0, (rd_T58 l0 x4_1).f1, (rd_T58 l0 x4_1).f2, (rd_T58 l0 x4_1).f3⟩ : S58)] : List (S58))) (inner := [.string ((rd_T58 l0 x4_1).f0), .string ((rd_T58 l0 x4_1).f1), .bool ((rd_T58 l0 x4_1).f2), .bool ((rd_T58 l0 x4_1).f3)]) (ok := fun _ => True) (okp := fun _ => True) ?hr ?hp (fun _ hk => hk) trivial (Below.refl _ _) (Nat.le_refl _) (by simp) ?_; (case hd => rfl); (case hg => rfl); (case hr => first | (go_simp; done) | (go_simp; rfl)); (case hp => exact (Reps.c4 (show Kd.M k58 _ _ _ (⟨(rd_T58 l0 x4_1).f0, (rd_T58 l0 x4_1).f1, (rd_T58 l0 x4_1).f2, (rd_T58 l0 x4_1).f3⟩ : S58) [.string ((rd_T58 l0 x4_1).f0), .string ((rd_T58 l0 x4_1).f1), .bool ((rd_T58 l0 x4_1).f2), .bool ((rd_T58 l0 x4_1).f3)] from (k58_mkM _ _ _ (⟨(rd_T58 l0 x4_1).f0, (rd_T58 l0 x4_1).f1, (rd_T58 l0 x4_1).f2, (rd_T58 l0 x4_1).f3⟩ : S58) )) (Reps.none _ _)))
      intro v557 w59 ho60 hb hg_ hnew_
      clear hg_ hnew_
      (first | rw [← Ny556.out] at ho60 | (simp only [Int.reduceToNat] at ho60; rw [← Ny556.out] at ho60))
      have HO558 := Aside0.mk (Kd.R_lower (Kd.R_new' (Kd.R_new' ho60 (Kd.R_lt (kR HO_3))) (Kd.R_lt (kR HO554))) (below_size bE))
      replace HO_3 := Aside0.mk (Kd.R_elder' (kR HO_3) (Kd.R_base ho60) hb)
      replace HO554 := Aside0.mk (Kd.R_elder' (kR HO554) (Kd.R_base ho60) hb)
      replace HB := sB hb
      clear hb ho60
      refine hK.out _ _ ⟨((HB.out.cell (World.block_lt_of_cell? w _ hw555_0)).trans hw555_0), ((HB.out.cell (World.block_lt_of_cell? w _ hw555_1)).trans hw555_1), ((HB.out.cell (World.block_lt_of_cell? w _ hw555_2)).trans hw555_2), ((HB.out.cell (World.block_lt_of_cell? w _ hw555_3)).trans hw555_3)⟩ (fun hHeld => ?_)
      clear hK K
      refine nz (some 24) ?_
      exact norm_ (by simp only [putAll, Act.put, List.setIfInBounds_toArray, List.set_cons_zero, List.set_cons_succ]) (hCont (v553, v557) _ ⟨hHeld, (by (with_reducible repeat (first | apply Kd.R_alloc | apply Kd.R_drewN | apply Kd.R_drew)); exact Kd.R_mono HO554.out (fun _ hk => ⟨hk.2, hk.1⟩)), (by (with_reducible repeat (first | apply Kd.R_alloc | apply Kd.R_drewN | apply Kd.R_drew)); exact Kd.R_mono HO558.out (fun _ hk => ⟨hk.2, hk.1.2⟩)), (by (with_reducible repeat (first | apply Kd.R_alloc | apply Kd.R_drewN | apply Kd.R_drew)); exact Kd.R_mono HO_3.out (fun _ hk => ⟨hk.1.2, hk.2⟩)), bE⟩)
     ·skip
      refine Kd.R_lit_step k58 _ 58 ?hg (N := 24) ?hd (xs := ([(⟨(rd_T58 l0 x4_1).f0, (rd_T58 l0 x4_1).f1, (rd_T58 l0 x4_1).f2, (rd_T58 l0 x4_1).f3⟩ : S58)] : List (S58))) (inner := [.string ((rd_T58 l0 x4_1).f0), .string ((rd_T58 l0 x4_1).f1), .bool ((rd_T58 l0 x4_1).f2), .bool ((rd_T58 l0 x4_1).f3)]) (ok := fun _ => True) (okp := fun _ => True) ?hr ?hp (fun _ hk => hk) trivial (Below.refl _ _) (Nat.le_refl _) (by simp) ?_; (case hd => rfl); (case hg => rfl); (case hr => first | (go_simp; done) | (go_simp; rfl)); (case hp => exact (Reps.c4 (show Kd.M k58 _ _ _ (⟨(rd_T58 l0 x4_1).f0, (rd_T58 l0 x4_1).f1, (rd_T58 l0 x4_1).f2, (rd_T58 l0 x4_1).f3⟩ : S58) [.string ((rd_T58 l0 x4_1).f0), .string ((rd_T58 l0 x4_1).f1), .bool ((rd_T58 l0 x4_1).f2), .bool ((rd_T58 l0 x4_1).f3)] from (k58_mkM _ _ _ (⟨(rd_T58 l0 x4_1).f0, (rd_T58 l0 x4_1).f1, (rd_T58 l0 x4_1).f2, (rd_T58 l0 x4_1).f3⟩ : S58) )) (Reps.none _ _)))
      intro v557 w58 ho59 hb hg_ hnew_
      clear hg_ hnew_
      (first | rw [← Ny556.out] at ho59 | (simp only [Int.reduceToNat] at ho59; rw [← Ny556.out] at ho59))
      have HO558 := Aside0.mk (Kd.R_lower (Kd.R_new' ho59 (Kd.R_lt (kR HO_3))) (below_size bE))
      replace HO_3 := Aside0.mk (Kd.R_elder' (kR HO_3) (Kd.R_base ho59) hb)
      replace HB := sB hb
      clear hb ho59
      refine hK.out _ _ ⟨((HB.out.cell (World.block_lt_of_cell? w _ hw555_0)).trans hw555_0), ((HB.out.cell (World.block_lt_of_cell? w _ hw555_1)).trans hw555_1), ((HB.out.cell (World.block_lt_of_cell? w _ hw555_2)).trans hw555_2), ((HB.out.cell (World.block_lt_of_cell? w _ hw555_3)).trans hw555_3)⟩ (fun hHeld => ?_)
      clear hK K
      refine nz (some 24) ?_
      refine on 1 (some 19) HT_ (fun K hK => ?_)
      refine Kd.R_append_rows_step k58 (w0 := w) w.heap.size (by rfl) (.const (.slice none 0 0)) (.tmp 18) 55 58 (.agg #[(.string ⟨#[]⟩), (.string ⟨#[]⟩), (.bool false), (.bool false)]) 40 rfl Tryd.underlying55 info58 rfl (by decide) (by omega) (.slice none 0 0) ([] : List (S58)) x3_1 _ _ _ (fun k_ => some k_ ≠ (.slice Ao56 x3_1.length co56 : Value).ownBlock ∧ some k_ ≠ (v557 : Value).ownBlock) (fun _ => False) rfl rfl ?aO ?aR (fun _ _ h => h) (fun _ h => h.elim) ?aF ?aB ?aS ?aL ?_
      (case aR => repeat (first | exact (Kd.R_reads' HO_3.out).2.2 | (with_reducible refine Kd.C_alloc ?_ _) | (with_reducible refine Kd.C_drewN ?_ _) | (with_reducible refine Kd.C_drew ?_)))
      (case aB => exact bE)
      (case aF => exact (fun k_ hk => ⟨Kd.fresh' (Kd.R_lt (kR HO_3)) k_ hk, Kd.fresh' (Kd.R_lt (kR HO558)) k_ hk⟩))
      (case aO => exact ((Kd.R_nil _ _ _ _ (fun k_ => some k_ ≠ (.slice Ao56 x3_1.length co56 : Value).ownBlock ∧ some k_ ≠ (v557 : Value).ownBlock))))
      (case aS => exact (below_size bE))
      (case aL => have := LMc5.out; omega)
      intro v553 w60 ho hb hg hat
      rw [← Ny552.out] at ho
      replace HO_3 := Aside0.mk (Kd.R_after (Kd.R_apart_nil (kR HO_3)) hg hat)
      replace HO558 := Aside0.mk (Kd.R_after (Kd.R_apart_nil (kR HO558)) hg hat)
      replace HB := Aside0.mk (hb)
      have HO554 := Aside0.mk (ho)
      clear ho hb hg hat
      refine hK.out _ _ ⟨((HB.out.cell (World.block_lt_of_cell? w _ hw555_0)).trans hw555_0), ((HB.out.cell (World.block_lt_of_cell? w _ hw555_1)).trans hw555_1), ((HB.out.cell (World.block_lt_of_cell? w _ hw555_2)).trans hw555_2), ((HB.out.cell (World.block_lt_of_cell? w _ hw555_3)).trans hw555_3)⟩ (fun hHeld => ?_)
      clear hK K
      refine nz (some 19) ?_
      exact norm_ (by simp only [putAll, Act.put, List.setIfInBounds_toArray, List.set_cons_zero, List.set_cons_succ]) (hCont (v553, v557) _ ⟨hHeld, (by (with_reducible repeat (first | apply Kd.R_alloc | apply Kd.R_drewN | apply Kd.R_drew)); exact Kd.R_mono HO554.out (fun _ hk => ⟨hk.2, hk.1⟩)), (by (with_reducible repeat (first | apply Kd.R_alloc | apply Kd.R_drewN | apply Kd.R_drew)); exact Kd.R_mono HO558.out (fun _ hk => ⟨hk.2, hk.1.2⟩)), (by (with_reducible repeat (first | apply Kd.R_alloc | apply Kd.R_drewN | apply Kd.R_drew)); exact Kd.R_mono HO_3.out (fun _ hk => ⟨hk.2, hk.1.2⟩)), bE⟩)
    rintro ⟨v553, v557⟩ w61 ⟨hS_, h0_, h1_, h2_, h3_⟩
    have HO554 : Aside0 (Kd.R k58 58 w61 w.heap.size (fun k_ => some k_ ≠ (v557 : Value).ownBlock ∧ some k_ ≠ (.slice Ao56 x3_1.length co56 : Value).ownBlock) v553 y552) := ⟨h0_⟩
    have HO558 : Aside0 (Kd.R k58 58 w61 w.heap.size (fun k_ => some k_ ≠ (v553 : Value).ownBlock ∧ some k_ ≠ (.slice Ao56 x3_1.length co56 : Value).ownBlock) v557 y556) := ⟨h1_⟩
    replace HO_3 : Aside0 (Kd.R k58 58 w61 w.heap.size (fun k_ => some k_ ≠ (v553 : Value).ownBlock ∧ some k_ ≠ (v557 : Value).ownBlock) (.slice Ao56 x3_1.length co56) x3_1) := ⟨h2_⟩
    replace HB : Aside0 (Below w.heap.size w w61) := ⟨h3_⟩
    clear h0_ h1_ h2_ h3_
    have hHeld : w61.cell? (ad555.add ((x4_1).toNat * 4)) = some (.string ((rd_T58 l0 x4_1).f0)) ∧ w61.cell? ⟨(ad555.add ((x4_1).toNat * 4)).block, (ad555.add ((x4_1).toNat * 4)).off + 1, none⟩ = some (.string ((rd_T58 l0 x4_1).f1)) ∧ w61.cell? ⟨(ad555.add ((x4_1).toNat * 4)).block, (ad555.add ((x4_1).toNat * 4)).off + 2, none⟩ = some (.bool ((rd_T58 l0 x4_1).f2)) ∧ w61.cell? ⟨(ad555.add ((x4_1).toNat * 4)).block, (ad555.add ((x4_1).toNat * 4)).off + 3, none⟩ = some (.bool ((rd_T58 l0 x4_1).f3)) := hS_
    obtain ⟨Ao63, co63, eo63⟩ := Kd.R_slice HO558.out
    (first | subst eo63 | (injection eo63 with f1_ f2_ f3_; have f4_ := f1_.symm; have f5_ := f3_.symm; clear f1_ f2_ f3_; subst f4_; subst f5_))
    refine norm_ (a' := ?_) ?_ ?_
    rotate_left
    ·simp only [putAll, Act.put, List.setIfInBounds_toArray, List.set_cons_zero, List.set_cons_succ]
     rfl
    refine on 7 (some 25) HT_ (fun K hK => ?_)
    refine Kd.R_append_rows_step k58 (w0 := w) w.heap.size (by rfl) (.tmp 19) (.tmp 24) 55 58 (.agg #[(.string ⟨#[]⟩), (.string ⟨#[]⟩), (.bool false), (.bool false)]) 40 rfl Tryd.underlying55 info58 rfl (by decide) (by omega) v553 y552 y556 _ _ _ (fun k_ => some k_ ≠ (.slice Ao56 x3_1.length co56 : Value).ownBlock ∧ some k_ ≠ (.slice Ao63 y556.length co63 : Value).ownBlock) (fun _ => False) rfl rfl ?aO ?aR (fun _ _ h => h) (fun _ h => h.elim) ?aF ?aB ?aS ?aL ?_
    (case aR => repeat (first | exact (Kd.R_reads' HO558.out).2.2 | (with_reducible refine Kd.C_alloc ?_ _) | (with_reducible refine Kd.C_drewN ?_ _) | (with_reducible refine Kd.C_drew ?_)))
    (case aB => exact bE)
    (case aF => exact (fun k_ hk => ⟨Kd.fresh' (Kd.R_lt (kR HO_3)) k_ hk, Kd.fresh' (Kd.R_lt (kR HO558)) k_ hk⟩))
    (case aO => exact (by (with_reducible repeat (first | apply Kd.R_alloc | apply Kd.R_drewN | apply Kd.R_drew)); exact Kd.R_mono HO554.out (fun _ hk => ⟨hk.2, hk.1⟩)))
    (case aS => exact (below_size bE))
    (case aL => have := LMc8.out; omega)
    intro v560 w62 ho hb hg hat
    rw [← Ny559.out] at ho
    replace HO_3 := Aside0.mk (Kd.R_after (ok := (fun k_ => some k_ ≠ (.slice Ao63 y556.length co63 : Value).ownBlock)) (by (with_reducible repeat (first | apply Kd.R_alloc | apply Kd.R_drewN | apply Kd.R_drew)); exact Kd.R_mono HO_3.out (fun _ hk => ⟨hk.2, hk.1⟩)) hg hat)
    replace HO558 := Aside0.mk (Kd.R_after (ok := (fun k_ => some k_ ≠ (.slice Ao56 x3_1.length co56 : Value).ownBlock)) (by (with_reducible repeat (first | apply Kd.R_alloc | apply Kd.R_drewN | apply Kd.R_drew)); exact Kd.R_mono HO558.out (fun _ hk => ⟨hk.2, hk.1⟩)) hg hat)
    replace HB := Aside0.mk (hb)
    have HO561 := Aside0.mk (ho)
    clear HO554
    clear ho hb hg hat
    refine hK.out _ _ ⟨((HB.out.cell (World.block_lt_of_cell? w _ hw555_0)).trans hw555_0), ((HB.out.cell (World.block_lt_of_cell? w _ hw555_1)).trans hw555_1), ((HB.out.cell (World.block_lt_of_cell? w _ hw555_2)).trans hw555_2), ((HB.out.cell (World.block_lt_of_cell? w _ hw555_3)).trans hw555_3)⟩ (fun hHeld => ?_)
    clear hK K
    refine nz (some 25) ?_
    refine pz 8 (some 5) HT_ ?_
    refine done_ (done_of HT_.out (by kernel_rfl)) ?_
    obtain ⟨Ao64, co64, eo64⟩ := Kd.R_slice HO561.out
    subst eo64
    try go_wp2_with (first | (refine gl (some 28) Tryd.func102 #[.slice Ao64 y559.length co64] ?_; (with_reducible refine (newelref05_Text.calls kj1 _ _ y559 t562 _ ?side1 ?side2 (gS HG) A9.out).mono ?_); (case side1 => repeat (first | exact (Kd.R_reads' HO561.out).2.2 | (with_reducible refine Kd.C_alloc ?_ _) | (with_reducible refine Kd.C_drewN ?_ _) | (with_reducible refine Kd.C_drew ?_))); (case side2 => exact (Kd.R_reads' HO561.out).2.1); rintro e w65 ⟨rfl, hb⟩; refine ⟨_, rfl, ?_⟩; replace HO_3 := rB HO_3 hb; replace HO558 := rB HO558 hb; replace HO561 := rB HO561 hb; replace HB := sB hb; (try clear hb)) | (refine gl (some 29) Tryd.func52 #[.string t562] ?_; (with_reducible refine (newelref05_Parse.calls kj1 t562 t563 t564 _ (gS HG) A10.out).mono ?_); rintro e w66 ⟨v565, rfl, ho0, hb⟩; refine ⟨_, rfl, ?_⟩; have HO566 := Aside0.mk (Kd.R_lower (Kd.R_new' (Kd.R_new' (Kd.R_new' ho0 (Kd.R_lt (kR HO_3))) (Kd.R_lt (kR HO558))) (Kd.R_lt (kR HO561))) (below_size bE)); replace HO_3 := Aside0.mk (Kd.R_elder' (kR HO_3) (Kd.R_base ho0) hb); replace HO558 := Aside0.mk (Kd.R_elder' (kR HO558) (Kd.R_base ho0) hb); replace HO561 := Aside0.mk (Kd.R_elder' (kR HO561) (Kd.R_base ho0) hb); replace HB := sB hb; (try clear hb); (try clear ho0); have p567 : 0 ≤ (x4_1 : Int) := dA; have q567 : x4_1 < (l0.length : Int) := dA; obtain ⟨ad567, e567, hx567_0, hx567_1, hx567_2, hx567_3⟩ := at_T58 HR0.out x4_1 p567 q567; obtain rfl : ad555 = ad567 := (by injection e567); replace hx567_0 := (HB.out.cell (World.block_lt_of_cell? w _ hx567_0)).trans hx567_0; replace hx567_1 := (HB.out.cell (World.block_lt_of_cell? w _ hx567_1)).trans hx567_1; replace hx567_2 := (HB.out.cell (World.block_lt_of_cell? w _ hx567_2)).trans hx567_2; replace hx567_3 := (HB.out.cell (World.block_lt_of_cell? w _ hx567_3)).trans hx567_3; replace p567 := eq_true p567; replace q567 := eq_true q567) | (refine gl (some 36) Tryd.func89 #[.agg #[.string ((rd_T58 l0 x4_1).f0), .string ((rd_T58 l0 x4_1).f1), .bool ((rd_T58 l0 x4_1).f2), .bool ((rd_T58 l0 x4_1).f3)]] ?_; (with_reducible refine (newelref05_May.calls kj1 ((rd_T58 l0 x4_1).f0) ((rd_T58 l0 x4_1).f1) ((rd_T58 l0 x4_1).f2) ((rd_T58 l0 x4_1).f3) false _ (gS HG) A11.out).mono ?_); rintro e w67 ⟨rfl, hb⟩; refine ⟨_, rfl, ?_⟩; replace HO_3 := rB HO_3 hb; replace HO558 := rB HO558 hb; replace HO561 := rB HO561 hb; replace HO566 := rB HO566 hb; replace HB := sB hb; (try clear hb)))
    go_roundg kj1
    case measure => have := HK1.out; have := HJ1.out; omega
    case rel => exact ⟨(x3_1), (wrap64 (x4_1 + 1)), cA, H', ⟨by have := HK1.out; have := HJ1.out; omega⟩, ⟨by (with_reducible repeat (first | apply Kd.R_alloc | apply Kd.R_drewN | apply Kd.R_drew)); exact Kd.R_mono HO_3.out (fun _ hk => trivial)⟩, ⟨bE⟩⟩
   subst c12
   have H1 : (if t564 = 0 then ((api_Span_60.f kj1 t563 y559).bind fun t569 => (if t569 = true then (newellaw07_right.l0 kj1 l0 y559 (wrap64 (x4_1 + 1))) else (newellaw07_right.l0 kj1 l0 x3_1 (wrap64 (x4_1 + 1))))) else (newellaw07_right.l0 kj1 l0 x3_1 (wrap64 (x4_1 + 1)))) = some r := by rw [if_pos rfl] at H; exact H
   clear H
   have H := H1
   clear H1
   by_cases c13 : t564 = 0
   rotate_left
   ·rw [if_neg c13] at H
    obtain ⟨c13b0, c13b1⟩ := eqF c13
    have H' := Aside0.mk H
    clear H
    obtain ⟨Ao44, co44, eo44⟩ := Kd.R_slice HO_3.out
    subst eo44
    try go_wp2
    replace HO_3 := Aside0.mk (Kd.R_drew HO_3.out)
    replace HB := Aside0.mk (below_drew1 HB.out)
    have p555 : 0 ≤ (x4_1 : Int) := dA
    have q555 : x4_1 < (l0.length : Int) := dA
    obtain ⟨ad555, e555, hx555_0, hx555_1, hx555_2, hx555_3⟩ := at_T58 HR0.out x4_1 p555 q555
    have hw555_3 := hx555_3
    have hw555_2 := hx555_2
    have hw555_1 := hx555_1
    have hw555_0 := hx555_0
    cases e555
    replace hx555_0 := (HB.out.cell (World.block_lt_of_cell? w _ hx555_0)).trans hx555_0
    replace hx555_1 := (HB.out.cell (World.block_lt_of_cell? w _ hx555_1)).trans hx555_1
    replace hx555_2 := (HB.out.cell (World.block_lt_of_cell? w _ hx555_2)).trans hx555_2
    replace hx555_3 := (HB.out.cell (World.block_lt_of_cell? w _ hx555_3)).trans hx555_3
    replace p555 := eq_true p555
    replace q555 := eq_true q555
    refine start_ (n := 9) (S := fun w' => w'.cell? (ad555.add ((x4_1).toNat * 4)) = some (.string ((rd_T58 l0 x4_1).f0)) ∧ w'.cell? ⟨(ad555.add ((x4_1).toNat * 4)).block, (ad555.add ((x4_1).toNat * 4)).off + 1, none⟩ = some (.string ((rd_T58 l0 x4_1).f1)) ∧ w'.cell? ⟨(ad555.add ((x4_1).toNat * 4)).block, (ad555.add ((x4_1).toNat * 4)).off + 2, none⟩ = some (.bool ((rd_T58 l0 x4_1).f2)) ∧ w'.cell? ⟨(ad555.add ((x4_1).toNat * 4)).block, (ad555.add ((x4_1).toNat * 4)).off + 3, none⟩ = some (.bool ((rd_T58 l0 x4_1).f3))) (ds := []) #[false, false, false, false, false, false, false, false, false] (by kernel_rfl) rfl rfl ⟨((HB.out.cell (World.block_lt_of_cell? w _ hw555_0)).trans hw555_0), ((HB.out.cell (World.block_lt_of_cell? w _ hw555_1)).trans hw555_1), ((HB.out.cell (World.block_lt_of_cell? w _ hw555_2)).trans hw555_2), ((HB.out.cell (World.block_lt_of_cell? w _ hw555_3)).trans hw555_3)⟩ (fun hHeld => ?_); refine with_tabW newellaw07_right.tab5 newellaw07_right.bits5 (fun HT_ HW_ => ?_)
    generalize wc.drew = w45 at HO_3 HB hx555_0 hx555_1 hx555_2 hx555_3 hHeld ⊢
    refine pz 0 (some 18) HT_ ?_
    refine pz 2 (some 20) HT_ ?_
    refine pz 3 (some 21) HT_ ?_
    refine pz 4 (some 22) HT_ ?_
    refine tm 5 (some 23) HT_ HW_ hHeld ?_
    refine join_ (σ := Value × Value) 2 #[true, true, true, true, true, true, true, false, false] (fun s_ => [(19, s_.1), (24, s_.2)]) (fun s_ w' => (w'.cell? (ad555.add ((x4_1).toNat * 4)) = some (.string ((rd_T58 l0 x4_1).f0)) ∧ w'.cell? ⟨(ad555.add ((x4_1).toNat * 4)).block, (ad555.add ((x4_1).toNat * 4)).off + 1, none⟩ = some (.string ((rd_T58 l0 x4_1).f1)) ∧ w'.cell? ⟨(ad555.add ((x4_1).toNat * 4)).block, (ad555.add ((x4_1).toNat * 4)).off + 2, none⟩ = some (.bool ((rd_T58 l0 x4_1).f2)) ∧ w'.cell? ⟨(ad555.add ((x4_1).toNat * 4)).block, (ad555.add ((x4_1).toNat * 4)).off + 3, none⟩ = some (.bool ((rd_T58 l0 x4_1).f3))) ∧ (Kd.R k58 58 w' w.heap.size (fun k_ => some k_ ≠ (s_.2 : Value).ownBlock ∧ some k_ ≠ (.slice Ao44 x3_1.length co44 : Value).ownBlock) s_.1 y552) ∧ (Kd.R k58 58 w' w.heap.size (fun k_ => some k_ ≠ (s_.1 : Value).ownBlock ∧ some k_ ≠ (.slice Ao44 x3_1.length co44 : Value).ownBlock) s_.2 y556) ∧ (Kd.R k58 58 w' w.heap.size (fun k_ => some k_ ≠ (s_.1 : Value).ownBlock ∧ some k_ ≠ (s_.2 : Value).ownBlock) (.slice Ao44 x3_1.length co44) x3_1) ∧ (Below w.heap.size w w')) ?_ ?_
    rotate_left
    ·intro hCont
     refine two_ (i := 1) (j := 6) (Ni := some 19) (Nj := some 24) #[true, true, true, true, true, true, false, false, false] #[true, false, true, true, true, true, true, false, false] rfl rfl rfl rfl (two_of HT_.out (by kernel_rfl)) (by decide) (by decide) (fun K hK => ?_) (fun K hK => ?_)
     ·skip
      refine Kd.R_append_rows_step k58 (w0 := w) w.heap.size (by rfl) (.const (.slice none 0 0)) (.tmp 18) 55 58 (.agg #[(.string ⟨#[]⟩), (.string ⟨#[]⟩), (.bool false), (.bool false)]) 40 rfl Tryd.underlying55 info58 rfl (by decide) (by omega) (.slice none 0 0) ([] : List (S58)) x3_1 _ _ _ (fun k_ => some k_ ≠ (.slice Ao44 x3_1.length co44 : Value).ownBlock) (fun _ => False) rfl rfl ?aO ?aR (fun _ _ h => h) (fun _ h => h.elim) ?aF ?aB ?aS ?aL ?_
      (case aR => repeat (first | exact (Kd.R_reads' HO_3.out).2.2 | (with_reducible refine Kd.C_alloc ?_ _) | (with_reducible refine Kd.C_drewN ?_ _) | (with_reducible refine Kd.C_drew ?_)))
      (case aB => exact bE)
      (case aF => exact (fun k_ hk => Kd.fresh' (Kd.R_lt (kR HO_3)) k_ hk))
      (case aO => exact ((Kd.R_nil _ _ _ _ (fun k_ => some k_ ≠ (.slice Ao44 x3_1.length co44 : Value).ownBlock))))
      (case aS => exact (below_size bE))
      (case aL => have := LMc5.out; omega)
      intro v553 w46 ho hb hg hat
      rw [← Ny552.out] at ho
      replace HO_3 := Aside0.mk (Kd.R_after (Kd.R_apart_nil (kR HO_3)) hg hat)
      replace HB := Aside0.mk (hb)
      have HO554 := Aside0.mk (ho)
      clear ho hb hg hat
      refine hK.out _ _ ⟨((HB.out.cell (World.block_lt_of_cell? w _ hw555_0)).trans hw555_0), ((HB.out.cell (World.block_lt_of_cell? w _ hw555_1)).trans hw555_1), ((HB.out.cell (World.block_lt_of_cell? w _ hw555_2)).trans hw555_2), ((HB.out.cell (World.block_lt_of_cell? w _ hw555_3)).trans hw555_3)⟩ (fun hHeld => ?_)
      clear hK K
      refine nz (some 19) ?_
      refine on 6 (some 24) HT_ (fun K hK => ?_)
      refine Kd.R_lit_step k58 _ 58 ?hg (N := 24) ?hd (xs := ([(⟨(rd_T58 l0 x4_1).f0, (rd_T58 l0 x4_1).f1, (rd_T58 l0 x4_1).f2, (rd_T58 l0 x4_1).f3⟩ : S58)] : List (S58))) (inner := [.string ((rd_T58 l0 x4_1).f0), .string ((rd_T58 l0 x4_1).f1), .bool ((rd_T58 l0 x4_1).f2), .bool ((rd_T58 l0 x4_1).f3)]) (ok := fun _ => True) (okp := fun _ => True) ?hr ?hp (fun _ hk => hk) trivial (Below.refl _ _) (Nat.le_refl _) (by simp) ?_; (case hd => rfl); (case hg => rfl); (case hr => first | (go_simp; done) | (go_simp; rfl)); (case hp => exact (Reps.c4 (show Kd.M k58 _ _ _ (⟨(rd_T58 l0 x4_1).f0, (rd_T58 l0 x4_1).f1, (rd_T58 l0 x4_1).f2, (rd_T58 l0 x4_1).f3⟩ : S58) [.string ((rd_T58 l0 x4_1).f0), .string ((rd_T58 l0 x4_1).f1), .bool ((rd_T58 l0 x4_1).f2), .bool ((rd_T58 l0 x4_1).f3)] from (k58_mkM _ _ _ (⟨(rd_T58 l0 x4_1).f0, (rd_T58 l0 x4_1).f1, (rd_T58 l0 x4_1).f2, (rd_T58 l0 x4_1).f3⟩ : S58) )) (Reps.none _ _)))
      intro v557 w47 ho48 hb hg_ hnew_
      clear hg_ hnew_
      (first | rw [← Ny556.out] at ho48 | (simp only [Int.reduceToNat] at ho48; rw [← Ny556.out] at ho48))
      have HO558 := Aside0.mk (Kd.R_lower (Kd.R_new' (Kd.R_new' ho48 (Kd.R_lt (kR HO_3))) (Kd.R_lt (kR HO554))) (below_size bE))
      replace HO_3 := Aside0.mk (Kd.R_elder' (kR HO_3) (Kd.R_base ho48) hb)
      replace HO554 := Aside0.mk (Kd.R_elder' (kR HO554) (Kd.R_base ho48) hb)
      replace HB := sB hb
      clear hb ho48
      refine hK.out _ _ ⟨((HB.out.cell (World.block_lt_of_cell? w _ hw555_0)).trans hw555_0), ((HB.out.cell (World.block_lt_of_cell? w _ hw555_1)).trans hw555_1), ((HB.out.cell (World.block_lt_of_cell? w _ hw555_2)).trans hw555_2), ((HB.out.cell (World.block_lt_of_cell? w _ hw555_3)).trans hw555_3)⟩ (fun hHeld => ?_)
      clear hK K
      refine nz (some 24) ?_
      exact norm_ (by simp only [putAll, Act.put, List.setIfInBounds_toArray, List.set_cons_zero, List.set_cons_succ]) (hCont (v553, v557) _ ⟨hHeld, (by (with_reducible repeat (first | apply Kd.R_alloc | apply Kd.R_drewN | apply Kd.R_drew)); exact Kd.R_mono HO554.out (fun _ hk => ⟨hk.2, hk.1⟩)), (by (with_reducible repeat (first | apply Kd.R_alloc | apply Kd.R_drewN | apply Kd.R_drew)); exact Kd.R_mono HO558.out (fun _ hk => ⟨hk.2, hk.1.2⟩)), (by (with_reducible repeat (first | apply Kd.R_alloc | apply Kd.R_drewN | apply Kd.R_drew)); exact Kd.R_mono HO_3.out (fun _ hk => ⟨hk.1.2, hk.2⟩)), bE⟩)
     ·skip
      refine Kd.R_lit_step k58 _ 58 ?hg (N := 24) ?hd (xs := ([(⟨(rd_T58 l0 x4_1).f0, (rd_T58 l0 x4_1).f1, (rd_T58 l0 x4_1).f2, (rd_T58 l0 x4_1).f3⟩ : S58)] : List (S58))) (inner := [.string ((rd_T58 l0 x4_1).f0), .string ((rd_T58 l0 x4_1).f1), .bool ((rd_T58 l0 x4_1).f2), .bool ((rd_T58 l0 x4_1).f3)]) (ok := fun _ => True) (okp := fun _ => True) ?hr ?hp (fun _ hk => hk) trivial (Below.refl _ _) (Nat.le_refl _) (by simp) ?_; (case hd => rfl); (case hg => rfl); (case hr => first | (go_simp; done) | (go_simp; rfl)); (case hp => exact (Reps.c4 (show Kd.M k58 _ _ _ (⟨(rd_T58 l0 x4_1).f0, (rd_T58 l0 x4_1).f1, (rd_T58 l0 x4_1).f2, (rd_T58 l0 x4_1).f3⟩ : S58) [.string ((rd_T58 l0 x4_1).f0), .string ((rd_T58 l0 x4_1).f1), .bool ((rd_T58 l0 x4_1).f2), .bool ((rd_T58 l0 x4_1).f3)] from (k58_mkM _ _ _ (⟨(rd_T58 l0 x4_1).f0, (rd_T58 l0 x4_1).f1, (rd_T58 l0 x4_1).f2, (rd_T58 l0 x4_1).f3⟩ : S58) )) (Reps.none _ _)))
      intro v557 w46 ho47 hb hg_ hnew_
      clear hg_ hnew_
      (first | rw [← Ny556.out] at ho47 | (simp only [Int.reduceToNat] at ho47; rw [← Ny556.out] at ho47))
      have HO558 := Aside0.mk (Kd.R_lower (Kd.R_new' ho47 (Kd.R_lt (kR HO_3))) (below_size bE))
      replace HO_3 := Aside0.mk (Kd.R_elder' (kR HO_3) (Kd.R_base ho47) hb)
      replace HB := sB hb
      clear hb ho47
      refine hK.out _ _ ⟨((HB.out.cell (World.block_lt_of_cell? w _ hw555_0)).trans hw555_0), ((HB.out.cell (World.block_lt_of_cell? w _ hw555_1)).trans hw555_1), ((HB.out.cell (World.block_lt_of_cell? w _ hw555_2)).trans hw555_2), ((HB.out.cell (World.block_lt_of_cell? w _ hw555_3)).trans hw555_3)⟩ (fun hHeld => ?_)
      clear hK K
      refine nz (some 24) ?_
      refine on 1 (some 19) HT_ (fun K hK => ?_)
      refine Kd.R_append_rows_step k58 (w0 := w) w.heap.size (by rfl) (.const (.slice none 0 0)) (.tmp 18) 55 58 (.agg #[(.string ⟨#[]⟩), (.string ⟨#[]⟩), (.bool false), (.bool false)]) 40 rfl Tryd.underlying55 info58 rfl (by decide) (by omega) (.slice none 0 0) ([] : List (S58)) x3_1 _ _ _ (fun k_ => some k_ ≠ (.slice Ao44 x3_1.length co44 : Value).ownBlock ∧ some k_ ≠ (v557 : Value).ownBlock) (fun _ => False) rfl rfl ?aO ?aR (fun _ _ h => h) (fun _ h => h.elim) ?aF ?aB ?aS ?aL ?_
      (case aR => repeat (first | exact (Kd.R_reads' HO_3.out).2.2 | (with_reducible refine Kd.C_alloc ?_ _) | (with_reducible refine Kd.C_drewN ?_ _) | (with_reducible refine Kd.C_drew ?_)))
      (case aB => exact bE)
      (case aF => exact (fun k_ hk => ⟨Kd.fresh' (Kd.R_lt (kR HO_3)) k_ hk, Kd.fresh' (Kd.R_lt (kR HO558)) k_ hk⟩))
      (case aO => exact ((Kd.R_nil _ _ _ _ (fun k_ => some k_ ≠ (.slice Ao44 x3_1.length co44 : Value).ownBlock ∧ some k_ ≠ (v557 : Value).ownBlock))))
      (case aS => exact (below_size bE))
      (case aL => have := LMc5.out; omega)
      intro v553 w48 ho hb hg hat
      rw [← Ny552.out] at ho
      replace HO_3 := Aside0.mk (Kd.R_after (Kd.R_apart_nil (kR HO_3)) hg hat)
      replace HO558 := Aside0.mk (Kd.R_after (Kd.R_apart_nil (kR HO558)) hg hat)
      replace HB := Aside0.mk (hb)
      have HO554 := Aside0.mk (ho)
      clear ho hb hg hat
      refine hK.out _ _ ⟨((HB.out.cell (World.block_lt_of_cell? w _ hw555_0)).trans hw555_0), ((HB.out.cell (World.block_lt_of_cell? w _ hw555_1)).trans hw555_1), ((HB.out.cell (World.block_lt_of_cell? w _ hw555_2)).trans hw555_2), ((HB.out.cell (World.block_lt_of_cell? w _ hw555_3)).trans hw555_3)⟩ (fun hHeld => ?_)
      clear hK K
      refine nz (some 19) ?_
      exact norm_ (by simp only [putAll, Act.put, List.setIfInBounds_toArray, List.set_cons_zero, List.set_cons_succ]) (hCont (v553, v557) _ ⟨hHeld, (by (with_reducible repeat (first | apply Kd.R_alloc | apply Kd.R_drewN | apply Kd.R_drew)); exact Kd.R_mono HO554.out (fun _ hk => ⟨hk.2, hk.1⟩)), (by (with_reducible repeat (first | apply Kd.R_alloc | apply Kd.R_drewN | apply Kd.R_drew)); exact Kd.R_mono HO558.out (fun _ hk => ⟨hk.2, hk.1.2⟩)), (by (with_reducible repeat (first | apply Kd.R_alloc | apply Kd.R_drewN | apply Kd.R_drew)); exact Kd.R_mono HO_3.out (fun _ hk => ⟨hk.2, hk.1.2⟩)), bE⟩)
    rintro ⟨v553, v557⟩ w49 ⟨hS_, h0_, h1_, h2_, h3_⟩
    have HO554 : Aside0 (Kd.R k58 58 w49 w.heap.size (fun k_ => some k_ ≠ (v557 : Value).ownBlock ∧ some k_ ≠ (.slice Ao44 x3_1.length co44 : Value).ownBlock) v553 y552) := ⟨h0_⟩
    have HO558 : Aside0 (Kd.R k58 58 w49 w.heap.size (fun k_ => some k_ ≠ (v553 : Value).ownBlock ∧ some k_ ≠ (.slice Ao44 x3_1.length co44 : Value).ownBlock) v557 y556) := ⟨h1_⟩
    replace HO_3 : Aside0 (Kd.R k58 58 w49 w.heap.size (fun k_ => some k_ ≠ (v553 : Value).ownBlock ∧ some k_ ≠ (v557 : Value).ownBlock) (.slice Ao44 x3_1.length co44) x3_1) := ⟨h2_⟩
    replace HB : Aside0 (Below w.heap.size w w49) := ⟨h3_⟩
    clear h0_ h1_ h2_ h3_
    have hHeld : w49.cell? (ad555.add ((x4_1).toNat * 4)) = some (.string ((rd_T58 l0 x4_1).f0)) ∧ w49.cell? ⟨(ad555.add ((x4_1).toNat * 4)).block, (ad555.add ((x4_1).toNat * 4)).off + 1, none⟩ = some (.string ((rd_T58 l0 x4_1).f1)) ∧ w49.cell? ⟨(ad555.add ((x4_1).toNat * 4)).block, (ad555.add ((x4_1).toNat * 4)).off + 2, none⟩ = some (.bool ((rd_T58 l0 x4_1).f2)) ∧ w49.cell? ⟨(ad555.add ((x4_1).toNat * 4)).block, (ad555.add ((x4_1).toNat * 4)).off + 3, none⟩ = some (.bool ((rd_T58 l0 x4_1).f3)) := hS_
    obtain ⟨Ao51, co51, eo51⟩ := Kd.R_slice HO558.out
    (first | subst eo51 | (injection eo51 with f1_ f2_ f3_; have f4_ := f1_.symm; have f5_ := f3_.symm; clear f1_ f2_ f3_; subst f4_; subst f5_))
    refine norm_ (a' := ?_) ?_ ?_
    rotate_left
    ·simp only [putAll, Act.put, List.setIfInBounds_toArray, List.set_cons_zero, List.set_cons_succ]
     rfl
    refine on 7 (some 25) HT_ (fun K hK => ?_)
    refine Kd.R_append_rows_step k58 (w0 := w) w.heap.size (by rfl) (.tmp 19) (.tmp 24) 55 58 (.agg #[(.string ⟨#[]⟩), (.string ⟨#[]⟩), (.bool false), (.bool false)]) 40 rfl Tryd.underlying55 info58 rfl (by decide) (by omega) v553 y552 y556 _ _ _ (fun k_ => some k_ ≠ (.slice Ao44 x3_1.length co44 : Value).ownBlock ∧ some k_ ≠ (.slice Ao51 y556.length co51 : Value).ownBlock) (fun _ => False) rfl rfl ?aO ?aR (fun _ _ h => h) (fun _ h => h.elim) ?aF ?aB ?aS ?aL ?_
    (case aR => repeat (first | exact (Kd.R_reads' HO558.out).2.2 | (with_reducible refine Kd.C_alloc ?_ _) | (with_reducible refine Kd.C_drewN ?_ _) | (with_reducible refine Kd.C_drew ?_)))
    (case aB => exact bE)
    (case aF => exact (fun k_ hk => ⟨Kd.fresh' (Kd.R_lt (kR HO_3)) k_ hk, Kd.fresh' (Kd.R_lt (kR HO558)) k_ hk⟩))
    (case aO => exact (by (with_reducible repeat (first | apply Kd.R_alloc | apply Kd.R_drewN | apply Kd.R_drew)); exact Kd.R_mono HO554.out (fun _ hk => ⟨hk.2, hk.1⟩)))
    (case aS => exact (below_size bE))
    (case aL => have := LMc8.out; omega)
    intro v560 w50 ho hb hg hat
    rw [← Ny559.out] at ho
    replace HO_3 := Aside0.mk (Kd.R_after (ok := (fun k_ => some k_ ≠ (.slice Ao51 y556.length co51 : Value).ownBlock)) (by (with_reducible repeat (first | apply Kd.R_alloc | apply Kd.R_drewN | apply Kd.R_drew)); exact Kd.R_mono HO_3.out (fun _ hk => ⟨hk.2, hk.1⟩)) hg hat)
    replace HO558 := Aside0.mk (Kd.R_after (ok := (fun k_ => some k_ ≠ (.slice Ao44 x3_1.length co44 : Value).ownBlock)) (by (with_reducible repeat (first | apply Kd.R_alloc | apply Kd.R_drewN | apply Kd.R_drew)); exact Kd.R_mono HO558.out (fun _ hk => ⟨hk.2, hk.1⟩)) hg hat)
    replace HB := Aside0.mk (hb)
    have HO561 := Aside0.mk (ho)
    clear HO554
    clear ho hb hg hat
    refine hK.out _ _ ⟨((HB.out.cell (World.block_lt_of_cell? w _ hw555_0)).trans hw555_0), ((HB.out.cell (World.block_lt_of_cell? w _ hw555_1)).trans hw555_1), ((HB.out.cell (World.block_lt_of_cell? w _ hw555_2)).trans hw555_2), ((HB.out.cell (World.block_lt_of_cell? w _ hw555_3)).trans hw555_3)⟩ (fun hHeld => ?_)
    clear hK K
    refine nz (some 25) ?_
    refine pz 8 (some 5) HT_ ?_
    refine done_ (done_of HT_.out (by kernel_rfl)) ?_
    obtain ⟨Ao52, co52, eo52⟩ := Kd.R_slice HO561.out
    subst eo52
    try go_wp2_with (first | (refine gl (some 28) Tryd.func102 #[.slice Ao52 y559.length co52] ?_; (with_reducible refine (newelref05_Text.calls kj1 _ _ y559 t562 _ ?side1 ?side2 (gS HG) A9.out).mono ?_); (case side1 => repeat (first | exact (Kd.R_reads' HO561.out).2.2 | (with_reducible refine Kd.C_alloc ?_ _) | (with_reducible refine Kd.C_drewN ?_ _) | (with_reducible refine Kd.C_drew ?_))); (case side2 => exact (Kd.R_reads' HO561.out).2.1); rintro e w53 ⟨rfl, hb⟩; refine ⟨_, rfl, ?_⟩; replace HO_3 := rB HO_3 hb; replace HO558 := rB HO558 hb; replace HO561 := rB HO561 hb; replace HB := sB hb; (try clear hb)) | (refine gl (some 29) Tryd.func52 #[.string t562] ?_; (with_reducible refine (newelref05_Parse.calls kj1 t562 t563 t564 _ (gS HG) A10.out).mono ?_); rintro e w54 ⟨v565, rfl, ho0, hb⟩; refine ⟨_, rfl, ?_⟩; have HO566 := Aside0.mk (Kd.R_lower (Kd.R_new' (Kd.R_new' (Kd.R_new' ho0 (Kd.R_lt (kR HO_3))) (Kd.R_lt (kR HO558))) (Kd.R_lt (kR HO561))) (below_size bE)); replace HO_3 := Aside0.mk (Kd.R_elder' (kR HO_3) (Kd.R_base ho0) hb); replace HO558 := Aside0.mk (Kd.R_elder' (kR HO558) (Kd.R_base ho0) hb); replace HO561 := Aside0.mk (Kd.R_elder' (kR HO561) (Kd.R_base ho0) hb); replace HB := sB hb; (try clear hb); (try clear ho0); have p567 : 0 ≤ (x4_1 : Int) := dA; have q567 : x4_1 < (l0.length : Int) := dA; obtain ⟨ad567, e567, hx567_0, hx567_1, hx567_2, hx567_3⟩ := at_T58 HR0.out x4_1 p567 q567; obtain rfl : ad555 = ad567 := (by injection e567); replace hx567_0 := (HB.out.cell (World.block_lt_of_cell? w _ hx567_0)).trans hx567_0; replace hx567_1 := (HB.out.cell (World.block_lt_of_cell? w _ hx567_1)).trans hx567_1; replace hx567_2 := (HB.out.cell (World.block_lt_of_cell? w _ hx567_2)).trans hx567_2; replace hx567_3 := (HB.out.cell (World.block_lt_of_cell? w _ hx567_3)).trans hx567_3; replace p567 := eq_true p567; replace q567 := eq_true q567) | (refine gl (some 36) Tryd.func89 #[.agg #[.string ((rd_T58 l0 x4_1).f0), .string ((rd_T58 l0 x4_1).f1), .bool ((rd_T58 l0 x4_1).f2), .bool ((rd_T58 l0 x4_1).f3)]] ?_; (with_reducible refine (newelref05_May.calls kj1 ((rd_T58 l0 x4_1).f0) ((rd_T58 l0 x4_1).f1) ((rd_T58 l0 x4_1).f2) ((rd_T58 l0 x4_1).f3) true _ (gS HG) A11.out).mono ?_); rintro e w55 ⟨rfl, hb⟩; refine ⟨_, rfl, ?_⟩; replace HO_3 := rB HO_3 hb; replace HO558 := rB HO558 hb; replace HO561 := rB HO561 hb; replace HO566 := rB HO566 hb; replace HB := sB hb; (try clear hb)))
    go_roundg kj1
    case measure => have := HK1.out; have := HJ1.out; omega
    case rel => exact ⟨(x3_1), (wrap64 (x4_1 + 1)), cA, H', ⟨by have := HK1.out; have := HJ1.out; omega⟩, ⟨by (with_reducible repeat (first | apply Kd.R_alloc | apply Kd.R_drewN | apply Kd.R_drew)); exact Kd.R_mono HO_3.out (fun _ hk => trivial)⟩, ⟨bE⟩⟩
   rw [if_pos c13] at H
   obtain ⟨c13b0, c13b1⟩ := eqT c13
   clear c13
   replace H := bi H
   obtain ⟨t569, A140, H⟩ := H
   try dsimp only at H
   have A14 := Aside0.mk A140
   clear A140
   by_cases c15 : t569 = true
   ·subst c15
    have H1 : (newellaw07_right.l0 kj1 l0 y559 (wrap64 (x4_1 + 1))) = some r := by rw [if_pos rfl] at H; exact H
    clear H
    have H := H1
    clear H1
    have H' := Aside0.mk H
    clear H
    obtain ⟨Ao16, co16, eo16⟩ := Kd.R_slice HO_3.out
    subst eo16
    try go_wp2
    replace HO_3 := Aside0.mk (Kd.R_drew HO_3.out)
    replace HB := Aside0.mk (below_drew1 HB.out)
    have p555 : 0 ≤ (x4_1 : Int) := dA
    have q555 : x4_1 < (l0.length : Int) := dA
    obtain ⟨ad555, e555, hx555_0, hx555_1, hx555_2, hx555_3⟩ := at_T58 HR0.out x4_1 p555 q555
    have hw555_3 := hx555_3
    have hw555_2 := hx555_2
    have hw555_1 := hx555_1
    have hw555_0 := hx555_0
    cases e555
    replace hx555_0 := (HB.out.cell (World.block_lt_of_cell? w _ hx555_0)).trans hx555_0
    replace hx555_1 := (HB.out.cell (World.block_lt_of_cell? w _ hx555_1)).trans hx555_1
    replace hx555_2 := (HB.out.cell (World.block_lt_of_cell? w _ hx555_2)).trans hx555_2
    replace hx555_3 := (HB.out.cell (World.block_lt_of_cell? w _ hx555_3)).trans hx555_3
    replace p555 := eq_true p555
    replace q555 := eq_true q555
    refine start_ (n := 9) (S := fun w' => w'.cell? (ad555.add ((x4_1).toNat * 4)) = some (.string ((rd_T58 l0 x4_1).f0)) ∧ w'.cell? ⟨(ad555.add ((x4_1).toNat * 4)).block, (ad555.add ((x4_1).toNat * 4)).off + 1, none⟩ = some (.string ((rd_T58 l0 x4_1).f1)) ∧ w'.cell? ⟨(ad555.add ((x4_1).toNat * 4)).block, (ad555.add ((x4_1).toNat * 4)).off + 2, none⟩ = some (.bool ((rd_T58 l0 x4_1).f2)) ∧ w'.cell? ⟨(ad555.add ((x4_1).toNat * 4)).block, (ad555.add ((x4_1).toNat * 4)).off + 3, none⟩ = some (.bool ((rd_T58 l0 x4_1).f3))) (ds := []) #[false, false, false, false, false, false, false, false, false] (by kernel_rfl) rfl rfl ⟨((HB.out.cell (World.block_lt_of_cell? w _ hw555_0)).trans hw555_0), ((HB.out.cell (World.block_lt_of_cell? w _ hw555_1)).trans hw555_1), ((HB.out.cell (World.block_lt_of_cell? w _ hw555_2)).trans hw555_2), ((HB.out.cell (World.block_lt_of_cell? w _ hw555_3)).trans hw555_3)⟩ (fun hHeld => ?_); refine with_tabW newellaw07_right.tab5 newellaw07_right.bits5 (fun HT_ HW_ => ?_)
    generalize wc.drew = w17 at HO_3 HB hx555_0 hx555_1 hx555_2 hx555_3 hHeld ⊢
    refine pz 0 (some 18) HT_ ?_
    refine pz 2 (some 20) HT_ ?_
    refine pz 3 (some 21) HT_ ?_
    refine pz 4 (some 22) HT_ ?_
    refine tm 5 (some 23) HT_ HW_ hHeld ?_
    refine join_ (σ := Value × Value) 2 #[true, true, true, true, true, true, true, false, false] (fun s_ => [(19, s_.1), (24, s_.2)]) (fun s_ w' => (w'.cell? (ad555.add ((x4_1).toNat * 4)) = some (.string ((rd_T58 l0 x4_1).f0)) ∧ w'.cell? ⟨(ad555.add ((x4_1).toNat * 4)).block, (ad555.add ((x4_1).toNat * 4)).off + 1, none⟩ = some (.string ((rd_T58 l0 x4_1).f1)) ∧ w'.cell? ⟨(ad555.add ((x4_1).toNat * 4)).block, (ad555.add ((x4_1).toNat * 4)).off + 2, none⟩ = some (.bool ((rd_T58 l0 x4_1).f2)) ∧ w'.cell? ⟨(ad555.add ((x4_1).toNat * 4)).block, (ad555.add ((x4_1).toNat * 4)).off + 3, none⟩ = some (.bool ((rd_T58 l0 x4_1).f3))) ∧ (Kd.R k58 58 w' w.heap.size (fun k_ => some k_ ≠ (s_.2 : Value).ownBlock ∧ some k_ ≠ (.slice Ao16 x3_1.length co16 : Value).ownBlock) s_.1 y552) ∧ (Kd.R k58 58 w' w.heap.size (fun k_ => some k_ ≠ (s_.1 : Value).ownBlock ∧ some k_ ≠ (.slice Ao16 x3_1.length co16 : Value).ownBlock) s_.2 y556) ∧ (Kd.R k58 58 w' w.heap.size (fun k_ => some k_ ≠ (s_.1 : Value).ownBlock ∧ some k_ ≠ (s_.2 : Value).ownBlock) (.slice Ao16 x3_1.length co16) x3_1) ∧ (Below w.heap.size w w')) ?_ ?_
    rotate_left
    ·intro hCont
     refine two_ (i := 1) (j := 6) (Ni := some 19) (Nj := some 24) #[true, true, true, true, true, true, false, false, false] #[true, false, true, true, true, true, true, false, false] rfl rfl rfl rfl (two_of HT_.out (by kernel_rfl)) (by decide) (by decide) (fun K hK => ?_) (fun K hK => ?_)
     ·skip
      refine Kd.R_append_rows_step k58 (w0 := w) w.heap.size (by rfl) (.const (.slice none 0 0)) (.tmp 18) 55 58 (.agg #[(.string ⟨#[]⟩), (.string ⟨#[]⟩), (.bool false), (.bool false)]) 40 rfl Tryd.underlying55 info58 rfl (by decide) (by omega) (.slice none 0 0) ([] : List (S58)) x3_1 _ _ _ (fun k_ => some k_ ≠ (.slice Ao16 x3_1.length co16 : Value).ownBlock) (fun _ => False) rfl rfl ?aO ?aR (fun _ _ h => h) (fun _ h => h.elim) ?aF ?aB ?aS ?aL ?_
      (case aR => repeat (first | exact (Kd.R_reads' HO_3.out).2.2 | (with_reducible refine Kd.C_alloc ?_ _) | (with_reducible refine Kd.C_drewN ?_ _) | (with_reducible refine Kd.C_drew ?_)))
      (case aB => exact bE)
      (case aF => exact (fun k_ hk => Kd.fresh' (Kd.R_lt (kR HO_3)) k_ hk))
      (case aO => exact ((Kd.R_nil _ _ _ _ (fun k_ => some k_ ≠ (.slice Ao16 x3_1.length co16 : Value).ownBlock))))
      (case aS => exact (below_size bE))
      (case aL => have := LMc5.out; omega)
      intro v553 w18 ho hb hg hat
      rw [← Ny552.out] at ho
      replace HO_3 := Aside0.mk (Kd.R_after (Kd.R_apart_nil (kR HO_3)) hg hat)
      replace HB := Aside0.mk (hb)
      have HO554 := Aside0.mk (ho)
      clear ho hb hg hat
      refine hK.out _ _ ⟨((HB.out.cell (World.block_lt_of_cell? w _ hw555_0)).trans hw555_0), ((HB.out.cell (World.block_lt_of_cell? w _ hw555_1)).trans hw555_1), ((HB.out.cell (World.block_lt_of_cell? w _ hw555_2)).trans hw555_2), ((HB.out.cell (World.block_lt_of_cell? w _ hw555_3)).trans hw555_3)⟩ (fun hHeld => ?_)
      clear hK K
      refine nz (some 19) ?_
      refine on 6 (some 24) HT_ (fun K hK => ?_)
      refine Kd.R_lit_step k58 _ 58 ?hg (N := 24) ?hd (xs := ([(⟨(rd_T58 l0 x4_1).f0, (rd_T58 l0 x4_1).f1, (rd_T58 l0 x4_1).f2, (rd_T58 l0 x4_1).f3⟩ : S58)] : List (S58))) (inner := [.string ((rd_T58 l0 x4_1).f0), .string ((rd_T58 l0 x4_1).f1), .bool ((rd_T58 l0 x4_1).f2), .bool ((rd_T58 l0 x4_1).f3)]) (ok := fun _ => True) (okp := fun _ => True) ?hr ?hp (fun _ hk => hk) trivial (Below.refl _ _) (Nat.le_refl _) (by simp) ?_; (case hd => rfl); (case hg => rfl); (case hr => first | (go_simp; done) | (go_simp; rfl)); (case hp => exact (Reps.c4 (show Kd.M k58 _ _ _ (⟨(rd_T58 l0 x4_1).f0, (rd_T58 l0 x4_1).f1, (rd_T58 l0 x4_1).f2, (rd_T58 l0 x4_1).f3⟩ : S58) [.string ((rd_T58 l0 x4_1).f0), .string ((rd_T58 l0 x4_1).f1), .bool ((rd_T58 l0 x4_1).f2), .bool ((rd_T58 l0 x4_1).f3)] from (k58_mkM _ _ _ (⟨(rd_T58 l0 x4_1).f0, (rd_T58 l0 x4_1).f1, (rd_T58 l0 x4_1).f2, (rd_T58 l0 x4_1).f3⟩ : S58) )) (Reps.none _ _)))
      intro v557 w19 ho20 hb hg_ hnew_
      clear hg_ hnew_
      (first | rw [← Ny556.out] at ho20 | (simp only [Int.reduceToNat] at ho20; rw [← Ny556.out] at ho20))
      have HO558 := Aside0.mk (Kd.R_lower (Kd.R_new' (Kd.R_new' ho20 (Kd.R_lt (kR HO_3))) (Kd.R_lt (kR HO554))) (below_size bE))
      replace HO_3 := Aside0.mk (Kd.R_elder' (kR HO_3) (Kd.R_base ho20) hb)
      replace HO554 := Aside0.mk (Kd.R_elder' (kR HO554) (Kd.R_base ho20) hb)
      replace HB := sB hb
      clear hb ho20
      refine hK.out _ _ ⟨((HB.out.cell (World.block_lt_of_cell? w _ hw555_0)).trans hw555_0), ((HB.out.cell (World.block_lt_of_cell? w _ hw555_1)).trans hw555_1), ((HB.out.cell (World.block_lt_of_cell? w _ hw555_2)).trans hw555_2), ((HB.out.cell (World.block_lt_of_cell? w _ hw555_3)).trans hw555_3)⟩ (fun hHeld => ?_)
      clear hK K
      refine nz (some 24) ?_
      exact norm_ (by simp only [putAll, Act.put, List.setIfInBounds_toArray, List.set_cons_zero, List.set_cons_succ]) (hCont (v553, v557) _ ⟨hHeld, (by (with_reducible repeat (first | apply Kd.R_alloc | apply Kd.R_drewN | apply Kd.R_drew)); exact Kd.R_mono HO554.out (fun _ hk => ⟨hk.2, hk.1⟩)), (by (with_reducible repeat (first | apply Kd.R_alloc | apply Kd.R_drewN | apply Kd.R_drew)); exact Kd.R_mono HO558.out (fun _ hk => ⟨hk.2, hk.1.2⟩)), (by (with_reducible repeat (first | apply Kd.R_alloc | apply Kd.R_drewN | apply Kd.R_drew)); exact Kd.R_mono HO_3.out (fun _ hk => ⟨hk.1.2, hk.2⟩)), bE⟩)
     ·skip
      refine Kd.R_lit_step k58 _ 58 ?hg (N := 24) ?hd (xs := ([(⟨(rd_T58 l0 x4_1).f0, (rd_T58 l0 x4_1).f1, (rd_T58 l0 x4_1).f2, (rd_T58 l0 x4_1).f3⟩ : S58)] : List (S58))) (inner := [.string ((rd_T58 l0 x4_1).f0), .string ((rd_T58 l0 x4_1).f1), .bool ((rd_T58 l0 x4_1).f2), .bool ((rd_T58 l0 x4_1).f3)]) (ok := fun _ => True) (okp := fun _ => True) ?hr ?hp (fun _ hk => hk) trivial (Below.refl _ _) (Nat.le_refl _) (by simp) ?_; (case hd => rfl); (case hg => rfl); (case hr => first | (go_simp; done) | (go_simp; rfl)); (case hp => exact (Reps.c4 (show Kd.M k58 _ _ _ (⟨(rd_T58 l0 x4_1).f0, (rd_T58 l0 x4_1).f1, (rd_T58 l0 x4_1).f2, (rd_T58 l0 x4_1).f3⟩ : S58) [.string ((rd_T58 l0 x4_1).f0), .string ((rd_T58 l0 x4_1).f1), .bool ((rd_T58 l0 x4_1).f2), .bool ((rd_T58 l0 x4_1).f3)] from (k58_mkM _ _ _ (⟨(rd_T58 l0 x4_1).f0, (rd_T58 l0 x4_1).f1, (rd_T58 l0 x4_1).f2, (rd_T58 l0 x4_1).f3⟩ : S58) )) (Reps.none _ _)))
      intro v557 w18 ho19 hb hg_ hnew_
      clear hg_ hnew_
      (first | rw [← Ny556.out] at ho19 | (simp only [Int.reduceToNat] at ho19; rw [← Ny556.out] at ho19))
      have HO558 := Aside0.mk (Kd.R_lower (Kd.R_new' ho19 (Kd.R_lt (kR HO_3))) (below_size bE))
      replace HO_3 := Aside0.mk (Kd.R_elder' (kR HO_3) (Kd.R_base ho19) hb)
      replace HB := sB hb
      clear hb ho19
      refine hK.out _ _ ⟨((HB.out.cell (World.block_lt_of_cell? w _ hw555_0)).trans hw555_0), ((HB.out.cell (World.block_lt_of_cell? w _ hw555_1)).trans hw555_1), ((HB.out.cell (World.block_lt_of_cell? w _ hw555_2)).trans hw555_2), ((HB.out.cell (World.block_lt_of_cell? w _ hw555_3)).trans hw555_3)⟩ (fun hHeld => ?_)
      clear hK K
      refine nz (some 24) ?_
      refine on 1 (some 19) HT_ (fun K hK => ?_)
      refine Kd.R_append_rows_step k58 (w0 := w) w.heap.size (by rfl) (.const (.slice none 0 0)) (.tmp 18) 55 58 (.agg #[(.string ⟨#[]⟩), (.string ⟨#[]⟩), (.bool false), (.bool false)]) 40 rfl Tryd.underlying55 info58 rfl (by decide) (by omega) (.slice none 0 0) ([] : List (S58)) x3_1 _ _ _ (fun k_ => some k_ ≠ (.slice Ao16 x3_1.length co16 : Value).ownBlock ∧ some k_ ≠ (v557 : Value).ownBlock) (fun _ => False) rfl rfl ?aO ?aR (fun _ _ h => h) (fun _ h => h.elim) ?aF ?aB ?aS ?aL ?_
      (case aR => repeat (first | exact (Kd.R_reads' HO_3.out).2.2 | (with_reducible refine Kd.C_alloc ?_ _) | (with_reducible refine Kd.C_drewN ?_ _) | (with_reducible refine Kd.C_drew ?_)))
      (case aB => exact bE)
      (case aF => exact (fun k_ hk => ⟨Kd.fresh' (Kd.R_lt (kR HO_3)) k_ hk, Kd.fresh' (Kd.R_lt (kR HO558)) k_ hk⟩))
      (case aO => exact ((Kd.R_nil _ _ _ _ (fun k_ => some k_ ≠ (.slice Ao16 x3_1.length co16 : Value).ownBlock ∧ some k_ ≠ (v557 : Value).ownBlock))))
      (case aS => exact (below_size bE))
      (case aL => have := LMc5.out; omega)
      intro v553 w20 ho hb hg hat
      rw [← Ny552.out] at ho
      replace HO_3 := Aside0.mk (Kd.R_after (Kd.R_apart_nil (kR HO_3)) hg hat)
      replace HO558 := Aside0.mk (Kd.R_after (Kd.R_apart_nil (kR HO558)) hg hat)
      replace HB := Aside0.mk (hb)
      have HO554 := Aside0.mk (ho)
      clear ho hb hg hat
      refine hK.out _ _ ⟨((HB.out.cell (World.block_lt_of_cell? w _ hw555_0)).trans hw555_0), ((HB.out.cell (World.block_lt_of_cell? w _ hw555_1)).trans hw555_1), ((HB.out.cell (World.block_lt_of_cell? w _ hw555_2)).trans hw555_2), ((HB.out.cell (World.block_lt_of_cell? w _ hw555_3)).trans hw555_3)⟩ (fun hHeld => ?_)
      clear hK K
      refine nz (some 19) ?_
      exact norm_ (by simp only [putAll, Act.put, List.setIfInBounds_toArray, List.set_cons_zero, List.set_cons_succ]) (hCont (v553, v557) _ ⟨hHeld, (by (with_reducible repeat (first | apply Kd.R_alloc | apply Kd.R_drewN | apply Kd.R_drew)); exact Kd.R_mono HO554.out (fun _ hk => ⟨hk.2, hk.1⟩)), (by (with_reducible repeat (first | apply Kd.R_alloc | apply Kd.R_drewN | apply Kd.R_drew)); exact Kd.R_mono HO558.out (fun _ hk => ⟨hk.2, hk.1.2⟩)), (by (with_reducible repeat (first | apply Kd.R_alloc | apply Kd.R_drewN | apply Kd.R_drew)); exact Kd.R_mono HO_3.out (fun _ hk => ⟨hk.2, hk.1.2⟩)), bE⟩)
    rintro ⟨v553, v557⟩ w21 ⟨hS_, h0_, h1_, h2_, h3_⟩
    have HO554 : Aside0 (Kd.R k58 58 w21 w.heap.size (fun k_ => some k_ ≠ (v557 : Value).ownBlock ∧ some k_ ≠ (.slice Ao16 x3_1.length co16 : Value).ownBlock) v553 y552) := ⟨h0_⟩
    have HO558 : Aside0 (Kd.R k58 58 w21 w.heap.size (fun k_ => some k_ ≠ (v553 : Value).ownBlock ∧ some k_ ≠ (.slice Ao16 x3_1.length co16 : Value).ownBlock) v557 y556) := ⟨h1_⟩
    replace HO_3 : Aside0 (Kd.R k58 58 w21 w.heap.size (fun k_ => some k_ ≠ (v553 : Value).ownBlock ∧ some k_ ≠ (v557 : Value).ownBlock) (.slice Ao16 x3_1.length co16) x3_1) := ⟨h2_⟩
    replace HB : Aside0 (Below w.heap.size w w21) := ⟨h3_⟩
    clear h0_ h1_ h2_ h3_
    have hHeld : w21.cell? (ad555.add ((x4_1).toNat * 4)) = some (.string ((rd_T58 l0 x4_1).f0)) ∧ w21.cell? ⟨(ad555.add ((x4_1).toNat * 4)).block, (ad555.add ((x4_1).toNat * 4)).off + 1, none⟩ = some (.string ((rd_T58 l0 x4_1).f1)) ∧ w21.cell? ⟨(ad555.add ((x4_1).toNat * 4)).block, (ad555.add ((x4_1).toNat * 4)).off + 2, none⟩ = some (.bool ((rd_T58 l0 x4_1).f2)) ∧ w21.cell? ⟨(ad555.add ((x4_1).toNat * 4)).block, (ad555.add ((x4_1).toNat * 4)).off + 3, none⟩ = some (.bool ((rd_T58 l0 x4_1).f3)) := hS_
    obtain ⟨Ao23, co23, eo23⟩ := Kd.R_slice HO558.out
    (first | subst eo23 | (injection eo23 with f1_ f2_ f3_; have f4_ := f1_.symm; have f5_ := f3_.symm; clear f1_ f2_ f3_; subst f4_; subst f5_))
    refine norm_ (a' := ?_) ?_ ?_
    rotate_left
    ·simp only [putAll, Act.put, List.setIfInBounds_toArray, List.set_cons_zero, List.set_cons_succ]
     rfl
    refine on 7 (some 25) HT_ (fun K hK => ?_)
    refine Kd.R_append_rows_step k58 (w0 := w) w.heap.size (by rfl) (.tmp 19) (.tmp 24) 55 58 (.agg #[(.string ⟨#[]⟩), (.string ⟨#[]⟩), (.bool false), (.bool false)]) 40 rfl Tryd.underlying55 info58 rfl (by decide) (by omega) v553 y552 y556 _ _ _ (fun k_ => some k_ ≠ (.slice Ao16 x3_1.length co16 : Value).ownBlock ∧ some k_ ≠ (.slice Ao23 y556.length co23 : Value).ownBlock) (fun _ => False) rfl rfl ?aO ?aR (fun _ _ h => h) (fun _ h => h.elim) ?aF ?aB ?aS ?aL ?_
    (case aR => repeat (first | exact (Kd.R_reads' HO558.out).2.2 | (with_reducible refine Kd.C_alloc ?_ _) | (with_reducible refine Kd.C_drewN ?_ _) | (with_reducible refine Kd.C_drew ?_)))
    (case aB => exact bE)
    (case aF => exact (fun k_ hk => ⟨Kd.fresh' (Kd.R_lt (kR HO_3)) k_ hk, Kd.fresh' (Kd.R_lt (kR HO558)) k_ hk⟩))
    (case aO => exact (by (with_reducible repeat (first | apply Kd.R_alloc | apply Kd.R_drewN | apply Kd.R_drew)); exact Kd.R_mono HO554.out (fun _ hk => ⟨hk.2, hk.1⟩)))
    (case aS => exact (below_size bE))
    (case aL => have := LMc8.out; omega)
    intro v560 w22 ho hb hg hat
    rw [← Ny559.out] at ho
    replace HO_3 := Aside0.mk (Kd.R_after (ok := (fun k_ => some k_ ≠ (.slice Ao23 y556.length co23 : Value).ownBlock)) (by (with_reducible repeat (first | apply Kd.R_alloc | apply Kd.R_drewN | apply Kd.R_drew)); exact Kd.R_mono HO_3.out (fun _ hk => ⟨hk.2, hk.1⟩)) hg hat)
    replace HO558 := Aside0.mk (Kd.R_after (ok := (fun k_ => some k_ ≠ (.slice Ao16 x3_1.length co16 : Value).ownBlock)) (by (with_reducible repeat (first | apply Kd.R_alloc | apply Kd.R_drewN | apply Kd.R_drew)); exact Kd.R_mono HO558.out (fun _ hk => ⟨hk.2, hk.1⟩)) hg hat)
    replace HB := Aside0.mk (hb)
    have HO561 := Aside0.mk (ho)
    clear HO554
    clear ho hb hg hat
    refine hK.out _ _ ⟨((HB.out.cell (World.block_lt_of_cell? w _ hw555_0)).trans hw555_0), ((HB.out.cell (World.block_lt_of_cell? w _ hw555_1)).trans hw555_1), ((HB.out.cell (World.block_lt_of_cell? w _ hw555_2)).trans hw555_2), ((HB.out.cell (World.block_lt_of_cell? w _ hw555_3)).trans hw555_3)⟩ (fun hHeld => ?_)
    clear hK K
    refine nz (some 25) ?_
    refine pz 8 (some 5) HT_ ?_
    refine done_ (done_of HT_.out (by kernel_rfl)) ?_
    obtain ⟨Ao24, co24, eo24⟩ := Kd.R_slice HO561.out
    subst eo24
    try go_wp2_with (first | (refine gl (some 28) Tryd.func102 #[.slice Ao24 y559.length co24] ?_; (with_reducible refine (newelref05_Text.calls kj1 _ _ y559 t562 _ ?side1 ?side2 (gS HG) A9.out).mono ?_); (case side1 => repeat (first | exact (Kd.R_reads' HO561.out).2.2 | (with_reducible refine Kd.C_alloc ?_ _) | (with_reducible refine Kd.C_drewN ?_ _) | (with_reducible refine Kd.C_drew ?_))); (case side2 => exact (Kd.R_reads' HO561.out).2.1); rintro e w25 ⟨rfl, hb⟩; refine ⟨_, rfl, ?_⟩; replace HO_3 := rB HO_3 hb; replace HO558 := rB HO558 hb; replace HO561 := rB HO561 hb; replace HB := sB hb; (try clear hb)) | (refine gl (some 29) Tryd.func52 #[.string t562] ?_; (with_reducible refine (newelref05_Parse.calls kj1 t562 t563 t564 _ (gS HG) A10.out).mono ?_); rintro e w26 ⟨v565, rfl, ho0, hb⟩; refine ⟨_, rfl, ?_⟩; have HO566 := Aside0.mk (Kd.R_lower (Kd.R_new' (Kd.R_new' (Kd.R_new' ho0 (Kd.R_lt (kR HO_3))) (Kd.R_lt (kR HO558))) (Kd.R_lt (kR HO561))) (below_size bE)); replace HO_3 := Aside0.mk (Kd.R_elder' (kR HO_3) (Kd.R_base ho0) hb); replace HO558 := Aside0.mk (Kd.R_elder' (kR HO558) (Kd.R_base ho0) hb); replace HO561 := Aside0.mk (Kd.R_elder' (kR HO561) (Kd.R_base ho0) hb); replace HB := sB hb; (try clear hb); (try clear ho0); have p567 : 0 ≤ (x4_1 : Int) := dA; have q567 : x4_1 < (l0.length : Int) := dA; obtain ⟨ad567, e567, hx567_0, hx567_1, hx567_2, hx567_3⟩ := at_T58 HR0.out x4_1 p567 q567; obtain rfl : ad555 = ad567 := (by injection e567); replace hx567_0 := (HB.out.cell (World.block_lt_of_cell? w _ hx567_0)).trans hx567_0; replace hx567_1 := (HB.out.cell (World.block_lt_of_cell? w _ hx567_1)).trans hx567_1; replace hx567_2 := (HB.out.cell (World.block_lt_of_cell? w _ hx567_2)).trans hx567_2; replace hx567_3 := (HB.out.cell (World.block_lt_of_cell? w _ hx567_3)).trans hx567_3; replace p567 := eq_true p567; replace q567 := eq_true q567) | (refine gl (some 36) Tryd.func89 #[.agg #[.string ((rd_T58 l0 x4_1).f0), .string ((rd_T58 l0 x4_1).f1), .bool ((rd_T58 l0 x4_1).f2), .bool ((rd_T58 l0 x4_1).f3)]] ?_; (with_reducible refine (newelref05_May.calls kj1 ((rd_T58 l0 x4_1).f0) ((rd_T58 l0 x4_1).f1) ((rd_T58 l0 x4_1).f2) ((rd_T58 l0 x4_1).f3) true _ (gS HG) A11.out).mono ?_); rintro e w27 ⟨rfl, hb⟩; refine ⟨_, rfl, ?_⟩; replace HO_3 := rB HO_3 hb; replace HO558 := rB HO558 hb; replace HO561 := rB HO561 hb; replace HO566 := rB HO566 hb; replace HB := sB hb; (try clear hb); obtain ⟨Ao28, co28, eo28⟩ := Kd.R_slice HO566.out; subst eo28) | (go_at_call 60; (with_reducible refine (api_Span_60.calls kj1 _ _ t563 _ _ y559 true _ ?side1 ?side2 ?side3 ?side4 (gS HG) A14.out).mono ?_); (case side1 => repeat (first | exact (Kd.R_reads' HO566.out).2.2 | (with_reducible refine Kd.C_alloc ?_ _) | (with_reducible refine Kd.C_drewN ?_ _) | (with_reducible refine Kd.C_drew ?_))); (case side2 => exact (Kd.R_reads' HO566.out).2.1); (case side3 => repeat (first | exact (Kd.R_reads' HO561.out).2.2 | (with_reducible refine Kd.C_alloc ?_ _) | (with_reducible refine Kd.C_drewN ?_ _) | (with_reducible refine Kd.C_drew ?_))); (case side4 => exact (Kd.R_reads' HO561.out).2.1); rintro e w29 ⟨rfl, hb⟩; replace HO_3 := rB HO_3 hb; replace HO558 := rB HO558 hb; replace HO561 := rB HO561 hb; replace HO566 := rB HO566 hb; replace HB := sB hb; (try clear hb)))
    go_roundg kj1
    case measure => have := HK1.out; have := HJ1.out; omega
    case rel => exact ⟨(y559), (wrap64 (x4_1 + 1)), cA, H', ⟨by have := HK1.out; have := HJ1.out; omega⟩, ⟨by (with_reducible repeat (first | apply Kd.R_alloc | apply Kd.R_drewN | apply Kd.R_drew)); exact Kd.R_mono HO561.out (fun _ hk => trivial)⟩, ⟨bE⟩⟩
   replace c15 := Bool.eq_false_iff.mpr c15
   subst c15
   have H1 : (newellaw07_right.l0 kj1 l0 x3_1 (wrap64 (x4_1 + 1))) = some r := by rw [if_neg (show ¬ (false = true) by decide)] at H; exact H
   clear H
   have H := H1
   clear H1
   have H' := Aside0.mk H
   clear H
   obtain ⟨Ao30, co30, eo30⟩ := Kd.R_slice HO_3.out
   subst eo30
   try go_wp2
   replace HO_3 := Aside0.mk (Kd.R_drew HO_3.out)
   replace HB := Aside0.mk (below_drew1 HB.out)
   have p555 : 0 ≤ (x4_1 : Int) := dA
   have q555 : x4_1 < (l0.length : Int) := dA
   obtain ⟨ad555, e555, hx555_0, hx555_1, hx555_2, hx555_3⟩ := at_T58 HR0.out x4_1 p555 q555
   have hw555_3 := hx555_3
   have hw555_2 := hx555_2
   have hw555_1 := hx555_1
   have hw555_0 := hx555_0
   cases e555
   replace hx555_0 := (HB.out.cell (World.block_lt_of_cell? w _ hx555_0)).trans hx555_0
   replace hx555_1 := (HB.out.cell (World.block_lt_of_cell? w _ hx555_1)).trans hx555_1
   replace hx555_2 := (HB.out.cell (World.block_lt_of_cell? w _ hx555_2)).trans hx555_2
   replace hx555_3 := (HB.out.cell (World.block_lt_of_cell? w _ hx555_3)).trans hx555_3
   replace p555 := eq_true p555
   replace q555 := eq_true q555
   refine start_ (n := 9) (S := fun w' => w'.cell? (ad555.add ((x4_1).toNat * 4)) = some (.string ((rd_T58 l0 x4_1).f0)) ∧ w'.cell? ⟨(ad555.add ((x4_1).toNat * 4)).block, (ad555.add ((x4_1).toNat * 4)).off + 1, none⟩ = some (.string ((rd_T58 l0 x4_1).f1)) ∧ w'.cell? ⟨(ad555.add ((x4_1).toNat * 4)).block, (ad555.add ((x4_1).toNat * 4)).off + 2, none⟩ = some (.bool ((rd_T58 l0 x4_1).f2)) ∧ w'.cell? ⟨(ad555.add ((x4_1).toNat * 4)).block, (ad555.add ((x4_1).toNat * 4)).off + 3, none⟩ = some (.bool ((rd_T58 l0 x4_1).f3))) (ds := []) #[false, false, false, false, false, false, false, false, false] (by kernel_rfl) rfl rfl ⟨((HB.out.cell (World.block_lt_of_cell? w _ hw555_0)).trans hw555_0), ((HB.out.cell (World.block_lt_of_cell? w _ hw555_1)).trans hw555_1), ((HB.out.cell (World.block_lt_of_cell? w _ hw555_2)).trans hw555_2), ((HB.out.cell (World.block_lt_of_cell? w _ hw555_3)).trans hw555_3)⟩ (fun hHeld => ?_); refine with_tabW newellaw07_right.tab5 newellaw07_right.bits5 (fun HT_ HW_ => ?_)
   generalize wc.drew = w31 at HO_3 HB hx555_0 hx555_1 hx555_2 hx555_3 hHeld ⊢
   refine pz 0 (some 18) HT_ ?_
   refine pz 2 (some 20) HT_ ?_
   refine pz 3 (some 21) HT_ ?_
   refine pz 4 (some 22) HT_ ?_
   refine tm 5 (some 23) HT_ HW_ hHeld ?_
   refine join_ (σ := Value × Value) 2 #[true, true, true, true, true, true, true, false, false] (fun s_ => [(19, s_.1), (24, s_.2)]) (fun s_ w' => (w'.cell? (ad555.add ((x4_1).toNat * 4)) = some (.string ((rd_T58 l0 x4_1).f0)) ∧ w'.cell? ⟨(ad555.add ((x4_1).toNat * 4)).block, (ad555.add ((x4_1).toNat * 4)).off + 1, none⟩ = some (.string ((rd_T58 l0 x4_1).f1)) ∧ w'.cell? ⟨(ad555.add ((x4_1).toNat * 4)).block, (ad555.add ((x4_1).toNat * 4)).off + 2, none⟩ = some (.bool ((rd_T58 l0 x4_1).f2)) ∧ w'.cell? ⟨(ad555.add ((x4_1).toNat * 4)).block, (ad555.add ((x4_1).toNat * 4)).off + 3, none⟩ = some (.bool ((rd_T58 l0 x4_1).f3))) ∧ (Kd.R k58 58 w' w.heap.size (fun k_ => some k_ ≠ (s_.2 : Value).ownBlock ∧ some k_ ≠ (.slice Ao30 x3_1.length co30 : Value).ownBlock) s_.1 y552) ∧ (Kd.R k58 58 w' w.heap.size (fun k_ => some k_ ≠ (s_.1 : Value).ownBlock ∧ some k_ ≠ (.slice Ao30 x3_1.length co30 : Value).ownBlock) s_.2 y556) ∧ (Kd.R k58 58 w' w.heap.size (fun k_ => some k_ ≠ (s_.1 : Value).ownBlock ∧ some k_ ≠ (s_.2 : Value).ownBlock) (.slice Ao30 x3_1.length co30) x3_1) ∧ (Below w.heap.size w w')) ?_ ?_
   rotate_left
   ·intro hCont
    refine two_ (i := 1) (j := 6) (Ni := some 19) (Nj := some 24) #[true, true, true, true, true, true, false, false, false] #[true, false, true, true, true, true, true, false, false] rfl rfl rfl rfl (two_of HT_.out (by kernel_rfl)) (by decide) (by decide) (fun K hK => ?_) (fun K hK => ?_)
    ·skip
     refine Kd.R_append_rows_step k58 (w0 := w) w.heap.size (by rfl) (.const (.slice none 0 0)) (.tmp 18) 55 58 (.agg #[(.string ⟨#[]⟩), (.string ⟨#[]⟩), (.bool false), (.bool false)]) 40 rfl Tryd.underlying55 info58 rfl (by decide) (by omega) (.slice none 0 0) ([] : List (S58)) x3_1 _ _ _ (fun k_ => some k_ ≠ (.slice Ao30 x3_1.length co30 : Value).ownBlock) (fun _ => False) rfl rfl ?aO ?aR (fun _ _ h => h) (fun _ h => h.elim) ?aF ?aB ?aS ?aL ?_
     (case aR => repeat (first | exact (Kd.R_reads' HO_3.out).2.2 | (with_reducible refine Kd.C_alloc ?_ _) | (with_reducible refine Kd.C_drewN ?_ _) | (with_reducible refine Kd.C_drew ?_)))
     (case aB => exact bE)
     (case aF => exact (fun k_ hk => Kd.fresh' (Kd.R_lt (kR HO_3)) k_ hk))
     (case aO => exact ((Kd.R_nil _ _ _ _ (fun k_ => some k_ ≠ (.slice Ao30 x3_1.length co30 : Value).ownBlock))))
     (case aS => exact (below_size bE))
     (case aL => have := LMc5.out; omega)
     intro v553 w32 ho hb hg hat
     rw [← Ny552.out] at ho
     replace HO_3 := Aside0.mk (Kd.R_after (Kd.R_apart_nil (kR HO_3)) hg hat)
     replace HB := Aside0.mk (hb)
     have HO554 := Aside0.mk (ho)
     clear ho hb hg hat
     refine hK.out _ _ ⟨((HB.out.cell (World.block_lt_of_cell? w _ hw555_0)).trans hw555_0), ((HB.out.cell (World.block_lt_of_cell? w _ hw555_1)).trans hw555_1), ((HB.out.cell (World.block_lt_of_cell? w _ hw555_2)).trans hw555_2), ((HB.out.cell (World.block_lt_of_cell? w _ hw555_3)).trans hw555_3)⟩ (fun hHeld => ?_)
     clear hK K
     refine nz (some 19) ?_
     refine on 6 (some 24) HT_ (fun K hK => ?_)
     refine Kd.R_lit_step k58 _ 58 ?hg (N := 24) ?hd (xs := ([(⟨(rd_T58 l0 x4_1).f0, (rd_T58 l0 x4_1).f1, (rd_T58 l0 x4_1).f2, (rd_T58 l0 x4_1).f3⟩ : S58)] : List (S58))) (inner := [.string ((rd_T58 l0 x4_1).f0), .string ((rd_T58 l0 x4_1).f1), .bool ((rd_T58 l0 x4_1).f2), .bool ((rd_T58 l0 x4_1).f3)]) (ok := fun _ => True) (okp := fun _ => True) ?hr ?hp (fun _ hk => hk) trivial (Below.refl _ _) (Nat.le_refl _) (by simp) ?_; (case hd => rfl); (case hg => rfl); (case hr => first | (go_simp; done) | (go_simp; rfl)); (case hp => exact (Reps.c4 (show Kd.M k58 _ _ _ (⟨(rd_T58 l0 x4_1).f0, (rd_T58 l0 x4_1).f1, (rd_T58 l0 x4_1).f2, (rd_T58 l0 x4_1).f3⟩ : S58) [.string ((rd_T58 l0 x4_1).f0), .string ((rd_T58 l0 x4_1).f1), .bool ((rd_T58 l0 x4_1).f2), .bool ((rd_T58 l0 x4_1).f3)] from (k58_mkM _ _ _ (⟨(rd_T58 l0 x4_1).f0, (rd_T58 l0 x4_1).f1, (rd_T58 l0 x4_1).f2, (rd_T58 l0 x4_1).f3⟩ : S58) )) (Reps.none _ _)))
     intro v557 w33 ho34 hb hg_ hnew_
     clear hg_ hnew_
     (first | rw [← Ny556.out] at ho34 | (simp only [Int.reduceToNat] at ho34; rw [← Ny556.out] at ho34))
     have HO558 := Aside0.mk (Kd.R_lower (Kd.R_new' (Kd.R_new' ho34 (Kd.R_lt (kR HO_3))) (Kd.R_lt (kR HO554))) (below_size bE))
     replace HO_3 := Aside0.mk (Kd.R_elder' (kR HO_3) (Kd.R_base ho34) hb)
     replace HO554 := Aside0.mk (Kd.R_elder' (kR HO554) (Kd.R_base ho34) hb)
     replace HB := sB hb
     clear hb ho34
     refine hK.out _ _ ⟨((HB.out.cell (World.block_lt_of_cell? w _ hw555_0)).trans hw555_0), ((HB.out.cell (World.block_lt_of_cell? w _ hw555_1)).trans hw555_1), ((HB.out.cell (World.block_lt_of_cell? w _ hw555_2)).trans hw555_2), ((HB.out.cell (World.block_lt_of_cell? w _ hw555_3)).trans hw555_3)⟩ (fun hHeld => ?_)
     clear hK K
     refine nz (some 24) ?_
     exact norm_ (by simp only [putAll, Act.put, List.setIfInBounds_toArray, List.set_cons_zero, List.set_cons_succ]) (hCont (v553, v557) _ ⟨hHeld, (by (with_reducible repeat (first | apply Kd.R_alloc | apply Kd.R_drewN | apply Kd.R_drew)); exact Kd.R_mono HO554.out (fun _ hk => ⟨hk.2, hk.1⟩)), (by (with_reducible repeat (first | apply Kd.R_alloc | apply Kd.R_drewN | apply Kd.R_drew)); exact Kd.R_mono HO558.out (fun _ hk => ⟨hk.2, hk.1.2⟩)), (by (with_reducible repeat (first | apply Kd.R_alloc | apply Kd.R_drewN | apply Kd.R_drew)); exact Kd.R_mono HO_3.out (fun _ hk => ⟨hk.1.2, hk.2⟩)), bE⟩)
    ·skip
     refine Kd.R_lit_step k58 _ 58 ?hg (N := 24) ?hd (xs := ([(⟨(rd_T58 l0 x4_1).f0, (rd_T58 l0 x4_1).f1, (rd_T58 l0 x4_1).f2, (rd_T58 l0 x4_1).f3⟩ : S58)] : List (S58))) (inner := [.string ((rd_T58 l0 x4_1).f0), .string ((rd_T58 l0 x4_1).f1), .bool ((rd_T58 l0 x4_1).f2), .bool ((rd_T58 l0 x4_1).f3)]) (ok := fun _ => True) (okp := fun _ => True) ?hr ?hp (fun _ hk => hk) trivial (Below.refl _ _) (Nat.le_refl _) (by simp) ?_; (case hd => rfl); (case hg => rfl); (case hr => first | (go_simp; done) | (go_simp; rfl)); (case hp => exact (Reps.c4 (show Kd.M k58 _ _ _ (⟨(rd_T58 l0 x4_1).f0, (rd_T58 l0 x4_1).f1, (rd_T58 l0 x4_1).f2, (rd_T58 l0 x4_1).f3⟩ : S58) [.string ((rd_T58 l0 x4_1).f0), .string ((rd_T58 l0 x4_1).f1), .bool ((rd_T58 l0 x4_1).f2), .bool ((rd_T58 l0 x4_1).f3)] from (k58_mkM _ _ _ (⟨(rd_T58 l0 x4_1).f0, (rd_T58 l0 x4_1).f1, (rd_T58 l0 x4_1).f2, (rd_T58 l0 x4_1).f3⟩ : S58) )) (Reps.none _ _)))
     intro v557 w32 ho33 hb hg_ hnew_
     clear hg_ hnew_
     (first | rw [← Ny556.out] at ho33 | (simp only [Int.reduceToNat] at ho33; rw [← Ny556.out] at ho33))
     have HO558 := Aside0.mk (Kd.R_lower (Kd.R_new' ho33 (Kd.R_lt (kR HO_3))) (below_size bE))
     replace HO_3 := Aside0.mk (Kd.R_elder' (kR HO_3) (Kd.R_base ho33) hb)
     replace HB := sB hb
     clear hb ho33
     refine hK.out _ _ ⟨((HB.out.cell (World.block_lt_of_cell? w _ hw555_0)).trans hw555_0), ((HB.out.cell (World.block_lt_of_cell? w _ hw555_1)).trans hw555_1), ((HB.out.cell (World.block_lt_of_cell? w _ hw555_2)).trans hw555_2), ((HB.out.cell (World.block_lt_of_cell? w _ hw555_3)).trans hw555_3)⟩ (fun hHeld => ?_)
     clear hK K
     refine nz (some 24) ?_
     refine on 1 (some 19) HT_ (fun K hK => ?_)
     refine Kd.R_append_rows_step k58 (w0 := w) w.heap.size (by rfl) (.const (.slice none 0 0)) (.tmp 18) 55 58 (.agg #[(.string ⟨#[]⟩), (.string ⟨#[]⟩), (.bool false), (.bool false)]) 40 rfl Tryd.underlying55 info58 rfl (by decide) (by omega) (.slice none 0 0) ([] : List (S58)) x3_1 _ _ _ (fun k_ => some k_ ≠ (.slice Ao30 x3_1.length co30 : Value).ownBlock ∧ some k_ ≠ (v557 : Value).ownBlock) (fun _ => False) rfl rfl ?aO ?aR (fun _ _ h => h) (fun _ h => h.elim) ?aF ?aB ?aS ?aL ?_
     (case aR => repeat (first | exact (Kd.R_reads' HO_3.out).2.2 | (with_reducible refine Kd.C_alloc ?_ _) | (with_reducible refine Kd.C_drewN ?_ _) | (with_reducible refine Kd.C_drew ?_)))
     (case aB => exact bE)
     (case aF => exact (fun k_ hk => ⟨Kd.fresh' (Kd.R_lt (kR HO_3)) k_ hk, Kd.fresh' (Kd.R_lt (kR HO558)) k_ hk⟩))
     (case aO => exact ((Kd.R_nil _ _ _ _ (fun k_ => some k_ ≠ (.slice Ao30 x3_1.length co30 : Value).ownBlock ∧ some k_ ≠ (v557 : Value).ownBlock))))
     (case aS => exact (below_size bE))
     (case aL => have := LMc5.out; omega)
     intro v553 w34 ho hb hg hat
     rw [← Ny552.out] at ho
     replace HO_3 := Aside0.mk (Kd.R_after (Kd.R_apart_nil (kR HO_3)) hg hat)
     replace HO558 := Aside0.mk (Kd.R_after (Kd.R_apart_nil (kR HO558)) hg hat)
     replace HB := Aside0.mk (hb)
     have HO554 := Aside0.mk (ho)
     clear ho hb hg hat
     refine hK.out _ _ ⟨((HB.out.cell (World.block_lt_of_cell? w _ hw555_0)).trans hw555_0), ((HB.out.cell (World.block_lt_of_cell? w _ hw555_1)).trans hw555_1), ((HB.out.cell (World.block_lt_of_cell? w _ hw555_2)).trans hw555_2), ((HB.out.cell (World.block_lt_of_cell? w _ hw555_3)).trans hw555_3)⟩ (fun hHeld => ?_)
     clear hK K
     refine nz (some 19) ?_
     exact norm_ (by simp only [putAll, Act.put, List.setIfInBounds_toArray, List.set_cons_zero, List.set_cons_succ]) (hCont (v553, v557) _ ⟨hHeld, (by (with_reducible repeat (first | apply Kd.R_alloc | apply Kd.R_drewN | apply Kd.R_drew)); exact Kd.R_mono HO554.out (fun _ hk => ⟨hk.2, hk.1⟩)), (by (with_reducible repeat (first | apply Kd.R_alloc | apply Kd.R_drewN | apply Kd.R_drew)); exact Kd.R_mono HO558.out (fun _ hk => ⟨hk.2, hk.1.2⟩)), (by (with_reducible repeat (first | apply Kd.R_alloc | apply Kd.R_drewN | apply Kd.R_drew)); exact Kd.R_mono HO_3.out (fun _ hk => ⟨hk.2, hk.1.2⟩)), bE⟩)
   rintro ⟨v553, v557⟩ w35 ⟨hS_, h0_, h1_, h2_, h3_⟩
   have HO554 : Aside0 (Kd.R k58 58 w35 w.heap.size (fun k_ => some k_ ≠ (v557 : Value).ownBlock ∧ some k_ ≠ (.slice Ao30 x3_1.length co30 : Value).ownBlock) v553 y552) := ⟨h0_⟩
   have HO558 : Aside0 (Kd.R k58 58 w35 w.heap.size (fun k_ => some k_ ≠ (v553 : Value).ownBlock ∧ some k_ ≠ (.slice Ao30 x3_1.length co30 : Value).ownBlock) v557 y556) := ⟨h1_⟩
   replace HO_3 : Aside0 (Kd.R k58 58 w35 w.heap.size (fun k_ => some k_ ≠ (v553 : Value).ownBlock ∧ some k_ ≠ (v557 : Value).ownBlock) (.slice Ao30 x3_1.length co30) x3_1) := ⟨h2_⟩
   replace HB : Aside0 (Below w.heap.size w w35) := ⟨h3_⟩
   clear h0_ h1_ h2_ h3_
   have hHeld : w35.cell? (ad555.add ((x4_1).toNat * 4)) = some (.string ((rd_T58 l0 x4_1).f0)) ∧ w35.cell? ⟨(ad555.add ((x4_1).toNat * 4)).block, (ad555.add ((x4_1).toNat * 4)).off + 1, none⟩ = some (.string ((rd_T58 l0 x4_1).f1)) ∧ w35.cell? ⟨(ad555.add ((x4_1).toNat * 4)).block, (ad555.add ((x4_1).toNat * 4)).off + 2, none⟩ = some (.bool ((rd_T58 l0 x4_1).f2)) ∧ w35.cell? ⟨(ad555.add ((x4_1).toNat * 4)).block, (ad555.add ((x4_1).toNat * 4)).off + 3, none⟩ = some (.bool ((rd_T58 l0 x4_1).f3)) := hS_
   obtain ⟨Ao37, co37, eo37⟩ := Kd.R_slice HO558.out
   (first | subst eo37 | (injection eo37 with f1_ f2_ f3_; have f4_ := f1_.symm; have f5_ := f3_.symm; clear f1_ f2_ f3_; subst f4_; subst f5_))
   refine norm_ (a' := ?_) ?_ ?_
   rotate_left
   ·simp only [putAll, Act.put, List.setIfInBounds_toArray, List.set_cons_zero, List.set_cons_succ]
    rfl
   refine on 7 (some 25) HT_ (fun K hK => ?_)
   refine Kd.R_append_rows_step k58 (w0 := w) w.heap.size (by rfl) (.tmp 19) (.tmp 24) 55 58 (.agg #[(.string ⟨#[]⟩), (.string ⟨#[]⟩), (.bool false), (.bool false)]) 40 rfl Tryd.underlying55 info58 rfl (by decide) (by omega) v553 y552 y556 _ _ _ (fun k_ => some k_ ≠ (.slice Ao30 x3_1.length co30 : Value).ownBlock ∧ some k_ ≠ (.slice Ao37 y556.length co37 : Value).ownBlock) (fun _ => False) rfl rfl ?aO ?aR (fun _ _ h => h) (fun _ h => h.elim) ?aF ?aB ?aS ?aL ?_
   (case aR => repeat (first | exact (Kd.R_reads' HO558.out).2.2 | (with_reducible refine Kd.C_alloc ?_ _) | (with_reducible refine Kd.C_drewN ?_ _) | (with_reducible refine Kd.C_drew ?_)))
   (case aB => exact bE)
   (case aF => exact (fun k_ hk => ⟨Kd.fresh' (Kd.R_lt (kR HO_3)) k_ hk, Kd.fresh' (Kd.R_lt (kR HO558)) k_ hk⟩))
   (case aO => exact (by (with_reducible repeat (first | apply Kd.R_alloc | apply Kd.R_drewN | apply Kd.R_drew)); exact Kd.R_mono HO554.out (fun _ hk => ⟨hk.2, hk.1⟩)))
   (case aS => exact (below_size bE))
   (case aL => have := LMc8.out; omega)
   intro v560 w36 ho hb hg hat
   rw [← Ny559.out] at ho
   replace HO_3 := Aside0.mk (Kd.R_after (ok := (fun k_ => some k_ ≠ (.slice Ao37 y556.length co37 : Value).ownBlock)) (by (with_reducible repeat (first | apply Kd.R_alloc | apply Kd.R_drewN | apply Kd.R_drew)); exact Kd.R_mono HO_3.out (fun _ hk => ⟨hk.2, hk.1⟩)) hg hat)
   replace HO558 := Aside0.mk (Kd.R_after (ok := (fun k_ => some k_ ≠ (.slice Ao30 x3_1.length co30 : Value).ownBlock)) (by (with_reducible repeat (first | apply Kd.R_alloc | apply Kd.R_drewN | apply Kd.R_drew)); exact Kd.R_mono HO558.out (fun _ hk => ⟨hk.2, hk.1⟩)) hg hat)
   replace HB := Aside0.mk (hb)
   have HO561 := Aside0.mk (ho)
   clear HO554
   clear ho hb hg hat
   refine hK.out _ _ ⟨((HB.out.cell (World.block_lt_of_cell? w _ hw555_0)).trans hw555_0), ((HB.out.cell (World.block_lt_of_cell? w _ hw555_1)).trans hw555_1), ((HB.out.cell (World.block_lt_of_cell? w _ hw555_2)).trans hw555_2), ((HB.out.cell (World.block_lt_of_cell? w _ hw555_3)).trans hw555_3)⟩ (fun hHeld => ?_)
   clear hK K
   refine nz (some 25) ?_
   refine pz 8 (some 5) HT_ ?_
   refine done_ (done_of HT_.out (by kernel_rfl)) ?_
   obtain ⟨Ao38, co38, eo38⟩ := Kd.R_slice HO561.out
   subst eo38
   try go_wp2_with (first | (refine gl (some 28) Tryd.func102 #[.slice Ao38 y559.length co38] ?_; (with_reducible refine (newelref05_Text.calls kj1 _ _ y559 t562 _ ?side1 ?side2 (gS HG) A9.out).mono ?_); (case side1 => repeat (first | exact (Kd.R_reads' HO561.out).2.2 | (with_reducible refine Kd.C_alloc ?_ _) | (with_reducible refine Kd.C_drewN ?_ _) | (with_reducible refine Kd.C_drew ?_))); (case side2 => exact (Kd.R_reads' HO561.out).2.1); rintro e w39 ⟨rfl, hb⟩; refine ⟨_, rfl, ?_⟩; replace HO_3 := rB HO_3 hb; replace HO558 := rB HO558 hb; replace HO561 := rB HO561 hb; replace HB := sB hb; (try clear hb)) | (refine gl (some 29) Tryd.func52 #[.string t562] ?_; (with_reducible refine (newelref05_Parse.calls kj1 t562 t563 t564 _ (gS HG) A10.out).mono ?_); rintro e w40 ⟨v565, rfl, ho0, hb⟩; refine ⟨_, rfl, ?_⟩; have HO566 := Aside0.mk (Kd.R_lower (Kd.R_new' (Kd.R_new' (Kd.R_new' ho0 (Kd.R_lt (kR HO_3))) (Kd.R_lt (kR HO558))) (Kd.R_lt (kR HO561))) (below_size bE)); replace HO_3 := Aside0.mk (Kd.R_elder' (kR HO_3) (Kd.R_base ho0) hb); replace HO558 := Aside0.mk (Kd.R_elder' (kR HO558) (Kd.R_base ho0) hb); replace HO561 := Aside0.mk (Kd.R_elder' (kR HO561) (Kd.R_base ho0) hb); replace HB := sB hb; (try clear hb); (try clear ho0); have p567 : 0 ≤ (x4_1 : Int) := dA; have q567 : x4_1 < (l0.length : Int) := dA; obtain ⟨ad567, e567, hx567_0, hx567_1, hx567_2, hx567_3⟩ := at_T58 HR0.out x4_1 p567 q567; obtain rfl : ad555 = ad567 := (by injection e567); replace hx567_0 := (HB.out.cell (World.block_lt_of_cell? w _ hx567_0)).trans hx567_0; replace hx567_1 := (HB.out.cell (World.block_lt_of_cell? w _ hx567_1)).trans hx567_1; replace hx567_2 := (HB.out.cell (World.block_lt_of_cell? w _ hx567_2)).trans hx567_2; replace hx567_3 := (HB.out.cell (World.block_lt_of_cell? w _ hx567_3)).trans hx567_3; replace p567 := eq_true p567; replace q567 := eq_true q567) | (refine gl (some 36) Tryd.func89 #[.agg #[.string ((rd_T58 l0 x4_1).f0), .string ((rd_T58 l0 x4_1).f1), .bool ((rd_T58 l0 x4_1).f2), .bool ((rd_T58 l0 x4_1).f3)]] ?_; (with_reducible refine (newelref05_May.calls kj1 ((rd_T58 l0 x4_1).f0) ((rd_T58 l0 x4_1).f1) ((rd_T58 l0 x4_1).f2) ((rd_T58 l0 x4_1).f3) true _ (gS HG) A11.out).mono ?_); rintro e w41 ⟨rfl, hb⟩; refine ⟨_, rfl, ?_⟩; replace HO_3 := rB HO_3 hb; replace HO558 := rB HO558 hb; replace HO561 := rB HO561 hb; replace HO566 := rB HO566 hb; replace HB := sB hb; (try clear hb); obtain ⟨Ao42, co42, eo42⟩ := Kd.R_slice HO566.out; subst eo42) | (go_at_call 60; (with_reducible refine (api_Span_60.calls kj1 _ _ t563 _ _ y559 false _ ?side1 ?side2 ?side3 ?side4 (gS HG) A14.out).mono ?_); (case side1 => repeat (first | exact (Kd.R_reads' HO566.out).2.2 | (with_reducible refine Kd.C_alloc ?_ _) | (with_reducible refine Kd.C_drewN ?_ _) | (with_reducible refine Kd.C_drew ?_))); (case side2 => exact (Kd.R_reads' HO566.out).2.1); (case side3 => repeat (first | exact (Kd.R_reads' HO561.out).2.2 | (with_reducible refine Kd.C_alloc ?_ _) | (with_reducible refine Kd.C_drewN ?_ _) | (with_reducible refine Kd.C_drew ?_))); (case side4 => exact (Kd.R_reads' HO561.out).2.1); rintro e w43 ⟨rfl, hb⟩; replace HO_3 := rB HO_3 hb; replace HO558 := rB HO558 hb; replace HO561 := rB HO561 hb; replace HO566 := rB HO566 hb; replace HB := sB hb; (try clear hb)))
   go_roundg kj1
   case measure => have := HK1.out; have := HJ1.out; omega
   case rel => exact ⟨(x3_1), (wrap64 (x4_1 + 1)), cA, H', ⟨by have := HK1.out; have := HJ1.out; omega⟩, ⟨by (with_reducible repeat (first | apply Kd.R_alloc | apply Kd.R_drewN | apply Kd.R_drew)); exact Kd.R_mono HO_3.out (fun _ hk => trivial)⟩, ⟨bE⟩⟩
def newellaw07_SpanTexts.j0 : Nat → List (S58) → ByteArray → Bool → Option (Bool)
 | 0, _, _, _ => none
 | k + 1, x0, x1, x13 => if x13 = true then ((newellaw07_awake.f k).bind fun t571 => (some t571)) else ((newellaw07_right.f k x0).bind fun t572 => ((newellaw07_awake.f k).bind fun t575 => (if t575 = true then ((span_Holds.f k t572 x1).bind fun t576 => (if x1.size + 2 ≤ 9223372036854775807 then ((span_Holds.f k t572 (x1 ++ (⟨#[46, 48]⟩ : ByteArray))).bind fun t577 => (if (t576 == t577) = true then ((span_Holds.f k t572 x1).bind fun t578 => (if x1.size + 3 ≤ 9223372036854775807 then ((span_Holds.f k t572 (x1 ++ (⟨#[45, 103, 97]⟩ : ByteArray))).bind fun t579 => (if (t578 == t579) = true then ((span_Holds.f k ([] : List (S58)) x1).bind fun t580 => (if t580 = true then (some false) else ((span_Holds.f k (([(⟨(⟨#[]⟩ : ByteArray), (⟨#[]⟩ : ByteArray), false, false⟩ : S58)] : List (S58))) x1).bind fun t584 => (some t584)))) else (some false))) else (none))) else (some false))) else (none))) else (some false))))
def newellaw07_SpanTexts.f (k : Nat) (l0 : List (S58)) (a1 : ByteArray) : Option (Bool) := (newellaw07_few.f k l0).bind fun t570 => (if t570 = true then (newellaw07_SpanTexts.j0 k l0 a1 (decide ((a1.size : Int) > 60))) else (newellaw07_SpanTexts.j0 k l0 a1 true))
theorem newellaw07_SpanTexts.mono_l : ∀ k, (∀ y0 y1 y2, LeO (newellaw07_SpanTexts.j0 k y0 y1 y2) (newellaw07_SpanTexts.j0 (k + 1) y0 y1 y2))
 | 0 => fun _ _ _ r h => by simp [newellaw07_SpanTexts.j0] at h
 | k + 1 => by
  have ih0 := newellaw07_SpanTexts.mono_l k
  ·intro y0 y1 y2
   unfold newellaw07_SpanTexts.j0
   have m0 := @newellaw07_awake.mono
   have m1 := @newellaw07_few.mono
   have m2 := @newellaw07_right.mono
   have m3 := @span_Holds.mono
   exact mo
theorem newellaw07_SpanTexts.calls (k : Nat) (A0 : Option Addr) (c0 : Nat) (l0 : List (S58)) (a1 : ByteArray) (r : Bool) (w : World) (hr0 : Kd.C k58 w A0 l0.length l0) (hc0 : l0.length ≤ c0) (hG : Glob w) (h : newellaw07_SpanTexts.f k l0 a1 = some r) (hr_ : r = true) :
 Calls Tryd.prog 20 #[.slice A0 l0.length c0, .string a1] w fun e w' => e = .returned (.bool r) ∧ Below w.heap.size w w' := by
 have hu58 := Tryd.underlying58
 have HG := Aside0.mk hG
 clear hG
 have HR0 := Aside0.mk hr0
 have HC0 := Aside0.mk hc0
 clear hr0 hc0
 have HB := Aside0.mk (Below.refl w.heap.size w)
 have H : ((newellaw07_few.f k l0).bind fun t570 => (if t570 = true then (newellaw07_SpanTexts.j0 k l0 a1 (decide ((a1.size : Int) > 60))) else (newellaw07_SpanTexts.j0 k l0 a1 true))) = some r := h
 clear h
 have HC3 := Aside0.mk H
 clear H
 go_enter Tryd.func20, Tryd.ntmps20
 go_upto_region 1 with (fail)
 go_cut [13] (fun v13 wc => ∃ (kq : Nat) (x13_2 : Bool), v13 = .bool x13_2 ∧ Aside0 (newellaw07_SpanTexts.j0 kq l0 a1 x13_2 = some r) ∧ Aside0 (kq ≤ k) ∧ Aside0 (Below w.heap.size w wc))
 case first =>
  have H := HC3.out
  clear HC3
  replace H := bi H
  obtain ⟨t570, A40, H⟩ := H
  try dsimp only at H
  have A4 := Aside0.mk A40
  clear A40
  by_cases c5 : t570 = true
  ·subst c5
   have H1 : (newellaw07_SpanTexts.j0 k l0 a1 (decide ((a1.size : Int) > 60))) = some r := by rw [if_pos rfl] at H; exact H
   clear H
   have H := H1
   clear H1
   have H' := Aside0.mk H
   clear H
   go_wp2_with (first | (refine gl (some 7) Tryd.func61 #[.slice A0 l0.length c0] ?_; (with_reducible refine (newellaw07_few.calls k _ _ l0 true _ ?side1 ?side2 (gS HG) A4.out).mono ?_); (case side1 => repeat (first | exact (Kd.C_below HR0.out HB.out) | (with_reducible refine Kd.C_alloc ?_ _) | (with_reducible refine Kd.C_drewN ?_ _) | (with_reducible refine Kd.C_drew ?_))); (case side2 => exact HC0.out); rintro e w' ⟨rfl, ⟨nd, rfl⟩⟩; refine ⟨_, rfl, ?_⟩))
   go_meet
   case rel => exact ⟨_, (decide ((a1.size : Int) > 60)), cA, H', ⟨by first | omega | exact Nat.le_refl _⟩, ⟨bE⟩⟩
  replace c5 := Bool.eq_false_iff.mpr c5
  subst c5
  have H1 : (newellaw07_SpanTexts.j0 k l0 a1 true) = some r := by rw [if_neg (show ¬ (false = true) by decide)] at H; exact H
  clear H
  have H := H1
  clear H1
  have H' := Aside0.mk H
  clear H
  go_wp2_with (first | (refine gl (some 7) Tryd.func61 #[.slice A0 l0.length c0] ?_; (with_reducible refine (newellaw07_few.calls k _ _ l0 false _ ?side1 ?side2 (gS HG) A4.out).mono ?_); (case side1 => repeat (first | exact (Kd.C_below HR0.out HB.out) | (with_reducible refine Kd.C_alloc ?_ _) | (with_reducible refine Kd.C_drewN ?_ _) | (with_reducible refine Kd.C_drew ?_))); (case side2 => exact HC0.out); rintro e w' ⟨rfl, ⟨nd, rfl⟩⟩; refine ⟨_, rfl, ?_⟩))
  go_meet
  case rel => exact ⟨_, (true), cA, H', ⟨by first | omega | exact Nat.le_refl _⟩, ⟨bE⟩⟩
 clear HC3
 try clear c2
 try clear p2
 try clear c5
 obtain ⟨kq, x13_2, rfl, HA, HJ2, HB⟩ := hcut
 cases kq with
 | zero => exact absurd HA.out (by simp [newellaw07_SpanTexts.j0])
 | succ kj2 =>
  have H := HA.out
  clear HA
  simp only [newellaw07_SpanTexts.j0] at H
  by_cases c6 : x13_2 = true
  ·subst c6
   have H1 : ((newellaw07_awake.f kj2).bind fun t571 => (some t571)) = some r := by rw [if_pos rfl] at H; exact H
   clear H
   have H := H1
   clear H1
   replace H := bi H
   obtain ⟨t571, A70, H⟩ := H
   try dsimp only at H
   have A7 := Aside0.mk A70
   clear A70
   obtain rfl := Option.some.inj H
   go_wp2_with (first | (refine gl (some 14) Tryd.func57 #[] ?_; (with_reducible refine (newellaw07_awake.calls kj2  t571 _ (gS HG) A7.out).mono ?_); rintro e w8 ⟨rfl, hb⟩; refine ⟨_, rfl, ?_⟩; replace HB := sB hb; (try clear hb)))
   go_ret
   exact ⟨eA, bE⟩
  replace c6 := Bool.eq_false_iff.mpr c6
  subst c6
  have H1 : ((newellaw07_right.f kj2 l0).bind fun t572 => ((newellaw07_awake.f kj2).bind fun t575 => (if t575 = true then ((span_Holds.f kj2 t572 a1).bind fun t576 => (if a1.size + 2 ≤ 9223372036854775807 then ((span_Holds.f kj2 t572 (a1 ++ (⟨#[46, 48]⟩ : ByteArray))).bind fun t577 => (if (t576 == t577) = true then ((span_Holds.f kj2 t572 a1).bind fun t578 => (if a1.size + 3 ≤ 9223372036854775807 then ((span_Holds.f kj2 t572 (a1 ++ (⟨#[45, 103, 97]⟩ : ByteArray))).bind fun t579 => (if (t578 == t579) = true then ((span_Holds.f kj2 ([] : List (S58)) a1).bind fun t580 => (if t580 = true then (some false) else ((span_Holds.f kj2 (([(⟨(⟨#[]⟩ : ByteArray), (⟨#[]⟩ : ByteArray), false, false⟩ : S58)] : List (S58))) a1).bind fun t584 => (some t584)))) else (some false))) else (none))) else (some false))) else (none))) else (some false)))) = some r := by rw [if_neg (show ¬ (false = true) by decide)] at H; exact H
  clear H
  have H := H1
  clear H1
  replace H := bi H
  obtain ⟨t572, A90, H⟩ := H
  try dsimp only at H
  have A9 := Aside0.mk A90
  clear A90
  replace H := bi H
  obtain ⟨t575, A100, H⟩ := H
  try dsimp only at H
  have A10 := Aside0.mk A100
  clear A100
  by_cases c11 : t575 = true
  rotate_left
  ·replace c11 := Bool.eq_false_iff.mpr c11
   subst c11
   have H1 : (some false) = some r := by rw [if_neg (show ¬ (false = true) by decide)] at H; exact H
   clear H
   have H := H1
   clear H1
   exfalso
   obtain rfl := Option.some.inj H
   exact absurd hr_ (by decide)
  subst c11
  have H1 : ((span_Holds.f kj2 t572 a1).bind fun t576 => (if a1.size + 2 ≤ 9223372036854775807 then ((span_Holds.f kj2 t572 (a1 ++ (⟨#[46, 48]⟩ : ByteArray))).bind fun t577 => (if (t576 == t577) = true then ((span_Holds.f kj2 t572 a1).bind fun t578 => (if a1.size + 3 ≤ 9223372036854775807 then ((span_Holds.f kj2 t572 (a1 ++ (⟨#[45, 103, 97]⟩ : ByteArray))).bind fun t579 => (if (t578 == t579) = true then ((span_Holds.f kj2 ([] : List (S58)) a1).bind fun t580 => (if t580 = true then (some false) else ((span_Holds.f kj2 (([(⟨(⟨#[]⟩ : ByteArray), (⟨#[]⟩ : ByteArray), false, false⟩ : S58)] : List (S58))) a1).bind fun t584 => (some t584)))) else (some false))) else (none))) else (some false))) else (none))) = some r := by rw [if_pos rfl] at H; exact H
  clear H
  have H := H1
  clear H1
  replace H := bi H
  obtain ⟨t576, A120, H⟩ := H
  try dsimp only at H
  have A12 := Aside0.mk A120
  clear A120
  by_cases c13 : a1.size + 2 ≤ 9223372036854775807
  rotate_left
  ·rw [if_neg c13] at H
   exact absurd H (by simp)
  rw [if_pos c13] at H
  have c13b0 := eq_true c13
  have c13b1 := dT c13
  try have c13b2 : (9223372036854775807 < a1.size + 2) = False := eq_false (Nat.not_lt.2 c13)
  replace H := bi H
  obtain ⟨t577, A140, H⟩ := H
  try dsimp only at H
  have A14 := Aside0.mk A140
  clear A140
  by_cases c15 : (t576 == t577) = true
  rotate_left
  ·rw [if_neg c15] at H
   have c15b0 : (t576 == t577) = false := by simpa using c15
   (try (have c15b1 : decide (t576 = t577) = false := by simpa using c15))
   (try (have c15b2 : (t576 == t577) = false := by simpa using c15))
   (try (have c15b3 : ¬ (t576 = t577) := by simpa using c15))
   clear c15
   exfalso
   obtain rfl := Option.some.inj H
   exact absurd hr_ (by decide)
  rw [if_pos c15] at H
  have c15b0 : (t576 == t577) = true := c15
  (try (have c15b1 : decide (t576 = t577) = true := by simpa using c15))
  (try (have c15b2 : (t576 == t577) = true := by simpa using c15))
  clear c15
  replace H := bi H
  obtain ⟨t578, A160, H⟩ := H
  try dsimp only at H
  have A16 := Aside0.mk A160
  clear A160
  by_cases c17 : a1.size + 3 ≤ 9223372036854775807
  rotate_left
  ·rw [if_neg c17] at H
   exact absurd H (by simp)
  rw [if_pos c17] at H
  have c17b0 := eq_true c17
  have c17b1 := dT c17
  try have c17b2 : (9223372036854775807 < a1.size + 3) = False := eq_false (Nat.not_lt.2 c17)
  replace H := bi H
  obtain ⟨t579, A180, H⟩ := H
  try dsimp only at H
  have A18 := Aside0.mk A180
  clear A180
  by_cases c19 : (t578 == t579) = true
  rotate_left
  ·rw [if_neg c19] at H
   have c19b0 : (t578 == t579) = false := by simpa using c19
   (try (have c19b1 : decide (t578 = t579) = false := by simpa using c19))
   (try (have c19b2 : (t578 == t579) = false := by simpa using c19))
   (try (have c19b3 : ¬ (t578 = t579) := by simpa using c19))
   clear c19
   exfalso
   obtain rfl := Option.some.inj H
   exact absurd hr_ (by decide)
  rw [if_pos c19] at H
  have c19b0 : (t578 == t579) = true := c19
  (try (have c19b1 : decide (t578 = t579) = true := by simpa using c19))
  (try (have c19b2 : (t578 == t579) = true := by simpa using c19))
  clear c19
  replace H := bi H
  obtain ⟨t580, A200, H⟩ := H
  try dsimp only at H
  have A20 := Aside0.mk A200
  clear A200
  by_cases c21 : t580 = true
  ·subst c21
   have H1 : (some false) = some r := by rw [if_pos rfl] at H; exact H
   clear H
   have H := H1
   clear H1
   exfalso
   obtain rfl := Option.some.inj H
   exact absurd hr_ (by decide)
  replace c21 := Bool.eq_false_iff.mpr c21
  subst c21
  have H1 : ((span_Holds.f kj2 (([(⟨(⟨#[]⟩ : ByteArray), (⟨#[]⟩ : ByteArray), false, false⟩ : S58)] : List (S58))) a1).bind fun t584 => (some t584)) = some r := by rw [if_neg (show ¬ (false = true) by decide)] at H; exact H
  clear H
  have H := H1
  clear H1
  obtain ⟨y581, hy581⟩ : ∃ y_ : List (S58), y_ = (([(⟨(⟨#[]⟩ : ByteArray), (⟨#[]⟩ : ByteArray), false, false⟩ : S58)] : List (S58))) := ⟨_, rfl⟩
  replace H : ((span_Holds.f kj2 y581 a1).bind fun t584 => (some t584)) = some r := by first | (rw [hy581]; with_reducible exact H) | (have H2_ := (Option.bind_some _ _).symm.trans H; rw [hy581]; with_reducible exact H2_) | (have H2_ := (Option.bind_some _ _).symm.trans H; with_reducible exact H2_) | with_reducible exact H | (rw [hy581]; exact H) | exact H
  have Ny581 := Aside0.mk hy581
  clear hy581
  replace H := bi H
  obtain ⟨t584, A220, H⟩ := H
  try dsimp only at H
  have A22 := Aside0.mk A220
  clear A220
  obtain rfl := Option.some.inj H
  go_wp2_with (first | (refine gl (some 16) Tryd.func62 #[.slice A0 l0.length c0] ?_; (with_reducible refine (newellaw07_right.calls kj2 _ _ l0 t572 _ ?side1 ?side2 (gS HG) A9.out).mono ?_); (case side1 => repeat (first | exact (Kd.C_below HR0.out HB.out) | (with_reducible refine Kd.C_alloc ?_ _) | (with_reducible refine Kd.C_drewN ?_ _) | (with_reducible refine Kd.C_drew ?_))); (case side2 => exact HC0.out); rintro e w23 ⟨v573, rfl, ho0, hb⟩; refine ⟨_, rfl, ?_⟩; have HO574 := Aside0.mk (Kd.R_lower ho0 (below_size bE)); replace HB := sB hb; (try clear hb); (try clear ho0)) | (refine gl (some 17) Tryd.func57 #[] ?_; (with_reducible refine (newellaw07_awake.calls kj2  true _ (gS HG) A10.out).mono ?_); rintro e w24 ⟨rfl, hb⟩; refine ⟨_, rfl, ?_⟩; replace HO574 := rB HO574 hb; replace HB := sB hb; (try clear hb); obtain ⟨Ao25, co25, eo25⟩ := Kd.R_slice HO574.out; subst eo25) | (go_at_call 58; (with_reducible refine (span_Holds.calls kj2 _ _ t572 a1 t576 _ ?side1 ?side2 (gS HG) A12.out).mono ?_); (case side1 => repeat (first | exact (Kd.R_reads' HO574.out).2.2 | (with_reducible refine Kd.C_alloc ?_ _) | (with_reducible refine Kd.C_drewN ?_ _) | (with_reducible refine Kd.C_drew ?_))); (case side2 => exact (Kd.R_reads' HO574.out).2.1); rintro e w26 ⟨rfl, hb⟩; replace HO574 := rB HO574 hb; replace HB := sB hb; (try clear hb); clear A12) | (go_at_call 58; (with_reducible refine (span_Holds.calls kj2 _ _ t572 (a1 ++ (⟨#[46, 48]⟩ : ByteArray)) t577 _ ?side1 ?side2 (gS HG) A14.out).mono ?_); (case side1 => repeat (first | exact (Kd.R_reads' HO574.out).2.2 | (with_reducible refine Kd.C_alloc ?_ _) | (with_reducible refine Kd.C_drewN ?_ _) | (with_reducible refine Kd.C_drew ?_))); (case side2 => exact (Kd.R_reads' HO574.out).2.1); rintro e w27 ⟨rfl, hb⟩; replace HO574 := rB HO574 hb; replace HB := sB hb; (try clear hb)) | (go_at_call 58; (with_reducible refine (span_Holds.calls kj2 _ _ t572 a1 t578 _ ?side1 ?side2 (gS HG) A16.out).mono ?_); (case side1 => repeat (first | exact (Kd.R_reads' HO574.out).2.2 | (with_reducible refine Kd.C_alloc ?_ _) | (with_reducible refine Kd.C_drewN ?_ _) | (with_reducible refine Kd.C_drew ?_))); (case side2 => exact (Kd.R_reads' HO574.out).2.1); rintro e w28 ⟨rfl, hb⟩; replace HO574 := rB HO574 hb; replace HB := sB hb; (try clear hb)) | (go_at_call 58; (with_reducible refine (span_Holds.calls kj2 _ _ t572 (a1 ++ (⟨#[45, 103, 97]⟩ : ByteArray)) t579 _ ?side1 ?side2 (gS HG) A18.out).mono ?_); (case side1 => repeat (first | exact (Kd.R_reads' HO574.out).2.2 | (with_reducible refine Kd.C_alloc ?_ _) | (with_reducible refine Kd.C_drewN ?_ _) | (with_reducible refine Kd.C_drew ?_))); (case side2 => exact (Kd.R_reads' HO574.out).2.1); rintro e w29 ⟨rfl, hb⟩; replace HO574 := rB HO574 hb; replace HB := sB hb; (try clear hb)) | ((with_reducible refine gate_dst (N := 45) rfl ?_); (try (refine gate_guard (by rfl) ?_; dsimp only)); refine Kd.R_lit k58 _ 58 ?hg (N := 45) ?hd (xs := ([(⟨(⟨#[]⟩ : ByteArray), (⟨#[]⟩ : ByteArray), false, false⟩ : S58)] : List (S58))) (inner := [.string (⟨#[]⟩ : ByteArray), .string (⟨#[]⟩ : ByteArray), .bool false, .bool false]) (ok := fun _ => True) (okp := fun _ => True) ?hr ?hp (fun _ hk => hk) trivial (Below.refl _ _) (Nat.le_refl _) (by simp) ?_; (case hd => rfl); (case hg => rfl); (case hr => first | (go_simp; done) | (go_simp; rfl)); (case hp => exact (Reps.c4 (show Kd.M k58 _ _ _ (⟨(⟨#[]⟩ : ByteArray), (⟨#[]⟩ : ByteArray), false, false⟩ : S58) [.string (⟨#[]⟩ : ByteArray), .string (⟨#[]⟩ : ByteArray), .bool false, .bool false] from (k58_mkM _ _ _ (⟨(⟨#[]⟩ : ByteArray), (⟨#[]⟩ : ByteArray), false, false⟩ : S58) )) (Reps.none _ _))); intro v582 w31 ho32 hb hg_ hnew_; clear hg_ hnew_; (first | rw [← Ny581.out] at ho32 | (simp only [Int.reduceToNat] at ho32; rw [← Ny581.out] at ho32)); have HO583 := Aside0.mk (Kd.R_lower (Kd.R_new' ho32 (Kd.R_lt (kR HO574))) (below_size bE)); replace HO574 := Aside0.mk (Kd.R_elder' (kR HO574) (Kd.R_base ho32) hb); replace HB := sB hb; clear hb ho32; obtain ⟨Ao33, co33, eo33⟩ := Kd.R_slice HO583.out; subst eo33) | (go_at_call 58; (with_reducible refine (span_Holds.calls kj2 _ _ y581 a1 t584 _ ?side1 ?side2 (gS HG) A22.out).mono ?_); (case side1 => repeat (first | exact (Kd.R_reads' HO583.out).2.2 | (with_reducible refine Kd.C_alloc ?_ _) | (with_reducible refine Kd.C_drewN ?_ _) | (with_reducible refine Kd.C_drew ?_))); (case side2 => exact (Kd.R_reads' HO583.out).2.1); rintro e w34 ⟨rfl, hb⟩; replace HO574 := rB HO574 hb; replace HO583 := rB HO583 hb; replace HB := sB hb; (try clear hb)) | (go_at_call 58; (refine (span_Holds.calls kj2 _ _ ([] : List (S58)) a1 false _ ?side1 ?side2 (gS HG) A20.out).mono ?_); (case side1 => exact Kd.C_nil _ _); (case side2 => exact Nat.le_refl _); rintro e w30 ⟨rfl, hb⟩; replace HO574 := rB HO574 hb; replace HB := sB hb; (try clear hb)))
  go_ret
  exact ⟨eA, bE⟩
end Go.Proofs.YtgdjfcmmpjcaaaaDoor.Q
namespace Go.Proofs.YtgdjfcmmpjcaaaaDoor.Q
open Go.RowKit Go.Proofs.YtgdjfcmmpjcaaaaDoorW.PrintWords Go.Proofs.YtgdjfcmmpjcaaaaDoorW.PrintLast Go.Proofs.YtgdjfcmmpjcaaaaDoorW.Own Go.Proofs.YtgdjfcmmpjcaaaaDoorW.PrintMore
set_option linter.unusedVariables false
set_option linter.unusedSimpArgs false
namespace Rd
open Go Go.RowKit
theorem add_more (a : Addr) (i j : Nat) : (a.add i).add j = a.add (i + j) := by
  by_cases hi : i = 0
  · subst hi
    simp [Addr.add]
  · by_cases hj : j = 0
    · subst hj
      simp [Addr.add]
    · have hij : ¬ (i + j = 0) := by omega
      simp [Addr.add, hi, hj]
      omega
def Opens {α : Type} (t : TypeId) (d : Kd α) (wf : α → Prop) (bulk : α → Nat) : Prop :=
  Tryd.prog.cellsOf t = d.sz ∧ ∀ (H : Type) (enc : TypeId × Value → H) (W : World) (fuel : Nat) (cs : List Value) (dd : DataW H) (ps : List MemPlace),
    DataW.trod enc Tryd.prog W 0 (fun _ => true) true fuel t cs = some (dd, ps) → ∃ x, d.K W x cs ∧ wf x ∧ bulk x ≤ Rows.uptoBulk dd
theorem opens_bool {t : TypeId} (hu : Tryd.prog.underlying t = some .bool) (hc : Tryd.prog.cellsOf t = 1) : Opens t Kd.bool (fun _ => True) (fun _ => 1) := by
  refine ⟨hc, fun H enc W fuel cs dd ps h => ?_⟩
  obtain ⟨n, rfl, hx⟩ := DataW.trod_bool hu h
  obtain ⟨rfl, rfl⟩ := Prod.mk.inj hx
  exact ⟨n, rfl, trivial, by simp [Rows.uptoBulk]⟩
theorem opens_string {t : TypeId} (hu : Tryd.prog.underlying t = some .string) (hc : Tryd.prog.cellsOf t = 1) : Opens t Kd.string (fun s => s.size ≤ maxLen) (fun s => s.size + 1) := by
  refine ⟨hc, fun H enc W fuel cs dd ps h => ?_⟩
  obtain ⟨s, rfl, hx, hw⟩ := DataW.trod_string hu h
  obtain ⟨rfl, rfl⟩ := Prod.mk.inj hx
  refine ⟨s, rfl, hw, ?_⟩
  have e : s.data.toList.length = s.size := by rw [Array.length_toList]; rfl
  simp only [Rows.uptoBulk]
  omega
def sumOf {α : Type} (f : α → Nat) (l : List α) : Nat := (l.map f).sum
theorem bulkAll_append {H : Type} (a b : List (DataW H)) : Rows.uptoBulkAll (a ++ b) = Rows.uptoBulkAll a + Rows.uptoBulkAll b := by
  induction a with
  | nil => simp [Rows.uptoBulkAll]
  | cons x l ih => simp only [List.cons_append, Rows.uptoBulkAll, ih]; omega
theorem opens_slice {α : Type} {t e : TypeId} {d : Kd α} {wf : α → Prop} {bulk : α → Nat} (hu : Tryd.prog.underlying t = some (.slice e)) (hc : Tryd.prog.cellsOf t = 1) (h : Opens e d wf bulk) :
    Opens t (Kd.slice e d) (fun xs => xs.length ≤ maxLen ∧ ∀ x ∈ xs, wf x) (fun xs => sumOf bulk xs + 1) := by
  refine ⟨hc, fun H enc W fuel cs dd ps hh => ?_⟩
  rcases DataW.trod_slice hu hh with ⟨rfl, hx⟩ | ⟨a, len, cap, elems, rest, n, rfl, rfl, hx, -, hlc, hcm, hel, he, -, -⟩
  · obtain ⟨rfl, rfl⟩ := Prod.mk.inj hx
    refine ⟨[], ?_, ?_, ?_⟩
    · exact ⟨none, 0, rfl, Nat.le_refl _, Kd.C_nil _ _⟩
    · refine ⟨?_, fun _ h => by simp at h⟩
      rw [List.length_nil]
      exact Nat.zero_le _
    · simp only [sumOf, List.map_nil, List.sum_nil, Rows.uptoBulk]
      exact Nat.le_refl _
  · have e1 := congrArg Prod.fst hx
    simp only at e1
    subst e1
    clear hx hh
    obtain ⟨hsz, hop⟩ := h
    have key : ∀ m, m ≤ elems.length → ∃ xs : List α, xs.length = m ∧ (∀ x ∈ xs, wf x) ∧ sumOf bulk xs ≤ Rows.uptoBulkAll ((elems.take m).map (·.1)) ∧
        ∀ j p, xs[j]? = some p → ∃ c, c.length = d.sz ∧ d.K W p c ∧ ∀ i u, c[i]? = some u → W.cell? (a.add (j * d.sz + i)) = some u := by
      intro m
      induction m with
      | zero => exact fun _ => ⟨[], rfl, fun _ h => by simp at h, Nat.zero_le _, fun j p h => by simp at h⟩
      | succ m ih =>
        intro hm
        obtain ⟨xs, h1, h2, h3, h4⟩ := ih (by omega)
        have hi := he m (by omega)
        rw [List.getElem?_eq_getElem (by omega : m < elems.length), hsz] at hi
        obtain ⟨c, hcells, ht⟩ := Option.bind_eq_some_iff.1 hi
        obtain ⟨x, hk, hwf, hb0⟩ := hop H enc W n c _ _ ht
        have hb : bulk x ≤ Rows.uptoBulk (elems[m]'(by omega)).1 := hb0
        clear hb0
        have hcl : c.length = d.sz ∧ ∀ i u, c[i]? = some u → W.cell? ((a.add (m * d.sz)).add i) = some u := by
          unfold World.cells? at hcells
          rw [if_pos (Nat.zero_le _)] at hcells
          refine ⟨by simpa using mapM_some_length hcells, fun i u hu => ?_⟩
          have hil : i < d.sz := by
            have := (List.getElem?_eq_some_iff.1 hu).1
            have e := mapM_some_length hcells
            rw [List.length_range] at e
            omega
          have := mapM_some_get hcells i i (by rw [List.getElem?_range hil])
          rw [hu] at this
          exact this
        refine ⟨xs ++ [x], by simp [h1], ?_, ?_, ?_⟩
        · intro y hy
          rcases List.mem_append.1 hy with hy | hy
          · exact h2 y hy
          · rw [List.mem_singleton.1 hy]; exact hwf
        · rw [List.take_succ_eq_append_getElem (by omega), List.map_append, bulkAll_append]
          simp only [sumOf, List.map_append, List.sum_append, List.map_cons, List.map_nil, List.sum_cons, List.sum_nil, Rows.uptoBulkAll] at h3 ⊢
          omega
        · intro j p hj
          rcases Nat.lt_or_ge j xs.length with hlt | hge
          · rw [List.getElem?_append_left hlt] at hj
            exact h4 j p hj
          · rw [List.getElem?_append_right hge] at hj
            have hj0 : j - xs.length = 0 := by
              rcases Nat.eq_zero_or_pos (j - xs.length) with h | h
              · exact h
              · rw [List.getElem?_eq_none (by simp; omega)] at hj; simp at hj
            rw [hj0] at hj
            obtain rfl : x = p := by simpa using hj
            obtain rfl : j = m := by omega
            exact ⟨c, hcl.1, hk, fun i u hu => by have z := hcl.2 i u hu; rw [add_more] at z; exact z⟩
    obtain ⟨xs, h1, h2, h3, h4⟩ := key elems.length (Nat.le_refl _)
    rw [List.take_length] at h3
    refine ⟨xs, ⟨some a, cap, by rw [h1, hel], by omega, ⟨rfl, ?_, fun _ => ⟨a, rfl, h4⟩⟩⟩, ⟨by omega, h2⟩, ?_⟩
    · unfold maxLen at hcm
      omega
    · simp only [Rows.uptoBulk]
      omega
def OpensF {β : Type} (fs : List Field) (off : Nat) (d : Kd β) (wf : β → Prop) (bulk : β → Nat) : Prop :=
  ∀ (H : Type) (enc : TypeId × Value → H) (W : World) (n : Nat) (cs : List Value) (xs : List (DataW H × List MemPlace)), xs.length = fs.length →
    (∀ (i : Nat) (f : Field), fs[i]? = some f → DataW.trod enc Tryd.prog W 0 (fun _ => true) true n f.type ((cs.drop f.offset).take (Tryd.prog.cellsOf f.type)) = xs[i]?) → cs.length = off + d.sz →
    ∃ x, d.K W x (cs.drop off) ∧ wf x ∧ bulk x ≤ Rows.uptoBulkAll (xs.map (·.1))
theorem OpensF.single {α : Type} {f : Field} {off : Nat} {d : Kd α} {wf : α → Prop} {bulk : α → Nat} (ho : f.offset = off) (h : Opens f.type d wf bulk) : OpensF [f] off d wf bulk := by
  intro H enc W n cs xs hl ht hc
  obtain ⟨hsz, hop⟩ := h
  obtain ⟨x0, rfl⟩ : ∃ x0, xs = [x0] := by
    match xs, hl with
    | [x0], _ => exact ⟨x0, rfl⟩
  have h0 := ht 0 f rfl
  rw [ho, hsz, List.take_of_length_le (by rw [List.length_drop]; omega)] at h0
  obtain ⟨x, hk, hw, hb⟩ := hop H enc W n _ _ _ h0
  exact ⟨x, hk, hw, by simpa [Rows.uptoBulkAll] using hb⟩
theorem OpensF.cons {α β : Type} {f : Field} {fs : List Field} {off off' : Nat} {a : Kd α} {b : Kd β} {wf : α → Prop} {bulk : α → Nat} {wf' : β → Prop} {bulk' : β → Nat} (ho : f.offset = off) (ho' : off' = off + a.sz) (h : Opens f.type a wf bulk) (hr : OpensF fs off' b wf' bulk') :
    OpensF (f :: fs) off (Kd.pair a b) (fun x => wf x.1 ∧ wf' x.2) (fun x => bulk x.1 + bulk' x.2) := by
  intro H enc W n cs xs hl ht hc
  subst ho'
  obtain ⟨hsz, hop⟩ := h
  obtain ⟨x0, xs', rfl⟩ : ∃ x0 xs', xs = x0 :: xs' := by
    match xs, hl with
    | x0 :: xs', _ => exact ⟨x0, xs', rfl⟩
  have h0 := ht 0 f rfl
  rw [ho, hsz] at h0
  obtain ⟨x, hk, hw, hb⟩ := hop H enc W n _ _ _ h0
  have hc' : cs.length = off + a.sz + b.sz := by
    have e : (Kd.pair a b).sz = a.sz + b.sz := rfl
    rw [e] at hc
    omega
  obtain ⟨y, hk', hw', hb'⟩ := hr H enc W n cs xs' (by simpa using hl) (fun i g hg => by have := ht (i + 1) g (by simpa using hg); simpa using this) hc'
  refine ⟨(x, y), ⟨(cs.drop off).take a.sz, cs.drop (off + a.sz), ?_, hk, hk'⟩, ⟨hw, hw'⟩, ?_⟩
  · rw [← List.drop_drop, List.take_append_drop]
  · simp only [List.map_cons, Rows.uptoBulkAll]
    omega
theorem opens_struct {α β : Type} {t : TypeId} {fs : Array Field} {d : Kd β} {wf : β → Prop} {bulk : β → Nat} (hu : Tryd.prog.underlying t = some (.struct fs)) (h : OpensF fs.toList 0 d wf bulk) (hc : Tryd.prog.cellsOf t = d.sz) (f : α → β) (g : β → α) (hg : ∀ x, f (g x) = x) :
    Opens t (Kd.iso d f) (fun x => wf (f x)) (fun x => bulk (f x) + 1) := by
  refine ⟨hc, fun H enc W fuel cs dd ps hh => ?_⟩
  obtain ⟨xs, n, rfl, hx, hcl, hlen, ht⟩ := DataW.trod_struct hu hh
  obtain ⟨rfl, rfl⟩ := Prod.mk.inj hx
  obtain ⟨x, hk, hw, hb⟩ := h H enc W n cs xs (by simpa using hlen) (fun i f hf => ht i f (by simpa using hf)) (by omega)
  refine ⟨g x, ?_, ?_, ?_⟩
  · show d.K W (f (g x)) cs
    rw [hg]
    exact hk
  · show wf (f (g x))
    rw [hg]
    exact hw
  · show bulk (f (g x)) + 1 ≤ _
    rw [hg]
    simp only [Rows.uptoBulk]
    omega
theorem glob {W : World} (h : W.ShapedOpen Tryd.prog) : Glob W :=
  cell_of_shapedOpen_int (g := 0) (t := 3) (zero := #[.int .i64 0]) (k := .i64) h (of_decide_eq_true (by kernel_rfl)) (by kernel_rfl) rfl (by kernel_rfl) (by kernel_rfl) Tryd.underlying3
end Rd
end Go.Proofs.YtgdjfcmmpjcaaaaDoor.Q
namespace Go.Proofs.YtgdjfcmmpjcaaaaDoor.Q
open Go.RowKit Go.Proofs.YtgdjfcmmpjcaaaaDoorW.PrintWords Go.Proofs.YtgdjfcmmpjcaaaaDoorW.PrintLast Go.Proofs.YtgdjfcmmpjcaaaaDoorW.Own Go.Proofs.YtgdjfcmmpjcaaaaDoorW.PrintMore
set_option linter.unusedVariables false
set_option linter.unusedSimpArgs false
def wf58 (x : S58) : Prop := (x.f0.size ≤ maxLen ∧ (x.f1.size ≤ maxLen ∧ (True ∧ True)))
def bulk58 (x : S58) : Nat := ((x.f0.size + 1) + ((x.f1.size + 1) + (1 + 1))) + 1
theorem opens58 : Rd.Opens 58 k58 wf58 bulk58 := by
  have h := Rd.opens_struct Tryd.underlying58 (show Rd.OpensF _ 0 _ _ _ from (Rd.OpensF.cons (off' := 1) rfl (by kernel_rfl) (Rd.opens_string Tryd.underlying9 (by kernel_rfl)) (Rd.OpensF.cons (off' := 2) rfl (by kernel_rfl) (Rd.opens_string Tryd.underlying9 (by kernel_rfl)) (Rd.OpensF.cons (off' := 3) rfl (by kernel_rfl) (Rd.opens_bool Tryd.underlying4 (by kernel_rfl)) (Rd.OpensF.single rfl (Rd.opens_bool Tryd.underlying4 (by kernel_rfl))))))) (by kernel_rfl) (fun x : S58 => (x.f0, x.f1, x.f2, x.f3)) (fun x => ⟨x.1, x.2.1, x.2.2.1, x.2.2.2⟩) (fun _ => rfl)
  exact h
def newellaw07_SpanTexts.Pure : Prop := ∀ (l0 : List (S58)) (a1 : ByteArray), ((l0.length ≤ maxLen ∧ ∀ x_ ∈ l0, wf58 x_)) → (a1.size ≤ 140737488351232) → ∃ k, newellaw07_SpanTexts.f k l0 a1 = some true
end Go.Proofs.YtgdjfcmmpjcaaaaDoor.Q
namespace Go.Proofs.YtgdjfcmmpjcaaaaDoor.Q
open Go.RowKit Go.Proofs.YtgdjfcmmpjcaaaaDoorW.PrintWords Go.Proofs.YtgdjfcmmpjcaaaaDoorW.PrintLast Go.Proofs.YtgdjfcmmpjcaaaaDoorW.Own Go.Proofs.YtgdjfcmmpjcaaaaDoorW.PrintMore
attribute [local go_sem] max2_int min2_int max_two min_two max_three min_three max_four min_four   -- for this text's walks alone
set_option linter.unusedVariables false
set_option linter.unusedSimpArgs false
set_option maxHeartbeats 8000000
set_option maxRecDepth 100000
mutual
def newelref05_Holds.l0 : Nat → List (S58) → ByteArray → Int → Option (Bool)
 | 0, _, _, _ => none
 | k + 1, x0, x1, x5 => if x5 < (x0.length : Int) then (if 0 ≤ x5 then (if ((rd_T58 x0 x5).f0).toList = ([] : List UInt8) then (newelref05_Holds.j1 k x0 x1 x5 true true ((rd_T58 x0 x5).f0) ((rd_T58 x0 x5).f1) ((rd_T58 x0 x5).f2) ((rd_T58 x0 x5).f3)) else ((newelref05_Compare.f k ((rd_T58 x0 x5).f0) x1).bind fun t456 => (if t456 < 0 then (newelref05_Holds.j1 k x0 x1 x5 true true ((rd_T58 x0 x5).f0) ((rd_T58 x0 x5).f1) ((rd_T58 x0 x5).f2) ((rd_T58 x0 x5).f3)) else (if t456 = 0 then (newelref05_Holds.j1 k x0 x1 x5 ((rd_T58 x0 x5).f2) true ((rd_T58 x0 x5).f0) ((rd_T58 x0 x5).f1) ((rd_T58 x0 x5).f2) ((rd_T58 x0 x5).f3)) else (newelref05_Holds.j1 k x0 x1 x5 false true ((rd_T58 x0 x5).f0) ((rd_T58 x0 x5).f1) ((rd_T58 x0 x5).f2) ((rd_T58 x0 x5).f3)))))) else (none)) else (some false)
def newelref05_Holds.j1 : Nat → List (S58) → ByteArray → Int → Bool → Bool → ByteArray → ByteArray → Bool → Bool → Option (Bool)
 | 0, _, _, _, _, _, _, _, _, _ => none
 | k + 1, x0, x1, x5, x7, x8, x456000, x456001, x456002, x456003 => if x456001.toList = ([] : List UInt8) then (if x7 = true then (if x8 = true then (some true) else (newelref05_Holds.l0 k x0 x1 (wrap64 (x5 + 1)))) else (newelref05_Holds.l0 k x0 x1 (wrap64 (x5 + 1)))) else ((newelref05_Compare.f k x1 x456001).bind fun t457 => (if t457 < 0 then (if x7 = true then (some true) else (newelref05_Holds.l0 k x0 x1 (wrap64 (x5 + 1)))) else (if t457 = 0 then (if x7 = true then (if x456003 = true then (some true) else (newelref05_Holds.l0 k x0 x1 (wrap64 (x5 + 1)))) else (newelref05_Holds.l0 k x0 x1 (wrap64 (x5 + 1)))) else (if x7 = true then (newelref05_Holds.l0 k x0 x1 (wrap64 (x5 + 1))) else (newelref05_Holds.l0 k x0 x1 (wrap64 (x5 + 1)))))))
end
theorem newelref05_Holds.mono_l : ∀ k, (∀ y0 y1 y2, LeO (newelref05_Holds.l0 k y0 y1 y2) (newelref05_Holds.l0 (k + 1) y0 y1 y2)) ∧ (∀ y0 y1 y2 y3 y4 y5 y6 y7 y8, LeO (newelref05_Holds.j1 k y0 y1 y2 y3 y4 y5 y6 y7 y8) (newelref05_Holds.j1 (k + 1) y0 y1 y2 y3 y4 y5 y6 y7 y8))
 | 0 => ⟨fun _ _ _ r h => by simp [newelref05_Holds.l0] at h, fun _ _ _ _ _ _ _ _ _ r h => by simp [newelref05_Holds.j1] at h⟩
 | k + 1 => by
  obtain ⟨ih0, ih1⟩ := newelref05_Holds.mono_l k
  refine ⟨?_, ?_⟩
  ·intro y0 y1 y2
   unfold newelref05_Holds.l0
   have m0 := @newelref05_Compare.mono
   exact mo
  ·intro y0 y1 y2 y3 y4 y5 y6 y7 y8
   unfold newelref05_Holds.j1
   have m0 := @newelref05_Compare.mono
   exact mo
end Go.Proofs.YtgdjfcmmpjcaaaaDoor.Q
namespace Go.Proofs.YtgdjfcmmpjcaaaaDoorW.Px
open Go
theorem ba_ext {a b : ByteArray} (h : a.data.toList = b.data.toList) : a = b := by
  cases a; cases b; simp at h; subst h; rfl
theorem ba_size (a : ByteArray) : a.size = a.data.toList.length := Array.length_toList.symm
theorem ba_append (a b : ByteArray) : (a ++ b).data.toList = a.data.toList ++ b.data.toList := by simp [ByteArray.data_append]
theorem ba_toList (a : ByteArray) : a.toList = a.data.toList := Lib.toList_data a
theorem ba_extract (a : ByteArray) (i j : Nat) : (a.extract i j).data.toList = (a.data.toList.take j).drop i := by
  simp [ByteArray.data_extract, List.extract_eq_take_drop, List.drop_take]
end Go.Proofs.YtgdjfcmmpjcaaaaDoorW.Px
namespace Go.Proofs.YtgdjfcmmpjcaaaaDoor.Pure
open Go Go.RowKit Go.Proofs.YtgdjfcmmpjcaaaaDoor.Q Go.Proofs.YtgdjfcmmpjcaaaaDoorW.PrintWords Go.Proofs.YtgdjfcmmpjcaaaaDoorW.PrintLast Go.Proofs.YtgdjfcmmpjcaaaaDoorW.Own Go.Proofs.YtgdjfcmmpjcaaaaDoorW.PrintMore Go.Proofs.YtgdjfcmmpjcaaaaDoorW.Px
set_option linter.unusedSimpArgs false
set_option linter.unusedVariables false
def sign (n : Int) : Bool := decide (33 ≤ n) && decide (n ≤ 126) && n != 91 && n != 93 && n != 40 && n != 41 && n != 44
def sign8 (c : UInt8) : Bool := sign (c.toNat : Int)
def rightB (l : List UInt8) : Bool := decide (1 ≤ l.length) && decide (l.length ≤ 100) && l.all sign8
end Go.Proofs.YtgdjfcmmpjcaaaaDoor.Pure
namespace Go.Proofs.YtgdjfcmmpjcaaaaDoor.Q
open Go.RowKit Go.Proofs.YtgdjfcmmpjcaaaaDoorW.PrintWords Go.Proofs.YtgdjfcmmpjcaaaaDoorW.PrintLast Go.Proofs.YtgdjfcmmpjcaaaaDoorW.Own Go.Proofs.YtgdjfcmmpjcaaaaDoorW.PrintMore
attribute [local go_sem] max2_int min2_int max_two min_two max_three min_three max_four min_four   -- for this text's walks alone
set_option linter.unusedVariables false
set_option linter.unusedSimpArgs false
set_option maxHeartbeats 8000000
set_option maxRecDepth 100000
def newelhelp_Digits.f : Nat → Int → Option (ByteArray)
 | 0, _ => none
 | k + 1, a0 => if a0 < 10 then (some (strOfNums (([(wrap64 (48 + a0)) % 256] : List Int)))) else ((newelhelp_Digits.f k (wrap64 (Int.tdiv a0 10))).bind fun t104 => ((some (([(wrap64 (48 + (Int.tmod a0 10))) % 256] : List Int) : List Int)).bind fun y105 => (if t104.size + (strOfNums y105).size ≤ 9223372036854775807 then (some (t104 ++ (strOfNums y105))) else (none))))
theorem newelhelp_Digits.mono_l : ∀ k, (∀ y0, LeO (newelhelp_Digits.f k y0) (newelhelp_Digits.f (k + 1) y0))
 | 0 => fun _ r h => by simp [newelhelp_Digits.f] at h
 | k + 1 => by
  have ih0 := newelhelp_Digits.mono_l k
  ·intro y0
   unfold newelhelp_Digits.f
   exact mo
end Go.Proofs.YtgdjfcmmpjcaaaaDoor.Q
namespace Go.Proofs.YtgdjfcmmpjcaaaaDoor.Q
open Go.RowKit Go.Proofs.YtgdjfcmmpjcaaaaDoorW.PrintWords Go.Proofs.YtgdjfcmmpjcaaaaDoorW.PrintLast Go.Proofs.YtgdjfcmmpjcaaaaDoorW.Own Go.Proofs.YtgdjfcmmpjcaaaaDoorW.PrintMore
attribute [local go_sem] max2_int min2_int max_two min_two max_three min_three max_four min_four   -- for this text's walks alone
set_option linter.unusedVariables false
set_option linter.unusedSimpArgs false
theorem eqA38 (d : Nat) (w : World) (x0 y0 : Int) (x1 y1 : ByteArray) :
    (Op.equalIn (d + 2) 38 (.agg #[.int .i64 x0, .string x1]) (.agg #[.int .i64 y0, .string y1])).run Tryd.prog w = .ok (x0 == y0 && (x1.toList == y1.toList)) w := by
  refine eqA_of Tryd.underlying38 (by kernel_rfl) ?_
  refine eqf_cons (by rfl) (by go_simp; rfl) (by go_simp; rfl) (by go_simp) ?_
  exact eqf_last (by rfl) (by go_simp; rfl) (by go_simp; rfl) (by go_simp)
end Go.Proofs.YtgdjfcmmpjcaaaaDoor.Q
namespace Go.Proofs.YtgdjfcmmpjcaaaaDoor.Q
open Go.RowKit Go.Proofs.YtgdjfcmmpjcaaaaDoorW.PrintWords Go.Proofs.YtgdjfcmmpjcaaaaDoorW.PrintLast Go.Proofs.YtgdjfcmmpjcaaaaDoorW.Own Go.Proofs.YtgdjfcmmpjcaaaaDoorW.PrintMore
attribute [local go_sem] max2_int min2_int max_two min_two max_three min_three max_four min_four   -- for this text's walks alone
set_option linter.unusedVariables false
set_option linter.unusedSimpArgs false
set_option maxHeartbeats 8000000
set_option maxRecDepth 100000
section
attribute [local go_sem high] eqA38
def api_Word_1.f (a0_0 : Int) (a0_1 : ByteArray) (a1_0 : Int) (a1_1 : ByteArray) : Option (Bool) := some (a0_0 == a1_0 && (a0_1.toList == a1_1.toList))
end
def api_Word_69.l0 : Nat → List (S38) → List (S38) → Int → Option (Bool)
 | 0, _, _, _ => none
 | k + 1, x0, x1, x7 => if x7 < (x0.length : Int) then (if 0 ≤ x7 then (if x7 < (x1.length : Int) then ((api_Word_1.f ((rd_T38 x0 x7).f0) ((rd_T38 x0 x7).f1) ((rd_T38 x1 x7).f0) ((rd_T38 x1 x7).f1)).bind fun t183 => (if t183 = true then (api_Word_69.l0 k x0 x1 (wrap64 (x7 + 1))) else (some false))) else (none)) else (none)) else (some true)
theorem api_Word_69.mono_l : ∀ k, (∀ y0 y1 y2, LeO (api_Word_69.l0 k y0 y1 y2) (api_Word_69.l0 (k + 1) y0 y1 y2))
 | 0 => fun _ _ _ r h => by simp [api_Word_69.l0] at h
 | k + 1 => by
  have ih0 := api_Word_69.mono_l k
  ·intro y0 y1 y2
   unfold api_Word_69.l0
   exact mo
end Go.Proofs.YtgdjfcmmpjcaaaaDoor.Q
namespace Go.Proofs.YtgdjfcmmpjcaaaaDoor.Pure
open Go Go.Proofs.YtgdjfcmmpjcaaaaDoorW.Px
set_option linter.unusedSimpArgs false
set_option linter.unusedVariables false
structure Pt where
  tx : List UInt8
  da : Bool
  nu : Bool
def isD (c : UInt8) : Bool := decide (48 ≤ c.toNat) && decide (c.toNat ≤ 57)
def lowB (c : UInt8) : UInt8 := if 65 ≤ c.toNat ∧ c.toNat ≤ 90 then c + 32 else c
def likeP (t : List UInt8) (c : UInt8) : Bool := match t.getLast? with
  | none => true
  | some d => isD d == isD c
def stepP (r : List Pt × Pt) (c : UInt8) : List Pt × Pt :=
  if c == 46 || c == 45 then (r.1 ++ [r.2], ⟨[], c == 45, false⟩)
  else if likeP r.2.tx c then (r.1, ⟨r.2.tx ++ [c], r.2.da, r.2.nu⟩)
  else (r.1 ++ [⟨r.2.tx, r.2.da, isD c⟩], ⟨[c], true, false⟩)
def runP (r : List Pt × Pt) (l : List UInt8) : List Pt × Pt := l.foldl stepP r
def allP (r : List Pt × Pt) : List Pt := r.1 ++ [r.2]
def p0 : List Pt × Pt := ([], ⟨[], false, false⟩)
def partsL (l : List UInt8) : List Pt := allP (runP p0 l)
abbrev Wl := Int × List UInt8
abbrev tA : List UInt8 := [97, 108, 112, 104, 97]
abbrev tB : List UInt8 := [98, 101, 116, 97]
abbrev tM : List UInt8 := [109, 105, 108, 101, 115, 116, 111, 110, 101]
abbrev tRc : List UInt8 := [114, 99]
abbrev tCr : List UInt8 := [99, 114]
abbrev tS : List UInt8 := [115, 110, 97, 112, 115, 104, 111, 116]
abbrev tGa : List UInt8 := [103, 97]
abbrev tFi : List UInt8 := [102, 105, 110, 97, 108]
abbrev tRe : List UInt8 := [114, 101, 108, 101, 97, 115, 101]
abbrev tSp : List UInt8 := [115, 112]
def kindL (t : List UInt8) (nu : Bool) : Int :=
  if t = tA ∨ nu = true ∧ t = [97] then 1
  else if t = tB ∨ nu = true ∧ t = [98] then 2
  else if t = tM ∨ nu = true ∧ t = [109] then 3
  else if t = tRc ∨ t = tCr then 4
  else if t = tS then 5
  else if t = tGa ∨ t = tFi ∨ t = tRe then 6
  else if t = tSp then 7
  else 8
def numL (t : List UInt8) (da : Bool) : Wl :=
  if t.dropWhile (· == 48) = [] then (6, []) else if da = true then (9, t.dropWhile (· == 48)) else (10, t.dropWhile (· == 48))
def letL (t : List UInt8) (nu : Bool) : Wl := if kindL t nu = 8 then (8, t) else (kindL t nu, [])
def numb (t : List UInt8) : Bool := match t with
  | [] => true
  | c :: _ => isD c
def wordL (p : Pt) : Wl := if numb p.tx = true then numL p.tx p.da else letL p.tx p.nu
def aheadL : List Wl → Bool
  | [] => false
  | w :: _ => w.1 == 6 || w.1 == 10
def pushL (w : Wl) (out : List Wl) : List Wl := if w.1 = 6 ∧ aheadL out = false then out else w :: out
def outL (l : List Pt) : List Wl := (l.map wordL).foldr pushL []
def splitL (l : List UInt8) : List Wl := outL (partsL (l.map lowB))
theorem runP_append (r : List Pt × Pt) (a b : List UInt8) : runP r (a ++ b) = runP (runP r a) b := List.foldl_append ..
theorem runP_ahead (d : List Pt) : ∀ (l : List UInt8) (r : List Pt × Pt), runP (d ++ r.1, r.2) l = (d ++ (runP r l).1, (runP r l).2)
  | [], r => rfl
  | c :: l, r => by
    have e : stepP (d ++ r.1, r.2) c = (d ++ (stepP r c).1, (stepP r c).2) := by
      unfold stepP
      dsimp only
      split
      · rw [List.append_assoc]
      · split
        · rfl
        · rw [List.append_assoc]
    show runP (stepP (d ++ r.1, r.2) c) l = _
    rw [e, runP_ahead d l (stepP r c)]
    rfl
theorem allP_ahead (d : List Pt) (l : List UInt8) (p : Pt) : allP (runP (d, p) l) = d ++ allP (runP ([], p) l) := by
  have := runP_ahead d l ([], p)
  rw [List.append_nil] at this
  rw [this]
  unfold allP
  rw [List.append_assoc]
theorem parts_sep (r : List Pt × Pt) (c : UInt8) (l : List UInt8) (h : (c == 46 || c == 45) = true) : allP (runP r (c :: l)) = allP r ++ allP (runP ([], ⟨[], c == 45, false⟩) l) := by
  show allP (runP (stepP r c) l) = _
  unfold stepP
  rw [if_pos h]
  exact allP_ahead _ _ _
end Go.Proofs.YtgdjfcmmpjcaaaaDoor.Pure
namespace Go.Proofs.YtgdjfcmmpjcaaaaDoor.Pure
open Go Go.RowKit Go.Proofs.YtgdjfcmmpjcaaaaDoor.Q Go.Proofs.YtgdjfcmmpjcaaaaDoorW.PrintWords Go.Proofs.YtgdjfcmmpjcaaaaDoorW.PrintLast Go.Proofs.YtgdjfcmmpjcaaaaDoorW.Own Go.Proofs.YtgdjfcmmpjcaaaaDoorW.PrintMore Go.Proofs.YtgdjfcmmpjcaaaaDoorW.Px
set_option linter.unusedSimpArgs false
set_option linter.unusedVariables false
def ts (l : List UInt8) : ByteArray := ⟨l.toArray⟩
theorem ts_list (l : List UInt8) : (ts l).data.toList = l := rfl
theorem ts_toList (l : List UInt8) : (ts l).toList = l := by rw [ba_toList]; rfl
theorem ts_data (a : ByteArray) : ts a.data.toList = a := ba_ext rfl
theorem ts_size (l : List UInt8) : (ts l).size = l.length := by rw [ba_size]; rfl
theorem ts_append (a b : List UInt8) : ts a ++ ts b = ts (a ++ b) := ba_ext (by rw [ba_append]; rfl)
theorem bt_nat (l : List UInt8) (i : Nat) (h : i < l.length) : bt (ts l) (i : Int) = ((l[i].toNat : Nat) : Int) := by
  have h' : i < (ts l).size := by rw [ts_size]; exact h
  unfold bt
  simp [h']
  rfl
theorem num_byte (c : UInt8) : strOfNums [(c.toNat : Int)] = ts [c] := by
  apply ba_ext
  show [UInt8.ofNat (Int.toNat (c.toNat : Int))] = [c]
  rw [Int.toNat_natCast]; simp
theorem byte_at (l : List UInt8) (i : Nat) (h : i < l.length) : (ts l).extract ((i : Nat) : Int).toNat ((i + 1 : Nat) : Int).toNat = ts [l[i]] := by
  apply ba_ext
  rw [ba_extract, ts_list, ts_list, Int.toNat_natCast, Int.toNat_natCast, List.take_succ_eq_append_getElem h, List.drop_append_of_le_length (by rw [List.length_take]; omega)]
  rw [List.drop_eq_nil_of_le (by rw [List.length_take]; omega)]
  rfl
theorem digit_told (c : UInt8) : chars_Digit.f (c.toNat : Int) = some (isD c) := by
  unfold chars_Digit.f isD
  by_cases h : (c.toNat : Int) ≥ 48
  · rw [if_pos h, decide_eq_true (show 48 ≤ c.toNat by omega), Bool.true_and]
    congr 1
    by_cases g : c.toNat ≤ 57
    · rw [decide_eq_true g, decide_eq_true (by omega)]
    · rw [decide_eq_false g, decide_eq_false (by omega)]
  · rw [if_neg h, decide_eq_false (show ¬ 48 ≤ c.toNat by omega), Bool.false_and]
theorem digit_ref (c : UInt8) : newelref01_Digit.f (c.toNat : Int) = some (isD c) := digit_told c
def p93 (p : Pt) : S93 := ⟨ts p.tx, p.da, p.nu⟩
def p98 (p : Pt) : S98 := ⟨ts p.tx, p.da, p.nu⟩
theorem last_of (n : Nat) (h : n < 4611686018427387904) : wrap64 (((n + 1 : Nat) : Int) - 1) = (n : Int) := by unfold wrap64; omega
theorem next_of (i : Nat) (h : i < 4611686018427387904) : wrap64 ((i : Int) + 1) = ((i + 1 : Nat) : Int) := by unfold wrap64; omega
theorem beq_toNat (c : UInt8) (n : Nat) (h : n < 256) : ((c.toNat : Int) = (n : Int)) ↔ c = UInt8.ofNat n := by
  constructor
  · intro h
    have : c.toNat = n := by omega
    rw [← this]; simp
  · rintro rfl
    simp; omega
section
variable {T : Type} (g : Pt → T)
theorem all_len (r : List Pt × Pt) : ((allP r).map g).length = r.1.length + 1 := by simp [allP]
theorem all_getD (r : List Pt × Pt) (z : T) : ((allP r).map g).getD ((r.1.length : Int)).toNat z = g r.2 := by
  simp [allP, List.getD_eq_getElem?_getD]
theorem all_set (r : List Pt × Pt) (x : T) : ((allP r).map g).set ((r.1.length : Int)).toNat x = r.1.map g ++ [x] := by
  simp [allP, List.set_append]
theorem all_put (r : List Pt × Pt) (p : Pt) (x : T) (h : x = g p) : ((allP r).map g).set ((r.1.length : Int)).toNat x = (allP (r.1, p)).map g := by
  rw [all_set, h]; simp [allP]
theorem all_add (r : List Pt × Pt) (p : Pt) (x : T) (h : x = g p) : (allP r).map g ++ [x] = (allP (r.1 ++ [r.2], p)).map g := by
  rw [h]; simp [allP]
end
theorem stepP_sep (r : List Pt × Pt) (c : UInt8) (h : c = 46 ∨ c = 45) : stepP r c = (r.1 ++ [r.2], ⟨[], c == 45, false⟩) := by
  unfold stepP
  rw [if_pos (by rcases h with rfl | rfl <;> decide)]
theorem stepP_like (r : List Pt × Pt) (c : UInt8) (h : ¬ (c = 46 ∨ c = 45)) (h2 : likeP r.2.tx c = true) : stepP r c = (r.1, ⟨r.2.tx ++ [c], r.2.da, r.2.nu⟩) := by
  unfold stepP
  rw [if_neg (by simpa using h), if_pos h2]
theorem stepP_new (r : List Pt × Pt) (c : UInt8) (h : ¬ (c = 46 ∨ c = 45)) (h2 : likeP r.2.tx c = false) : stepP r c = (r.1 ++ [⟨r.2.tx, r.2.da, isD c⟩], ⟨[c], true, false⟩) := by
  unfold stepP
  rw [if_neg (by simpa using h), h2, if_neg (by simp)]
theorem runP_drop (r : List Pt × Pt) (v : List UInt8) (i : Nat) (h : i < v.length) : runP r (v.drop i) = runP (stepP r v[i]) (v.drop (i + 1)) := by
  rw [List.drop_eq_getElem_cons h]; rfl
theorem like_last (t : List UInt8) (c : UInt8) (h : t ≠ []) : likeP t c = (isD (t.getLast h) == isD c) := by
  unfold likeP
  rw [List.getLast?_eq_some_getLast h]
def tailP (v : List UInt8) (i : Nat) (p : Pt) : Prop := p.tx = [] ∨ ∃ n, i = n + 1 ∧ p.tx.getLast? = v[n]?
theorem tail_next (v : List UInt8) (i : Nat) (h : i < v.length) (t : List UInt8) (a b : Bool) : tailP v (i + 1) ⟨t ++ [v[i]], a, b⟩ := by
  refine Or.inr ⟨i, rfl, ?_⟩
  simp [List.getElem?_eq_getElem h]
theorem parts_loop (v : List UInt8) (hv : v.length ≤ 1000000) : ∀ (d i k : Nat) (r : List Pt × Pt), i + d = v.length → r.1.length ≤ i → r.2.tx.length ≤ i → tailP v i r.2 →
    words_parts.l0 (k + d + 1) (ts v) ((allP r).map p93) (v.length : Int) (i : Int) = some ((allP (runP r (v.drop i))).map p93) := by
  intro d
  induction d with
  | zero =>
    intro i k r h _ _ _
    rw [words_parts.l0, if_neg (by omega), List.drop_eq_nil_of_le (by omega)]
    rfl
  | succ d ih =>
    intro i k r h h1 h2 h3
    have hi : i < v.length := by omega
    have q0 : (i : Int) < (v.length : Int) := by omega
    have q0' : (i : Int) < ((ts v).size : Int) := by rw [ts_size]; omega
    have hl := all_len p93 r
    have hx : wrap64 ((((allP r).map p93).length : Int) - 1) = (r.1.length : Int) := by rw [hl]; exact last_of _ (by omega)
    have q1 : (0 : Int) ≤ (r.1.length : Int) := by omega
    have q2 : (r.1.length : Int) < (((allP r).map p93).length : Int) := by rw [hl]; omega
    have q3 : (0 : Int) ≤ (i : Int) := by omega
    have q4 : ((allP r).map p93).length < 5864062014805 := by rw [hl]; omega
    have hn := next_of i (by omega)
    have hr : rd_T93 ((allP r).map p93) (r.1.length : Int) = p93 r.2 := all_getD p93 r _
    have hb := bt_nat v i hi
    have tn := tail_next v i hi
    have step : ∀ r', stepP r v[i] = r' → r'.1.length ≤ i + 1 → r'.2.tx.length ≤ i + 1 → tailP v (i + 1) r'.2 → words_parts.l0 (k + d + 1) (ts v) ((allP r').map p93) (v.length : Int) ((i + 1 : Nat) : Int) = some ((allP (runP r (v.drop i))).map p93) := by
      intro r' e a b t
      rw [ih (i + 1) k r' (by omega) a b t, runP_drop r v i hi, e]
    rw [show k + (d + 1) + 1 = (k + d + 1) + 1 from by omega, words_parts.l0, if_pos q0, if_pos q3, if_pos q0', hx, if_pos q1, if_pos q2, hr, hb, hn]
    generalize hc : v[i] = c at *
    by_cases c1 : c = 46
    · rw [if_pos (by rw [c1]; rfl), if_pos q4, all_add p93 r ⟨[], c == 45, false⟩ _ (by rw [c1]; rfl)]
      exact step _ (stepP_sep r c (Or.inl c1)) (by simp; omega) (by simp) (Or.inl rfl)
    · rw [if_neg (by rw [show (46 : Int) = ((46 : Nat) : Int) from rfl, beq_toNat c 46 (by omega)]; exact c1)]
      by_cases c2 : c = 45
      · rw [if_pos (by rw [c2]; rfl), if_pos q4, all_add p93 r ⟨[], c == 45, false⟩ _ (by rw [c2]; rfl)]
        exact step _ (stepP_sep r c (Or.inr c2)) (by simp; omega) (by simp) (Or.inl rfl)
      · rw [if_neg (by rw [show (45 : Int) = ((45 : Nat) : Int) from rfl, beq_toNat c 45 (by omega)]; exact c2)]
        have nc : ¬ (c = 46 ∨ c = 45) := by rintro (h | h); exact c1 h; exact c2 h
        have e1 : strOfNums [(c.toNat : Int)] = ts [c] := num_byte c
        have q7 : (p93 r.2).f0.size + (ts [c]).size ≤ 9223372036854775807 := by show (ts r.2.tx).size + (ts [c]).size ≤ _; rw [ts_size, ts_size]; simp; omega
        have same : likeP r.2.tx c = true → (if (p93 r.2).f0.size + (strOfNums [(c.toNat : Int)]).size ≤ 9223372036854775807 then (words_parts.l0 (k + d + 1) (ts v) (((allP r).map p93).set ((r.1.length : Int)).toNat (⟨(p93 r.2).f0 ++ (strOfNums [(c.toNat : Int)]), (p93 r.2).f1, (p93 r.2).f2⟩ : S93)) (v.length : Int) ((i + 1 : Nat) : Int)) else none) = some ((allP (runP r (v.drop i))).map p93) := by
          intro lk
          rw [e1, if_pos q7, all_put p93 r ⟨r.2.tx ++ [c], r.2.da, r.2.nu⟩ _ (by unfold p93; rw [ts_append])]
          exact step _ (stepP_like r c nc lk) (by simp; omega) (by simp; omega) (tn _ _ _)
        by_cases z : r.2.tx = []
        · have z' : (p93 r.2).f0.toList = ([] : List UInt8) := by show (ts r.2.tx).toList = []; rw [ts_toList]; exact z
          rw [if_pos z', Option.bind_some]
          exact same (by rw [z]; rfl)
        · have z' : ¬ (p93 r.2).f0.toList = ([] : List UInt8) := by show ¬ (ts r.2.tx).toList = []; rw [ts_toList]; exact z
          obtain ⟨n, hin, hlast⟩ : ∃ n, i = n + 1 ∧ r.2.tx.getLast? = v[n]? := by
            rcases h3 with h3 | h3
            · exact absurd h3 z
            · exact h3
          have hnv : n < v.length := by omega
          have hnn : n < 4611686018427387904 := by omega
          have hg : r.2.tx.getLast z = v[n] := by
            rw [List.getLast?_eq_some_getLast z, List.getElem?_eq_getElem hnv] at hlast
            exact Option.some.inj hlast
          have hp : wrap64 ((i : Int) - 1) = (n : Int) := by rw [hin]; exact last_of n hnn
          rw [if_neg z', digit_told, Option.bind_some, hp, if_pos (by omega), if_pos (by rw [ts_size]; omega), bt_nat v n hnv, digit_told, Option.bind_some, ← hg]
          by_cases e : isD (r.2.tx.getLast z) = isD c
          · rw [if_neg (by rw [e]; simp), Option.bind_some]
            exact same (by rw [like_last _ _ z, e]; simp)
          · rw [if_pos (by simpa using fun h => e h.symm), Option.bind_some, Option.bind_some]
            have ea : ((allP r).map p93).set ((r.1.length : Int)).toNat (⟨(p93 r.2).f0, (p93 r.2).f1, isD c⟩ : S93) = (allP (r.1, ⟨r.2.tx, r.2.da, isD c⟩)).map p93 := all_put p93 r _ _ rfl
            rw [ea]
            have la := all_len p93 (r.1, ⟨r.2.tx, r.2.da, isD c⟩)
            have q8 : ((allP (r.1, ⟨r.2.tx, r.2.da, isD c⟩)).map p93).length < 5864062014805 := by rw [la]; simp; omega
            rw [if_pos q8, Option.bind_some, all_add p93 (r.1, ⟨r.2.tx, r.2.da, isD c⟩) ⟨[], true, false⟩ (⟨(⟨#[]⟩ : ByteArray), true, false⟩ : S93) rfl]
            generalize hR : ((r.1 ++ [(⟨r.2.tx, r.2.da, isD c⟩ : Pt)], (⟨[], true, false⟩ : Pt)) : List Pt × Pt) = R
            have R1 : R.1 = r.1 ++ [(⟨r.2.tx, r.2.da, isD c⟩ : Pt)] := by rw [← hR]
            have R2 : R.2 = ⟨[], true, false⟩ := by rw [← hR]
            have Rl : R.1.length = r.1.length + 1 := by rw [R1]; simp
            have lR := all_len p93 R
            have hxR : wrap64 ((((allP R).map p93).length : Int) - 1) = (R.1.length : Int) := by rw [lR]; exact last_of _ (by omega)
            have hrR : rd_T93 ((allP R).map p93) (R.1.length : Int) = p93 R.2 := all_getD p93 R _
            rw [hxR, if_pos (by omega), if_pos (by rw [lR]; omega), Option.bind_some, hrR, e1]
            have q9 : (p93 R.2).f0.size + (ts [c]).size ≤ 9223372036854775807 := by rw [R2]; show (ts []).size + (ts [c]).size ≤ _; rw [ts_size, ts_size]; simp
            rw [if_pos q9, all_put p93 R ⟨[c], true, false⟩ _ (by rw [R2]; unfold p93; rw [ts_append]; rfl)]
            exact step (R.1, ⟨[c], true, false⟩) (by rw [stepP_new r c nc (by rw [like_last _ _ z]; simpa using e), R1]) (by simp; omega) (by simp) (tn [] true false)
theorem parts_told (v : List UInt8) (hv : v.length ≤ 1000000) (k : Nat) (hk : v.length + 1 ≤ k) : words_parts.f k (ts v) = some ((partsL v).map p93) := by
  have := parts_loop v hv v.length 0 (k - v.length - 1) p0 (by omega) (by simp [p0]) (by simp [p0]) (Or.inl rfl)
  rw [show k - v.length - 1 + v.length + 1 = k from by omega, ← ts_size v] at this
  exact this
def w38 (w : Wl) : S38 := ⟨w.1, ts w.2⟩
def pr (w : Wl) : Int × ByteArray := (w.1, ts w.2)
theorem kindL_plain (t : List UInt8) (nu : Bool) (ka : ∀ c : List UInt8, (c = [97] ∨ c = [98] ∨ c = [109]) → (nu = true ∧ t = c) = False) : kindL t nu = if t = tA then 1 else if t = tB then 2 else if t = tM then 3 else if t = tRc ∨ t = tCr then 4 else if t = tS then 5 else if t = tGa ∨ t = tFi ∨ t = tRe then 6 else if t = tSp then 7 else 8 := by
  have a := ka [97] (by simp)
  have b := ka [98] (by simp)
  have c := ka [109] (by simp)
  unfold kindL
  simp only [a, b, c, or_false]
theorem letters_told (t : List UInt8) (da nu : Bool) (k : Nat) (hk : 4 ≤ k) : words_letters.f k (ts t) da nu = some (pr (letL t nu)) := by
  obtain ⟨j, rfl⟩ : ∃ j, k = j + 1 + 1 + 1 := ⟨k - 3, by omega⟩
  have gen : ∀ s x, (s = t ∨ nu = true ∧ (s = tA ∧ t = [97] ∨ s = tB ∧ t = [98] ∨ s = tM ∧ t = [109])) → (s = t → ¬ (nu = true ∧ (t = [97] ∨ t = [98] ∨ t = [109]))) → x = ts s → words_letters.j0 (j + 1 + 1 + 1) x (ts t) da nu = some (pr (letL t nu)) := by
    rintro s _ hs hne rfl
    rcases hs with rfl | ⟨hn, ⟨rfl, rfl⟩ | ⟨rfl, rfl⟩ | ⟨rfl, rfl⟩⟩
    · have hx := hne rfl
      have ka : ∀ c, (c = [97] ∨ c = [98] ∨ c = [109]) → (nu = true ∧ s = c) = False := by
        intro c hc
        apply eq_false
        rintro ⟨h1, h2⟩
        exact hx ⟨h1, h2 ▸ hc⟩
      rw [words_letters.j0, ts_toList]
      unfold letL
      rw [kindL_plain s nu ka]
      by_cases h1 : s = tA
      · rw [if_pos h1, if_pos h1]; rfl
      · rw [if_neg h1, if_neg h1]
        by_cases h2 : s = tB
        · rw [if_pos h2, if_pos h2]; rfl
        · rw [if_neg h2, if_neg h2]
          by_cases h3 : s = tM
          · rw [if_pos h3, if_pos h3]; rfl
          · rw [if_neg h3, if_neg h3]
            have j2 : ∀ b, (¬ b = true → ¬ (s = tGa ∨ s = tFi ∨ s = tRe)) → (b = true → (s = tGa ∨ s = tFi ∨ s = tRe)) → words_letters.j2 (j + 1) (ts s) b (ts s) da nu = some (pr (if (if s = tGa ∨ s = tFi ∨ s = tRe then (6 : Int) else if s = tSp then 7 else 8) = 8 then (8, s) else ((if s = tGa ∨ s = tFi ∨ s = tRe then (6 : Int) else if s = tSp then 7 else 8), []))) := by
              intro b hb1 hb2
              rw [words_letters.j2, ts_toList]
              by_cases hb : b = true
              · rw [if_pos hb, if_pos (hb2 hb)]; rfl
              · rw [if_neg hb, if_neg (hb1 hb)]
                by_cases h7 : s = tSp
                · rw [if_pos h7, if_pos h7]; rfl
                · rw [if_neg h7, if_neg h7]; rfl
            have j1 : ∀ b, (¬ b = true → ¬ (s = tRc ∨ s = tCr)) → (b = true → (s = tRc ∨ s = tCr)) → words_letters.j1 (j + 1 + 1) (ts s) b (ts s) da nu = some (pr (if (if s = tRc ∨ s = tCr then (4 : Int) else if s = tS then 5 else if s = tGa ∨ s = tFi ∨ s = tRe then (6 : Int) else if s = tSp then 7 else 8) = 8 then (8, s) else ((if s = tRc ∨ s = tCr then (4 : Int) else if s = tS then 5 else if s = tGa ∨ s = tFi ∨ s = tRe then (6 : Int) else if s = tSp then 7 else 8), []))) := by
              intro b hb1 hb2
              rw [words_letters.j1, ts_toList]
              by_cases hb : b = true
              · rw [if_pos hb, if_pos (hb2 hb)]; rfl
              · rw [if_neg hb, if_neg (hb1 hb)]
                by_cases h5 : s = tS
                · rw [if_pos h5, if_pos h5]; rfl
                · rw [if_neg h5, if_neg h5]
                  by_cases h6 : s = tGa
                  · rw [if_pos h6]; exact j2 _ (fun h => absurd (by rw [show s = [103, 97] from h6]; rfl) h) (fun _ => Or.inl h6)
                  · rw [if_neg h6]
                    by_cases h8 : s = tFi
                    · rw [if_pos h8]; exact j2 _ (fun h => absurd (by rw [show s = [102, 105, 110, 97, 108] from h8]; rfl) h) (fun _ => Or.inr (Or.inl h8))
                    · rw [if_neg h8]
                      refine j2 _ ?_ ?_
                      · rintro h (g | g | g)
                        · exact h6 g
                        · exact h8 g
                        · exact h (by rw [show s = [114, 101, 108, 101, 97, 115, 101] from g]; rfl)
                      · intro h; exact Or.inr (Or.inr (beq_iff_eq.1 h))
            by_cases h4 : s = tRc
            · rw [if_pos h4]; exact j1 _ (fun h => absurd (by rw [show s = [114, 99] from h4]; rfl) h) (fun _ => Or.inl h4)
            · rw [if_neg h4]
              refine j1 _ ?_ ?_
              · rintro h (g | g)
                · exact h4 g
                · exact h (by rw [show s = [99, 114] from g]; rfl)
              · intro h; exact Or.inr (beq_iff_eq.1 h)
    · subst hn; rw [words_letters.j0, ts_toList, if_pos rfl]; rfl
    · subst hn; rw [words_letters.j0, ts_toList, if_neg (by decide), if_pos rfl]; rfl
    · subst hn; rw [words_letters.j0, ts_toList, if_neg (by decide), if_neg (by decide), if_pos rfl]; rfl
  unfold words_letters.f
  rw [ts_toList]
  by_cases hn : nu = true
  · rw [if_pos hn]
    by_cases h1 : t = [97]
    · rw [if_pos h1]; exact gen tA _ (Or.inr ⟨hn, Or.inl ⟨rfl, h1⟩⟩) (fun h => by rw [h1] at h; exact absurd h (by decide)) rfl
    · rw [if_neg h1]
      by_cases h2 : t = [98]
      · rw [if_pos h2]; exact gen tB _ (Or.inr ⟨hn, Or.inr (Or.inl ⟨rfl, h2⟩)⟩) (fun h => by rw [h2] at h; exact absurd h (by decide)) rfl
      · rw [if_neg h2]
        by_cases h3 : t = [109]
        · rw [if_pos h3]; exact gen tM _ (Or.inr ⟨hn, Or.inr (Or.inr ⟨rfl, h3⟩)⟩) (fun h => by rw [h3] at h; exact absurd h (by decide)) rfl
        · rw [if_neg h3]
          refine gen t _ (Or.inl rfl) ?_ rfl
          rintro _ ⟨_, g | g | g⟩
          · exact h1 g
          · exact h2 g
          · exact h3 g
  · rw [if_neg hn]
    exact gen t _ (Or.inl rfl) (fun _ h => hn h.1) rfl
theorem trim_told (t : List UInt8) : strings_TrimLeft.f (ts t) (⟨#[48]⟩ : ByteArray) = some (ts (t.dropWhile (· == 48))) := by
  unfold strings_TrimLeft.f
  rw [if_pos ⟨rfl, by decide⟩]
  rfl
theorem word_told (p : Pt) (k : Nat) (hk : 5 ≤ k) : words_word.f k (p93 p).f0 (p93 p).f1 (p93 p).f2 = some (pr (wordL p)) := by
  obtain ⟨j, rfl⟩ : ∃ j, k = j + 1 := ⟨k - 1, by omega⟩
  obtain ⟨t, da, nu⟩ := p
  show words_word.f (j + 1) (ts t) da nu = _
  have nums : words_word.j0 (j + 1) false (ts t) da nu = some (pr (numL t da)) := by
    rw [words_word.j0, if_neg (by simp), trim_told, Option.bind_some, ts_toList]
    unfold numL
    by_cases z : t.dropWhile (· == 48) = []
    · rw [if_pos z, if_pos z]; rfl
    · rw [if_neg z, if_neg z]
      by_cases d : da = true
      · rw [if_pos d, if_pos d]; rfl
      · rw [if_neg d, if_neg d]; rfl
  unfold words_word.f wordL
  rw [ts_toList]
  cases t with
  | nil => rw [if_pos rfl, nums]; rfl
  | cons c t =>
    have hb : bt (ts (c :: t)) 0 = (c.toNat : Int) := bt_nat (c :: t) 0 (by simp)
    rw [if_neg (by simp), if_pos (by rw [ts_size, List.length_cons]; omega), hb, digit_told, Option.bind_some]
    show _ = some (pr (if isD c = true then numL (c :: t) da else letL (c :: t) nu))
    by_cases d : isD c = true
    · rw [if_pos d, d]; exact nums
    · rw [if_neg d, Bool.eq_false_iff.2 d]
      show words_word.j0 (j + 1) true _ _ _ = _
      rw [words_word.j0, if_pos rfl, letters_told _ _ _ _ (by omega)]
      rfl
def toN (c : UInt8) : Int := (c.toNat : Int)
theorem nums_ts (l : List UInt8) : strOfNums (l.map toN) = ts l := by
  apply ba_ext
  show (l.map toN).map (fun n => UInt8.ofNat n.toNat) = l
  rw [List.map_map]
  conv => rhs; rw [← List.map_id l]
  apply List.map_congr_left
  intro c _
  show UInt8.ofNat (Int.toNat (c.toNat : Int)) = c
  rw [Int.toNat_natCast]; simp
theorem low_num (c : UInt8) : (if 65 ≤ (c.toNat : Int) ∧ (c.toNat : Int) ≤ 90 then (c.toNat : Int) + 32 else (c.toNat : Int)) = toN (lowB c) := by
  unfold lowB toN
  by_cases h : 65 ≤ c.toNat ∧ c.toNat ≤ 90
  · rw [if_pos (by omega), if_pos h, UInt8.toNat_add]
    have : (32 : UInt8).toNat = 32 := rfl
    rw [this]; omega
  · rw [if_neg (by omega), if_neg h]
theorem lower_told (v : List UInt8) (hv : v.length ≤ 1000000) : chars_Lower.f (ts v) = some (ts (v.map lowB)) := by
  unfold chars_Lower.f
  rw [if_pos (by rw [ts_size]; omega), ← nums_ts (v.map lowB)]
  congr 2
  unfold bytesOf
  rw [ts_list, List.map_map, List.map_map]
  apply List.map_congr_left
  intro c _
  exact low_num c
theorem rev_loop : ∀ (n : Nat) (m a b : List S38) (k : Nat), m.length ≤ n → a.length + m.length + b.length ≤ 4000000 →
    api_Word_73.l0 (k + n + 1) (a ++ (m ++ b)) (a.length : Int) (((a.length + m.length : Nat) : Int) - 1) = some (a ++ (m.reverse ++ b)) := by
  intro n
  induction n with
  | zero =>
    intro m a b k h _
    obtain rfl : m = [] := List.eq_nil_of_length_eq_zero (by omega)
    rw [api_Word_73.l0, if_neg (by simp; omega)]
    rfl
  | succ n ih =>
    intro m a b k h hb
    match m, h, hb with
    | [], h, hb => rw [api_Word_73.l0, if_neg (by simp; omega)]; rfl
    | [x], h, hb => rw [api_Word_73.l0, if_neg (by simp)]; rfl
    | x :: y :: m', h, hb =>
      obtain ⟨c, z, hc⟩ : ∃ c z, y :: m' = c ++ [z] := ⟨(y :: m').dropLast, (y :: m').getLast (by simp), (List.dropLast_concat_getLast (by simp)).symm⟩
      rw [hc] at h hb ⊢
      simp only [List.length_cons, List.length_append, List.length_nil] at h hb
      have hj : (((a.length + (x :: (c ++ [z])).length : Nat) : Int) - 1) = ((a.length + 1 + c.length : Nat) : Int) := by simp; omega
      have hL : (a ++ (x :: (c ++ [z]) ++ b)).length = a.length + 1 + c.length + 1 + b.length := by simp; omega
      have gz : rd_T38 (a ++ (x :: (c ++ [z]) ++ b)) ((a.length + 1 + c.length : Nat) : Int) = z := by
        unfold rd_T38
        rw [Int.toNat_natCast, List.getD_eq_getElem?_getD, List.getElem?_append_right (by omega)]
        rw [show a.length + 1 + c.length - a.length = c.length + 1 from by omega]
        simp
      have gx : rd_T38 (a ++ (x :: (c ++ [z]) ++ b)) ((a.length : Nat) : Int) = x := by
        unfold rd_T38
        rw [Int.toNat_natCast, List.getD_eq_getElem?_getD, List.getElem?_append_right (by omega)]
        simp
      have s1 : (a ++ (x :: (c ++ [z]) ++ b)).set ((a.length : Nat) : Int).toNat z = a ++ (z :: (c ++ [z]) ++ b) := by
        rw [Int.toNat_natCast, List.set_append_right _ _ (by omega)]
        simp
      have s2 : (a ++ (z :: (c ++ [z]) ++ b)).set ((a.length + 1 + c.length : Nat) : Int).toNat x = (a ++ [z]) ++ (c ++ ([x] ++ b)) := by
        rw [Int.toNat_natCast, List.set_append_right _ _ (by omega), show a.length + 1 + c.length - a.length = c.length + 1 from by omega]
        simp
      have w1 : wrap64 (((a.length : Nat) : Int) + 1) = (((a ++ [z]).length : Nat) : Int) := by
        rw [List.length_append]; unfold wrap64; simp; omega
      have w2 : wrap64 (((a.length + 1 + c.length : Nat) : Int) - 1) = (((a ++ [z]).length + c.length : Nat) : Int) - 1 := by
        rw [List.length_append]; unfold wrap64; simp; omega
      have := ih c (a ++ [z]) ([x] ++ b) k (by omega) (by simp; omega)
      rw [show k + (n + 1) + 1 = (k + n + 1) + 1 from by omega, api_Word_73.l0, hj, if_pos (by omega), if_pos (by omega), if_pos (by rw [hL]; omega), if_pos (by omega), if_pos (by rw [hL]; omega), gz, gx]
      show api_Word_73.l0 (k + n + 1) ((((a ++ (x :: (c ++ [z]) ++ b)).set ((a.length : Nat) : Int).toNat z)).set ((a.length + 1 + c.length : Nat) : Int).toNat x) _ _ = _
      rw [s1, s2, w1, w2, this]
      simp
theorem rev_told (l : List S38) (hl : l.length ≤ 4000000) (k : Nat) (hk : l.length + 1 ≤ k) : api_Word_73.f k l = some l.reverse := by
  have := rev_loop l.length l [] [] (k - l.length - 1) (Nat.le_refl _) (by simp; omega)
  rw [show k - l.length - 1 + l.length + 1 = k from by omega, List.append_nil, List.append_nil] at this
  unfold api_Word_73.f
  rw [show wrap64 ((l.length : Int) - 1) = (((([] : List S38).length + l.length : Nat) : Int) - 1) from by unfold wrap64; simp; omega]
  exact this
theorem push_skip (w : Wl) (out : List Wl) (h : w.1 = 6) (g : aheadL out = false) : pushL w out = out := if_pos ⟨h, g⟩
theorem push_add (w : Wl) (out : List Wl) (h : ¬ (w.1 = 6 ∧ aheadL out = false)) : pushL w out = w :: out := if_neg h
theorem ahead_cons (w : Wl) (l : List Wl) : aheadL (w :: l) = false ↔ ¬ w.1 = 6 ∧ ¬ w.1 = 10 := by
  unfold aheadL; simp
theorem split_loop : ∀ (n : Nat) (l : List Pt) (out : List Wl) (k : Nat), l.length = n → out.length + l.length ≤ 1000000 → out.length + l.length + 10 ≤ k →
    words_Split.l0 (k + n + 1) ((out.map w38).reverse) (l.map p93) = some (((l.map wordL).foldr pushL out).map w38) := by
  intro n
  induction n with
  | zero =>
    intro l out k h _ hk
    obtain rfl : l = [] := List.eq_nil_of_length_eq_zero h
    rw [words_Split.l0, if_pos (by simp), rev_told _ (by simp; omega) _ (by simp; omega), Option.bind_some, List.reverse_reverse]
    rfl
  | succ n ih =>
    intro l out k h hs hk
    obtain ⟨l', p, rfl⟩ : ∃ l' p, l = l' ++ [p] := ⟨l.dropLast, l.getLast (by intro z; rw [z] at h; simp at h), (List.dropLast_concat_getLast _).symm⟩
    have hl' : l'.length = n := by simpa using h
    rw [List.length_append, List.length_singleton] at hs hk
    have hm : ((l' ++ [p]).map p93).length = n + 1 := by rw [List.length_map, List.length_append, hl']; rfl
    have hx : wrap64 ((((l' ++ [p]).map p93).length : Int) - 1) = ((n : Nat) : Int) := by rw [hm]; exact last_of n (by omega)
    have hr : rd_T93 ((l' ++ [p]).map p93) ((n : Nat) : Int) = p93 p := by
      unfold rd_T93
      rw [Int.toNat_natCast, List.map_append, List.getD_eq_getElem?_getD, List.getElem?_append_right (by simp; omega)]
      simp [hl']
    have ht : ((l' ++ [p]).map p93).take ((n : Nat) : Int).toNat = l'.map p93 := by
      rw [Int.toNat_natCast, List.map_append, List.take_append_of_le_length (by simp; omega), List.take_of_length_le (by simp; omega)]
    have fold : (((l' ++ [p]).map wordL).foldr pushL out) = (l'.map wordL).foldr pushL (pushL (wordL p) out) := by simp
    have hlen : ((out.map w38).reverse).length = out.length := by simp
    have add : ¬ ((wordL p).1 = 6 ∧ aheadL out = false) → (if ((out.map w38).reverse).length < 5864062014805 then words_Split.l0 (k + n + 1) ((out.map w38).reverse ++ [(⟨(pr (wordL p)).1, (pr (wordL p)).2⟩ : S38)]) (l'.map p93) else none) = some ((((l' ++ [p]).map wordL).foldr pushL out).map w38) := by
      intro hp
      have e : (out.map w38).reverse ++ [(⟨(pr (wordL p)).1, (pr (wordL p)).2⟩ : S38)] = (((wordL p :: out)).map w38).reverse := by
        rw [List.map_cons, List.reverse_cons]; rfl
      rw [if_pos (by rw [hlen]; omega), e, ih l' (wordL p :: out) k hl' (by simp; omega) (by simp; omega), fold, push_add _ _ hp]
    have skip : (wordL p).1 = 6 → aheadL out = false → words_Split.l0 (k + n + 1) ((out.map w38).reverse) (l'.map p93) = some ((((l' ++ [p]).map wordL).foldr pushL out).map w38) := by
      intro h1 h2
      rw [ih l' out k hl' (by omega) (by omega), fold, push_skip _ _ h1 h2]
    rw [show k + (n + 1) + 1 = (k + n + 1) + 1 from by omega, words_Split.l0, if_neg (by rw [hm]; omega), hx, if_pos (by omega), if_pos (by rw [hm]; omega), hr, word_told p _ (by omega), Option.bind_some, if_pos (by rw [hm]; omega), ht, Option.bind_some]
    by_cases h6 : (pr (wordL p)).1 = 6
    · rw [if_pos h6]
      cases out with
      | nil =>
        rw [if_neg (by simp)]
        exact skip h6 rfl
      | cons o os =>
        have ho : (((o :: os).map w38).reverse).length = os.length + 1 := by simp
        have hy : wrap64 (((((o :: os).map w38).reverse).length : Int) - 1) = ((os.length : Nat) : Int) := by rw [ho]; exact last_of _ (by simp at hs; omega)
        have hz : rd_T38 (((o :: os).map w38).reverse) ((os.length : Nat) : Int) = w38 o := by
          unfold rd_T38
          rw [Int.toNat_natCast, List.map_cons, List.reverse_cons, List.getD_eq_getElem?_getD, List.getElem?_append_right (by simp)]
          simp
        rw [if_pos (by rw [ho]; omega), hy, if_pos (by omega), if_pos (by rw [ho]; omega), hz]
        by_cases a6 : (w38 o).f0 = 6
        · rw [if_pos a6]
          exact add (fun h => ((ahead_cons o os).1 h.2).1 a6)
        · rw [if_neg a6]
          by_cases a10 : (w38 o).f0 = 10
          · rw [if_pos a10]
            exact add (fun h => ((ahead_cons o os).1 h.2).2 a10)
          · rw [if_neg a10]
            exact skip h6 ((ahead_cons o os).2 ⟨a6, a10⟩)
    · rw [if_neg h6]
      exact add (fun h => h6 h.1)
theorem stepP_B (r : List Pt × Pt) (c : UInt8) (B : Nat) (h : ∀ p ∈ allP r, p.tx.length ≤ B) : (∀ p ∈ allP (stepP r c), p.tx.length ≤ B + 1) ∧ (allP (stepP r c)).length ≤ (allP r).length + 1 := by
  have h1 : ∀ p ∈ r.1, p.tx.length ≤ B := fun p hp => h p (List.mem_append_left _ hp)
  have h2 : r.2.tx.length ≤ B := h _ (List.mem_append_right _ (List.mem_singleton.2 rfl))
  unfold stepP allP
  split
  · refine ⟨?_, by simp⟩
    intro p hp
    simp only [List.mem_append, List.mem_singleton] at hp
    rcases hp with (hp | rfl) | rfl
    · have := h1 p hp; omega
    · omega
    · simp
  · split
    · refine ⟨?_, by simp⟩
      intro p hp
      simp only [List.mem_append, List.mem_singleton] at hp
      rcases hp with hp | rfl
      · have := h1 p hp; omega
      · simp; omega
    · refine ⟨?_, by simp⟩
      intro p hp
      simp only [List.mem_append, List.mem_singleton] at hp
      rcases hp with (hp | rfl) | rfl
      · have := h1 p hp; omega
      · simp; omega
      · simp
theorem runP_B : ∀ (l : List UInt8) (r : List Pt × Pt) (B : Nat), (∀ p ∈ allP r, p.tx.length ≤ B) → (∀ p ∈ allP (runP r l), p.tx.length ≤ B + l.length) ∧ (allP (runP r l)).length ≤ (allP r).length + l.length
  | [], _, _, h => ⟨fun p hp => h p hp, Nat.le_refl _⟩
  | c :: l, r, B, h => by
    have s := stepP_B r c B h
    have i := runP_B l (stepP r c) (B + 1) s.1
    refine ⟨fun p hp => ?_, ?_⟩
    · have := i.1 p hp
      rw [List.length_cons]; omega
    · have a := i.2
      have b := s.2
      rw [List.length_cons]
      show (allP (runP (stepP r c) l)).length ≤ _
      omega
theorem partsL_B (l : List UInt8) : (∀ p ∈ partsL l, p.tx.length ≤ l.length) ∧ (partsL l).length ≤ l.length + 1 := by
  have := runP_B l p0 0 (fun p hp => by obtain rfl := List.mem_singleton.1 hp; exact Nat.le_refl _)
  refine ⟨fun p hp => ?_, ?_⟩
  · have := this.1 p hp; omega
  · have := this.2
    have e : (allP p0).length = 1 := rfl
    unfold partsL; omega
theorem split_told (v : List UInt8) (hv : v.length ≤ 100000) (k : Nat) (hk : 3 * v.length + 40 ≤ k) : words_Split.f k (ts v) = some ((splitL v).map w38) := by
  have hB := partsL_B (v.map lowB)
  rw [List.length_map] at hB
  unfold words_Split.f
  rw [lower_told v (by omega), Option.bind_some, parts_told _ (by rw [List.length_map]; omega) k (by rw [List.length_map]; omega), Option.bind_some]
  have := split_loop (partsL (v.map lowB)).length (partsL (v.map lowB)) [] (k - (partsL (v.map lowB)).length - 1) rfl (by simp; omega) (by simp; omega)
  rw [show k - (partsL (v.map lowB)).length - 1 + (partsL (v.map lowB)).length + 1 = k from by omega] at this
  exact this
theorem pushL_len (w : Wl) (out : List Wl) : (pushL w out).length ≤ out.length + 1 := by
  unfold pushL; split <;> simp
theorem splitL_len (v : List UInt8) : (splitL v).length ≤ v.length + 1 := by
  have g : ∀ l : List Wl, (l.foldr pushL []).length ≤ l.length := by
    intro l
    induction l with
    | nil => simp
    | cons w l ih => rw [List.foldr_cons]; have := pushL_len w (l.foldr pushL []); rw [List.length_cons]; omega
  have := g ((partsL (v.map lowB)).map wordL)
  have hB := (partsL_B (v.map lowB)).2
  rw [List.length_map] at this hB
  unfold splitL outL
  omega
theorem outL_append (a b : List Pt) : outL (a ++ b) = (a.map wordL).foldr pushL (outL b) := by
  unfold outL
  rw [List.map_append, List.foldr_append]
theorem cmp_int (a b : Int) : cmp_Compare_int.f a b = some (if a < b then -1 else if a > b then 1 else 0) := by
  unfold cmp_Compare_int.f cmp_isNaN_int.f
  rw [Option.bind_some, Option.bind_some, if_neg (by simp), if_neg (by simp)]
  repeat' split
  all_goals rfl
theorem cmp_str (a b : List UInt8) : cmp_Compare_string.f (ts a) (ts b) = some (if Op.bytesLess a b = true then -1 else if Op.bytesLess b a = true then 1 else 0) := by
  unfold cmp_Compare_string.f cmp_isNaN_string.f
  rw [Option.bind_some, Option.bind_some, if_neg (by simp), if_neg (by simp), ts_toList, ts_toList]
  repeat' split
  all_goals rfl
theorem or_two (a b : Int) (k : Nat) (hk : 4 ≤ k) : cmp_Or_int.f k [a, b] = some (if a = 0 then b else a) := by
  obtain ⟨k, rfl⟩ : ∃ j, k = j + 1 + 1 + 1 := ⟨k - 3, by omega⟩
  unfold cmp_Or_int.f
  have r0 : rd [a, b] 0 = a := rfl
  have r1 : rd [a, b] 1 = b := rfl
  have w0 : wrap64 ((0 : Int) + 1) = 1 := by unfold wrap64; omega
  have w1 : wrap64 ((1 : Int) + 1) = 2 := by unfold wrap64; omega
  have l2 : (([a, b] : List Int).length : Int) = 2 := rfl
  rw [l2, cmp_Or_int.l0, if_pos (by decide), if_pos (by decide), l2, if_pos (by decide), r0, w0]
  by_cases h : a = 0
  · rw [if_pos h, if_pos h, cmp_Or_int.l0, if_pos (by decide), if_pos (by decide), l2, if_pos (by decide), r1, w1]
    by_cases g : b = 0
    · rw [if_pos g, cmp_Or_int.l0, if_neg (by decide), g]
    · rw [if_neg g]
  · rw [if_neg h, if_neg h]
def Tot {α : Type} (f : Nat → Option α) (P : α → Prop) : Prop := ∃ k r, P r ∧ ∀ j, k ≤ j → f j = some r
theorem tot_get {α : Type} {f : Nat → Option α} {P : α → Prop} (h : Tot f P) : ∃ k r, P r ∧ ∀ j, k ≤ j → f j = some r := h
section
variable {α β : Type}
theorem tot_some {P : α → Prop} {r : α} (h : P r) : Tot (fun _ => some r) P := ⟨0, r, h, fun _ _ => rfl⟩
theorem tot_const {o : Option α} {P : α → Prop} {r : α} (h : o = some r) (p : P r) : Tot (fun _ => o) P := ⟨0, r, p, fun _ _ => h⟩
theorem tot_ge {f : Nat → Option α} {r : α} (n : Nat) (h : ∀ k, n ≤ k → f k = some r) : Tot f (fun x => x = r) := ⟨n, r, rfl, h⟩
theorem tot_imp {f : Nat → Option α} {P Q : α → Prop} (h : Tot f P) (i : ∀ r, P r → Q r) : Tot f Q := by
  obtain ⟨k, r, p, e⟩ := h
  exact ⟨k, r, i r p, e⟩
theorem tot_bind {g : Nat → Option α} {F : Nat → α → Option β} {Q : α → Prop} {P : β → Prop} (h : Tot g Q) (hF : ∀ r, Q r → Tot (fun k => F k r) P) : Tot (fun k => (g k).bind (F k)) P := by
  obtain ⟨k1, r, q, h1⟩ := h
  obtain ⟨k2, s, p, h2⟩ := hF r q
  exact ⟨k1 + k2, s, p, fun j hj => by show (g j).bind (F j) = _; rw [h1 j (by omega), Option.bind_some]; exact h2 j (by omega)⟩
theorem tot_if {c : Prop} [Decidable c] {f g : Nat → Option α} {P : α → Prop} (h1 : c → Tot f P) (h2 : ¬ c → Tot g P) : Tot (fun k => if c then f k else g k) P := by
  by_cases h : c
  · obtain ⟨k, r, p, e⟩ := h1 h; exact ⟨k, r, p, fun j hj => (if_pos h).trans (e j hj)⟩
  · obtain ⟨k, r, p, e⟩ := h2 h; exact ⟨k, r, p, fun j hj => (if_neg h).trans (e j hj)⟩
theorem tot_guard {c : Prop} [Decidable c] {f g : Nat → Option α} {P : α → Prop} (h : c) (h1 : Tot f P) : Tot (fun k => if c then f k else g k) P := tot_if (fun _ => h1) (fun n => absurd h n)
theorem tot_succ {f b : Nat → Option α} {P : α → Prop} (h : Tot b P) (e : ∀ k, f (k + 1) = b k) : Tot f P := by
  obtain ⟨k, r, p, h⟩ := h
  exact ⟨k + 1, r, p, fun j hj => by obtain ⟨i, rfl⟩ : ∃ i, j = i + 1 := ⟨j - 1, by omega⟩; rw [e]; exact h i (by omega)⟩
end
def Short (l : List S58) : Prop := ∀ s ∈ l, s.f0.size ≤ 1000 ∧ s.f1.size ≤ 1000
end Go.Proofs.YtgdjfcmmpjcaaaaDoor.Pure
namespace Go.Proofs.YtgdjfcmmpjcaaaaDoor.Pure
open Go Go.Proofs.YtgdjfcmmpjcaaaaDoorW.Px
set_option linter.unusedSimpArgs false
set_option linter.unusedVariables false
structure Ord3 {α : Type} (c : α → α → Int) : Prop where
  rng : ∀ a b, c a b = -1 ∨ c a b = 0 ∨ c a b = 1
  anti : ∀ a b, c b a = - c a b
  trans : ∀ a b d, c a b ≤ 0 → c b d ≤ 0 → c a d ≤ 0
section
variable {α β : Type}
theorem Ord3.self {c : α → α → Int} (h : Ord3 c) (a : α) : c a a = 0 := by have := h.anti a a; omega
theorem Ord3.eql {c : α → α → Int} (h : Ord3 c) {a b : α} (e : c a b = 0) (d : α) : c a d = c b d := by
  have h1 := h.trans b a d
  have h2 := h.trans a b d
  have h3 := h.trans d a b
  have h4 := h.trans d b a
  have e1 := h.anti a b
  have e2 := h.anti a d
  have e3 := h.anti b d
  rcases h.rng a d with r | r | r <;> rcases h.rng b d with q | q | q <;> omega
theorem Ord3.lex {c1 c2 : α → α → Int} (h1 : Ord3 c1) (h2 : Ord3 c2) : Ord3 (fun a b => if c1 a b = 0 then c2 a b else c1 a b) where
  rng a b := by
    show (if c1 a b = 0 then c2 a b else c1 a b) = -1 ∨ (if c1 a b = 0 then c2 a b else c1 a b) = 0 ∨ (if c1 a b = 0 then c2 a b else c1 a b) = 1
    split
    · exact h2.rng a b
    · exact h1.rng a b
  anti a b := by
    show (if c1 b a = 0 then c2 b a else c1 b a) = - (if c1 a b = 0 then c2 a b else c1 a b)
    have e1 := h1.anti a b
    have e2 := h2.anti a b
    by_cases z : c1 a b = 0
    · rw [if_pos z, if_pos (by omega)]; exact e2
    · rw [if_neg z, if_neg (by omega)]; exact e1
  trans a b d := by
    show (if c1 a b = 0 then c2 a b else c1 a b) ≤ 0 → (if c1 b d = 0 then c2 b d else c1 b d) ≤ 0 → (if c1 a d = 0 then c2 a d else c1 a d) ≤ 0
    intro p q
    by_cases z : c1 a b = 0
    · have e := h1.eql z d
      rw [if_pos z] at p
      by_cases y : c1 b d = 0
      · rw [if_pos y] at q
        rw [if_pos (by omega)]
        exact h2.trans a b d p q
      · rw [if_neg y] at q
        rw [if_neg (by omega)]
        omega
    · rw [if_neg z] at p
      have t := h1.trans a b d p
      have t2 := h1.trans d a b
      have t3 := h1.trans b d a
      have a1 := h1.anti a b
      have a2 := h1.anti a d
      have a3 := h1.anti b d
      have k : c1 b d ≤ 0 := by
        by_cases y : c1 b d = 0
        · omega
        · rw [if_neg y] at q; exact q
      have k2 := t k
      rw [if_neg (by omega)]
      exact k2
theorem Ord3.comap {c : β → β → Int} (h : Ord3 c) (f : α → β) : Ord3 (fun a b => c (f a) (f b)) where
  rng a b := h.rng (f a) (f b)
  anti a b := h.anti (f a) (f b)
  trans a b d := h.trans (f a) (f b) (f d)
theorem Ord3.zero : Ord3 (fun (_ _ : α) => (0 : Int)) where
  rng _ _ := Or.inr (Or.inl rfl)
  anti _ _ := rfl
  trans _ _ _ _ _ := Int.le_refl _
end
def cmpI (a b : Int) : Int := if a < b then -1 else if a > b then 1 else 0
theorem ord_int : Ord3 cmpI where
  rng a b := by unfold cmpI; split; · exact Or.inl rfl
                · split; · exact Or.inr (Or.inr rfl)
                  · exact Or.inr (Or.inl rfl)
  anti a b := by unfold cmpI; repeat' split
                 all_goals omega
  trans a b d := by unfold cmpI; intro p q; repeat' split
                    all_goals (repeat' split at p)
                    all_goals (repeat' split at q)
                    all_goals omega
theorem less_irr : ∀ a : List UInt8, Op.bytesLess a a = false
  | [] => rfl
  | a :: x => by
    have ih := less_irr x
    have h : decide (a < a) = false := decide_eq_false (fun g => by have := UInt8.lt_iff_toNat_lt.1 g; omega)
    simp only [Op.bytesLess, h, ih, Bool.and_false, Bool.or_false]
theorem less_trans : ∀ a b c : List UInt8, Op.bytesLess a b = true → Op.bytesLess b c = true → Op.bytesLess a c = true
  | [], [], _, h, _ => by simp [Op.bytesLess] at h
  | _ :: _, [], _, h, _ => by simp [Op.bytesLess] at h
  | _, _ :: _, [], _, h => by simp [Op.bytesLess] at h
  | [], _ :: _, _ :: _, _, _ => by simp [Op.bytesLess]
  | a :: x, b :: y, c :: z, h1, h2 => by
    have ih := less_trans x y z
    simp only [Op.bytesLess, Bool.or_eq_true, Bool.and_eq_true, decide_eq_true_eq, beq_iff_eq, UInt8.lt_iff_toNat_lt] at h1 h2 ⊢
    rcases h1 with h1 | ⟨rfl, h1⟩ <;> rcases h2 with h2 | ⟨rfl, h2⟩
    · exact Or.inl (by omega)
    · exact Or.inl h1
    · exact Or.inl h2
    · exact Or.inr ⟨rfl, ih h1 h2⟩
theorem less_tot : ∀ a b : List UInt8, Op.bytesLess a b = false → Op.bytesLess b a = false → a = b
  | [], [], _, _ => rfl
  | [], _ :: _, h, _ => by simp [Op.bytesLess] at h
  | _ :: _, [], _, h => by simp [Op.bytesLess] at h
  | a :: x, b :: y, h1, h2 => by
    have ih := less_tot x y
    simp only [Op.bytesLess, Bool.or_eq_false_iff, decide_eq_false_iff_not, UInt8.lt_iff_toNat_lt] at h1 h2
    obtain rfl : a = b := UInt8.toNat_inj.1 (by omega)
    simp only [beq_self_eq_true, Bool.true_and] at h1 h2
    rw [ih h1.2 h2.2]
theorem less_asym (a b : List UInt8) (h : Op.bytesLess a b = true) : Op.bytesLess b a = false := by
  rw [Bool.eq_false_iff]
  intro g
  have := less_trans a b a h g
  rw [less_irr] at this
  cases this
def cmpB (a b : List UInt8) : Int := if Op.bytesLess a b = true then -1 else if Op.bytesLess b a = true then 1 else 0
theorem cmpB_le (a b : List UInt8) : cmpB a b ≤ 0 ↔ Op.bytesLess b a = false := by
  unfold cmpB
  by_cases p : Op.bytesLess a b = true
  · rw [if_pos p]
    exact ⟨fun _ => less_asym a b p, fun _ => by omega⟩
  · rw [if_neg p]
    by_cases q : Op.bytesLess b a = true
    · rw [if_pos q, q]; simp
    · rw [if_neg q, Bool.eq_false_iff.2 q]; simp
theorem ord_bytes : Ord3 cmpB where
  rng a b := by unfold cmpB; split; · exact Or.inl rfl
                · split; · exact Or.inr (Or.inr rfl)
                  · exact Or.inr (Or.inl rfl)
  anti a b := by
    unfold cmpB
    by_cases p : Op.bytesLess a b = true
    · rw [if_pos p, less_asym a b p, if_pos p]; simp
    · rw [if_neg p]
      by_cases q : Op.bytesLess b a = true
      · simp [q, p]
      · simp [q, p]
  trans a b d := by
    rw [cmpB_le, cmpB_le, cmpB_le]
    intro p q
    rw [Bool.eq_false_iff]
    intro g
    by_cases h : Op.bytesLess a b = true
    · rw [less_trans d a b g h] at q; cases q
    · obtain rfl := less_tot a b (Bool.eq_false_iff.2 h) p
      rw [g] at q; cases q
def cmpW (a b : Wl) : Int :=
  if a.1 < b.1 then -1 else if a.1 > b.1 then 1
  else if a.1 = 8 then cmpB a.2 b.2
  else if a.1 = 9 ∨ a.1 = 10 then (if cmpI a.2.length b.2.length = 0 then cmpB a.2 b.2 else cmpI a.2.length b.2.length)
  else 0
def keyN (a : Wl) : Int := if a.1 = 9 ∨ a.1 = 10 then a.2.length else 0
def keyB (a : Wl) : List UInt8 := if a.1 = 8 ∨ a.1 = 9 ∨ a.1 = 10 then a.2 else []
theorem cmpB_nil : cmpB [] [] = 0 := by decide
theorem cmpW_key (a b : Wl) : cmpW a b = if cmpI a.1 b.1 = 0 then (if cmpI (keyN a) (keyN b) = 0 then cmpB (keyB a) (keyB b) else cmpI (keyN a) (keyN b)) else cmpI a.1 b.1 := by
  unfold cmpW
  have ci : cmpI a.1 b.1 = if a.1 < b.1 then -1 else if a.1 > b.1 then 1 else 0 := rfl
  by_cases p : a.1 < b.1
  · rw [if_pos p] at ci
    rw [if_pos p, ci]; rfl
  · by_cases q : a.1 > b.1
    · rw [if_neg p, if_pos q] at ci
      rw [if_neg p, if_pos q, ci]; rfl
    · have e : a.1 = b.1 := by omega
      rw [if_neg p, if_neg q] at ci
      rw [if_neg p, if_neg q, ci, if_pos rfl]
      unfold keyN keyB
      rw [← e]
      have z0 : cmpI 0 0 = 0 := rfl
      by_cases h8 : a.1 = 8
      · have n9 : ¬ (a.1 = 9 ∨ a.1 = 10) := by omega
        have k : a.1 = 8 ∨ a.1 = 9 ∨ a.1 = 10 := Or.inl h8
        simp only [if_pos h8, if_neg n9, if_pos k, if_pos z0]
      · by_cases h9 : a.1 = 9 ∨ a.1 = 10
        · have k : a.1 = 8 ∨ a.1 = 9 ∨ a.1 = 10 := Or.inr h9
          simp only [if_neg h8, if_pos h9, if_pos k]
        · have k : ¬ (a.1 = 8 ∨ a.1 = 9 ∨ a.1 = 10) := by omega
          simp only [if_neg h8, if_neg h9, if_neg k, if_pos z0, cmpB_nil]
theorem ord_word : Ord3 cmpW := by
  have h := (ord_int.comap (fun a : Wl => a.1)).lex ((ord_int.comap keyN).lex (ord_bytes.comap keyB))
  have e : cmpW = fun a b => if cmpI a.1 b.1 = 0 then (if cmpI (keyN a) (keyN b) = 0 then cmpB (keyB a) (keyB b) else cmpI (keyN a) (keyN b)) else cmpI a.1 b.1 := by
    funext a b; exact cmpW_key a b
  rw [e]
  exact h
def hdW : List Wl → Wl
  | [] => (6, [])
  | w :: _ => w
def cmpN : Nat → List Wl → List Wl → Int
  | 0, _, _ => 0
  | n + 1, x, y => if cmpW (hdW x) (hdW y) = 0 then cmpN n x.tail y.tail else cmpW (hdW x) (hdW y)
theorem ord_words : ∀ n, Ord3 (cmpN n)
  | 0 => Ord3.zero
  | n + 1 => (ord_word.comap hdW).lex ((ord_words n).comap List.tail)
theorem cmpN_succ (n : Nat) (x y : List Wl) : cmpN (n + 1) x y = if cmpW (hdW x) (hdW y) = 0 then cmpN n x.tail y.tail else cmpW (hdW x) (hdW y) := rfl
theorem cmpN_nil : ∀ n, cmpN n [] [] = 0
  | 0 => rfl
  | n + 1 => by
    have e : cmpW (hdW []) (hdW []) = 0 := ord_word.self _
    rw [cmpN, if_pos e]
    exact cmpN_nil n
def mostN : Nat := 100100
def cmpV (a b : List UInt8) : Int := cmpN mostN (splitL a) (splitL b)
end Go.Proofs.YtgdjfcmmpjcaaaaDoor.Pure
namespace Go.Proofs.YtgdjfcmmpjcaaaaDoor.Pure
open Go Go.RowKit Go.Proofs.YtgdjfcmmpjcaaaaDoor.Q Go.Proofs.YtgdjfcmmpjcaaaaDoorW.PrintWords Go.Proofs.YtgdjfcmmpjcaaaaDoorW.PrintLast Go.Proofs.YtgdjfcmmpjcaaaaDoorW.Own Go.Proofs.YtgdjfcmmpjcaaaaDoorW.PrintMore Go.Proofs.YtgdjfcmmpjcaaaaDoorW.Px
set_option linter.unusedSimpArgs false
set_option linter.unusedVariables false
theorem cmp_told3 (a b : List UInt8) : cmp_Compare_string.f (ts a) (ts b) = some (cmpB a b) := cmp_str a b
theorem word_cmp (x y : Wl) (k : Nat) (hk : 10 ≤ k) : order_word.f k x.1 (ts x.2) y.1 (ts y.2) = some (cmpW x y) := by
  have len : ∀ k, 9 ≤ k → order_word.j0 (k + 1) true x.1 (ts x.2) y.1 (ts y.2) = some (if cmpI x.2.length y.2.length = 0 then cmpB x.2 y.2 else cmpI x.2.length y.2.length) := by
    intro k hk
    rw [order_word.j0, if_pos rfl, cmp_int, Option.bind_some, cmp_told3, Option.bind_some, or_two _ _ _ (by omega), Option.bind_some, ts_size, ts_size]
    rfl
  unfold order_word.f cmpW
  rw [cmp_int, Option.bind_some]
  by_cases p : x.1 < y.1
  · rw [if_pos p, if_pos p, if_neg (by decide)]
  · by_cases q : x.1 > y.1
    · rw [if_neg p, if_pos q, if_neg p, if_pos q, if_neg (by decide)]
    · rw [if_neg p, if_neg q, if_neg p, if_neg q, if_pos rfl]
      by_cases e8 : x.1 = 8
      · rw [if_pos e8, if_pos e8, cmp_told3, Option.bind_some]
      · rw [if_neg e8, if_neg e8]
        obtain ⟨k, rfl⟩ : ∃ i, k = i + 1 := ⟨k - 1, by omega⟩
        by_cases e9 : x.1 = 9
        · rw [if_pos e9, show (x.1 == 9) = true from beq_iff_eq.2 e9, len k (by omega), if_pos (Or.inl e9)]
        · rw [if_neg e9]
          by_cases e10 : x.1 = 10
          · rw [show (x.1 == 10) = true from beq_iff_eq.2 e10, len k (by omega), if_pos (Or.inr e10)]
          · rw [show (x.1 == 10) = false from beq_eq_false_iff_ne.2 e10, order_word.j0, if_neg (by decide), if_neg (by rintro (h | h) <;> omega)]
theorem at_cmp (l : List Wl) (i : Nat) : order_at.f (l.map w38) (i : Int) = some (pr (hdW (l.drop i))) := by
  unfold order_at.f
  rw [List.length_map]
  by_cases h : (i : Int) < (l.length : Int)
  · have hi : i < l.length := by omega
    rw [if_pos h, if_pos (by omega), List.drop_eq_getElem_cons hi]
    unfold rd_T38
    rw [Int.toNat_natCast, List.getD_eq_getElem?_getD, List.getElem?_map, List.getElem?_eq_getElem hi]
    rfl
  · rw [if_neg h, List.drop_eq_nil_of_le (by omega)]
    rfl
theorem tail_drop (l : List Wl) (i : Nat) : (l.drop i).tail = l.drop (i + 1) := by rw [List.tail_drop]
theorem words_cmp (x y : List Wl) (hx : x.length ≤ 100100) (hy : y.length ≤ 100100) : ∀ (d i : Nat), i ≤ 100100 → x.length ≤ i + d → y.length ≤ i + d →
    Tot (fun k => order_Words.l0 k (x.map w38) (y.map w38) (i : Int)) (fun r => r = cmpN (d + 1) (x.drop i) (y.drop i)) := by
  have hm : ∀ i : Nat, (i : Int) < mx (x.length : Int) (y.length : Int) ↔ i < x.length ∨ i < y.length := by
    intro i
    unfold mx
    split <;> omega
  intro d
  induction d with
  | zero =>
    intro i hi h1 h2
    refine tot_succ ?_ (fun k => by rw [order_Words.l0])
    rw [at_cmp, at_cmp]
    simp only [Option.bind_some, pr]
    refine tot_bind (tot_ge 10 (fun k hk => word_cmp (hdW (x.drop i)) (hdW (y.drop i)) k hk)) (fun r hr => ?_)
    subst hr
    have nb : ¬ wrap64 ((i : Int) + 1) < mx ((x.map w38).length : Int) ((y.map w38).length : Int) := by
      rw [List.length_map, List.length_map, next_of i (by omega), hm]; omega
    refine tot_if (fun z => tot_if (fun h => absurd h nb) (fun _ => tot_some ?_)) (fun z => tot_some ?_)
    · rw [cmpN_succ, if_pos z, z]; rfl
    · rw [cmpN_succ, if_neg z]
  | succ d ih =>
    intro i hi h1 h2
    refine tot_succ ?_ (fun k => by rw [order_Words.l0])
    rw [at_cmp, at_cmp]
    simp only [Option.bind_some, pr]
    refine tot_bind (tot_ge 10 (fun k hk => word_cmp (hdW (x.drop i)) (hdW (y.drop i)) k hk)) (fun r hr => ?_)
    subst hr
    rw [List.length_map, List.length_map, next_of i (by omega)]
    refine tot_if (fun z => tot_if (fun h => ?_) (fun h => tot_some ?_)) (fun z => tot_some ?_)
    · have hb := (hm _).1 h
      refine tot_imp (ih (i + 1) (by omega) (by omega) (by omega)) (fun r hr => ?_)
      rw [hr, cmpN_succ (d + 1), if_pos z, tail_drop, tail_drop]
    · rw [hm] at h
      rw [cmpN_succ (d + 1), if_pos z, tail_drop, tail_drop, List.drop_eq_nil_of_le (show x.length ≤ i + 1 by omega), List.drop_eq_nil_of_le (show y.length ≤ i + 1 by omega), cmpN_nil, z]
    · rw [cmpN_succ (d + 1), if_neg z]
theorem compare_cmp (a b : List UInt8) (ha : a.length ≤ 100000) (hb : b.length ≤ 100000) : Tot (fun k => order_Compare.f k (ts a) (ts b)) (fun r => r = cmpV a b) := by
  have sa := splitL_len a
  have sb := splitL_len b
  unfold order_Compare.f order_Words.f
  refine tot_bind (tot_ge 400000 (fun k hk => split_told a ha k (by omega))) (fun x hx => ?_)
  subst hx
  refine tot_bind (tot_ge 400000 (fun k hk => split_told b hb k (by omega))) (fun y hy => ?_)
  subst hy
  refine tot_bind (words_cmp (splitL a) (splitL b) (by omega) (by omega) 100099 0 (by omega) (by omega) (by omega)) (fun r hr => tot_some ?_)
  rw [hr, List.drop_zero, List.drop_zero]
  rfl
abbrev lo8 (s : S58) : List UInt8 := s.f0.data.toList
abbrev hi8 (s : S58) : List UInt8 := s.f1.data.toList
def boundB (v : List UInt8) (i : Bool) : Bool := if rightB v = true then true else if v = [] then !i else false
def mayB (lo hi : List UInt8) (il ih : Bool) : Bool :=
  if boundB lo il = true then (if boundB hi ih = true then (if lo = [] then true else if hi = [] then true else if cmpV lo hi < 0 then true else if cmpV lo hi = 0 then (if il = true then ih else false) else false) else false) else false
def mayS (s : S58) : Bool := mayB (lo8 s) (hi8 s) s.f2 s.f3
def behindB (ah bl : List UInt8) (aih bil : Bool) : Bool := if ah = [] then false else if bl = [] then false else if cmpV ah bl < 0 then true else if cmpV ah bl = 0 then (if aih = true then !bil else true) else false
def lowB2 (lo : List UInt8) (il : Bool) (v : List UInt8) : Bool := if lo = [] then true else if cmpV v lo < 0 then false else if cmpV v lo = 0 then il else true
def highB (hi : List UInt8) (ih : Bool) (v : List UInt8) : Bool := if hi = [] then true else if cmpV v hi > 0 then false else if cmpV v hi = 0 then ih else true
def holdsS (s : S58) (v : List UInt8) : Bool := lowB2 (lo8 s) s.f2 v && highB (hi8 s) s.f3 v
def rangeB (l : List S58) (v : List UInt8) : Bool := l.any fun s => holdsS s v
theorem holds_cmp (s : S58) (v : List UInt8) (hl : (lo8 s).length ≤ 100000) (hh : (hi8 s).length ≤ 100000) (hv : v.length ≤ 100000) : Tot (fun k => span_holds.f k s.f0 s.f1 s.f2 s.f3 (ts v)) (fun r => r = holdsS s v) := by
  obtain ⟨f0, f1, il, ih⟩ := s
  unfold holdsS lowB2 highB
  unfold lo8 at hl ⊢
  unfold hi8 at hh ⊢
  dsimp only at hl hh ⊢
  obtain ⟨lo, rfl⟩ : ∃ l, f0 = ts l := ⟨_, (ts_data f0).symm⟩
  obtain ⟨hi, rfl⟩ : ∃ l, f1 = ts l := ⟨_, (ts_data f1).symm⟩
  rw [ts_list] at hl hh ⊢
  rw [ts_list]
  have j : Tot (fun k => span_holds.j0 k (ts v) (ts lo) (ts hi) il ih) (fun r => r = if hi = [] then true else if cmpV v hi > 0 then false else if cmpV v hi = 0 then ih else true) := by
    refine tot_succ ?_ (fun k => by rw [span_holds.j0])
    rw [ts_toList]
    refine tot_if (fun e => tot_some (by rw [if_pos e])) (fun e => tot_bind (compare_cmp v hi hv hh) (fun c hc => ?_))
    subst hc
    rw [if_neg e]
    refine tot_if (fun a => tot_some (by rw [if_pos a])) (fun a => tot_if (fun z => tot_if (fun y => tot_some (by rw [if_neg a, if_pos z, y])) (fun y => tot_some (by rw [if_neg a, if_pos z, Bool.eq_false_iff.2 y]))) (fun z => tot_some (by rw [if_neg a, if_neg z])))
  unfold span_holds.f
  rw [ts_toList]
  refine tot_if (fun e => tot_imp j (fun r hr => by rw [hr, if_pos e, Bool.true_and])) (fun e => tot_bind (compare_cmp v lo hv hl) (fun c hc => ?_))
  subst hc
  rw [if_neg e]
  refine tot_if (fun a => tot_some (by rw [if_pos a, Bool.false_and])) (fun a => tot_if (fun z => tot_if (fun y => tot_imp j (fun r hr => by rw [hr, if_neg a, if_pos z, y, Bool.true_and])) (fun y => tot_some (by rw [if_neg a, if_pos z, Bool.eq_false_iff.2 y, Bool.false_and]))) (fun z => tot_imp j (fun r hr => by rw [hr, if_neg a, if_neg z, Bool.true_and])))
def Mid (l : List S58) : Prop := ∀ s ∈ l, s.f0.size ≤ 100000 ∧ s.f1.size ≤ 100000
theorem rd_span (l : List S58) (i : Nat) (h : i < l.length) : rd_T58 l (i : Int) = l[i] := by
  unfold rd_T58
  rw [Int.toNat_natCast, List.getD_eq_getElem?_getD, List.getElem?_eq_getElem h]; rfl
theorem range_cmp (l : List S58) (v : List UInt8) (hm : Mid l) (hn : l.length ≤ 100000) (hv : v.length ≤ 100000) : Tot (fun k => span_Holds.f k l (ts v)) (fun r => r = rangeB l v) := by
  have loop : ∀ (d i : Nat), i + d = l.length → Tot (fun k => span_Holds.l0 k l (ts v) (i : Int)) (fun r => decide (r ≥ 0) = rangeB (l.drop i) v) := by
    intro d
    induction d with
    | zero =>
      intro i h
      refine tot_succ ?_ (fun k => by rw [span_Holds.l0])
      refine tot_if (fun g => by omega) (fun _ => tot_some ?_)
      rw [List.drop_eq_nil_of_le (by omega)]; rfl
    | succ d ihd =>
      intro i h
      have hi : i < l.length := by omega
      have sh := hm l[i] (List.getElem_mem hi)
      rw [ba_size, ba_size] at sh
      refine tot_succ ?_ (fun k => by rw [span_Holds.l0])
      refine tot_if (fun _ => tot_guard (by omega) ?_) (fun g => by omega)
      rw [rd_span l i hi, next_of i (by omega)]
      unfold span_Holds.one
      have e : rangeB (l.drop i) v = (holdsS l[i] v || rangeB (l.drop (i + 1)) v) := by
        rw [List.drop_eq_getElem_cons hi]; rfl
      refine tot_bind (holds_cmp l[i] v sh.1 sh.2 hv) (fun r hr => ?_)
      subst hr
      refine tot_if (fun h => tot_some ?_) (fun h => tot_imp (ihd (i + 1) (by omega)) (fun r hr => ?_))
      · rw [e, h, Bool.true_or, decide_eq_true (by omega)]
      · rw [hr, e, Bool.eq_false_iff.2 h, Bool.false_or]
  unfold span_Holds.f
  refine tot_bind (loop l.length 0 (by omega)) (fun r hr => tot_some ?_)
  rw [hr, List.drop_zero]
theorem ref_parts_loop (v : List UInt8) (hv : v.length ≤ 1000000) : ∀ (d i k : Nat) (r : List Pt × Pt), i + d = v.length → r.1.length ≤ i → r.2.tx.length ≤ i →
    newelref05_parts.l0 (k + d + 1) (ts v) ((allP r).map p98) (i : Int) = some ((allP (runP r (v.drop i))).map p98) := by
  intro d
  induction d with
  | zero =>
    intro i k r h _ _
    rw [newelref05_parts.l0, if_neg (by rw [ts_size]; omega), List.drop_eq_nil_of_le (by omega)]
    rfl
  | succ d ih =>
    intro i k r h h1 h2
    have hi : i < v.length := by omega
    have q0 : (i : Int) < ((ts v).size : Int) := by rw [ts_size]; omega
    have hl := all_len p98 r
    have hx : wrap64 ((((allP r).map p98).length : Int) - 1) = (r.1.length : Int) := by rw [hl]; exact last_of _ (by omega)
    have q1 : (0 : Int) ≤ (r.1.length : Int) := by omega
    have q2 : (r.1.length : Int) < (((allP r).map p98).length : Int) := by rw [hl]; omega
    have q3 : (0 : Int) ≤ (i : Int) := by omega
    have q4 : ((allP r).map p98).length < 5864062014805 := by rw [hl]; omega
    have q5 : (i : Int) ≤ ((i + 1 : Nat) : Int) := by omega
    have q6 : ((i + 1 : Nat) : Int) ≤ ((ts v).size : Int) := by rw [ts_size]; omega
    have hn := next_of i (by omega)
    have hr : rd_T98 ((allP r).map p98) (r.1.length : Int) = p98 r.2 := all_getD p98 r _
    have hb := bt_nat v i hi
    have step : ∀ r', stepP r v[i] = r' → r'.1.length ≤ i + 1 → r'.2.tx.length ≤ i + 1 → newelref05_parts.l0 (k + d + 1) (ts v) ((allP r').map p98) ((i + 1 : Nat) : Int) = some ((allP (runP r (v.drop i))).map p98) := by
      intro r' e a b
      rw [ih (i + 1) k r' (by omega) a b, runP_drop r v i hi, e]
    rw [show k + (d + 1) + 1 = (k + d + 1) + 1 from by omega, newelref05_parts.l0, if_pos q0, hx, if_pos q1, if_pos q2, if_pos q3, hr, hb, hn]
    generalize hc : v[i] = c at *
    by_cases c1 : c = 46
    · rw [if_pos (by rw [c1]; rfl), if_pos q4, all_add p98 r ⟨[], c == 45, false⟩ _ (by rw [c1]; rfl)]
      exact step _ (stepP_sep r c (Or.inl c1)) (by simp; omega) (by simp)
    · rw [if_neg (by rw [show (46 : Int) = ((46 : Nat) : Int) from rfl, beq_toNat c 46 (by omega)]; exact c1)]
      by_cases c2 : c = 45
      · rw [if_pos (by rw [c2]; rfl), if_pos q4, all_add p98 r ⟨[], c == 45, false⟩ _ (by rw [c2]; rfl)]
        exact step _ (stepP_sep r c (Or.inr c2)) (by simp; omega) (by simp)
      · rw [if_neg (by rw [show (45 : Int) = ((45 : Nat) : Int) from rfl, beq_toNat c 45 (by omega)]; exact c2)]
        have nc : ¬ (c = 46 ∨ c = 45) := by rintro (h | h); exact c1 h; exact c2 h
        have e1 : (ts v).extract ((i : Nat) : Int).toNat ((i + 1 : Nat) : Int).toNat = ts [c] := by rw [byte_at v i hi, hc]
        have q7 : (p98 r.2).f0.size + (ts [c]).size ≤ 9223372036854775807 := by show (ts r.2.tx).size + (ts [c]).size ≤ _; rw [ts_size, ts_size]; simp; omega
        have same : likeP r.2.tx c = true → (if (p98 r.2).f0.size + ((ts v).extract ((i : Nat) : Int).toNat ((i + 1 : Nat) : Int).toNat).size ≤ 9223372036854775807 then (newelref05_parts.l0 (k + d + 1) (ts v) (((allP r).map p98).set ((r.1.length : Int)).toNat (⟨(p98 r.2).f0 ++ ((ts v).extract ((i : Nat) : Int).toNat ((i + 1 : Nat) : Int).toNat), (p98 r.2).f1, (p98 r.2).f2⟩ : S98)) ((i + 1 : Nat) : Int)) else none) = some ((allP (runP r (v.drop i))).map p98) := by
          intro lk
          rw [e1, if_pos q7, all_put p98 r ⟨r.2.tx ++ [c], r.2.da, r.2.nu⟩ _ (by unfold p98; rw [ts_append])]
          exact step _ (stepP_like r c nc lk) (by simp; omega) (by simp; omega)
        by_cases z : r.2.tx = []
        · have z' : (p98 r.2).f0.toList = ([] : List UInt8) := by show (ts r.2.tx).toList = []; rw [ts_toList]; exact z
          rw [if_pos z', if_pos q5, if_pos q6]
          exact same (by rw [z]; rfl)
        · have z' : ¬ (p98 r.2).f0.toList = ([] : List UInt8) := by show ¬ (ts r.2.tx).toList = []; rw [ts_toList]; exact z
          have zl : 0 < r.2.tx.length := List.length_pos_iff.2 z
          obtain ⟨n, hn'⟩ : ∃ n, r.2.tx.length = n + 1 := ⟨r.2.tx.length - 1, by omega⟩
          have hs : ((p98 r.2).f0.size : Int) = ((n + 1 : Nat) : Int) := by show ((ts r.2.tx).size : Int) = _; rw [ts_size, hn']
          have ht : bt (p98 r.2).f0 ((n : Nat) : Int) = (((r.2.tx.getLast z).toNat : Nat) : Int) := by
            show bt (ts r.2.tx) _ = _
            rw [bt_nat _ n (by omega), List.getLast_eq_getElem]
            congr 3
            omega
          rw [if_neg z', hs, last_of n (by omega), if_pos (by omega), if_pos (by omega), ht, digit_ref, Option.bind_some, digit_ref, Option.bind_some]
          by_cases e : isD (r.2.tx.getLast z) = isD c
          · rw [if_neg (by rw [e]; simp), if_pos q5, if_pos q6]
            exact same (by rw [like_last _ _ z, e]; simp)
          · rw [if_pos (by simpa using e), Option.bind_some, Option.bind_some]
            have ea : ((allP r).map p98).set ((r.1.length : Int)).toNat (⟨(p98 r.2).f0, (p98 r.2).f1, isD c⟩ : S98) = (allP (r.1, ⟨r.2.tx, r.2.da, isD c⟩)).map p98 := all_put p98 r _ _ rfl
            rw [ea]
            have la := all_len p98 (r.1, ⟨r.2.tx, r.2.da, isD c⟩)
            have q8 : ((allP (r.1, ⟨r.2.tx, r.2.da, isD c⟩)).map p98).length < 5864062014805 := by rw [la]; simp; omega
            rw [if_pos q8, Option.bind_some, all_add p98 (r.1, ⟨r.2.tx, r.2.da, isD c⟩) ⟨[], true, false⟩ (⟨(⟨#[]⟩ : ByteArray), true, false⟩ : S98) rfl]
            generalize hR : ((r.1 ++ [(⟨r.2.tx, r.2.da, isD c⟩ : Pt)], (⟨[], true, false⟩ : Pt)) : List Pt × Pt) = R
            have R1 : R.1 = r.1 ++ [(⟨r.2.tx, r.2.da, isD c⟩ : Pt)] := by rw [← hR]
            have R2 : R.2 = ⟨[], true, false⟩ := by rw [← hR]
            have Rl : R.1.length = r.1.length + 1 := by rw [R1]; simp
            have lR := all_len p98 R
            have hxR : wrap64 ((((allP R).map p98).length : Int) - 1) = (R.1.length : Int) := by rw [lR]; exact last_of _ (by omega)
            have hrR : rd_T98 ((allP R).map p98) (R.1.length : Int) = p98 R.2 := all_getD p98 R _
            rw [hxR, if_pos (by omega), if_pos (by rw [lR]; omega), if_pos q5, if_pos q6, hrR, e1]
            have q9 : (p98 R.2).f0.size + (ts [c]).size ≤ 9223372036854775807 := by rw [R2]; show (ts []).size + (ts [c]).size ≤ _; rw [ts_size, ts_size]; simp
            rw [if_pos q9, all_put p98 R ⟨[c], true, false⟩ _ (by rw [R2]; unfold p98; rw [ts_append]; rfl)]
            exact step (R.1, ⟨[c], true, false⟩) (by rw [stepP_new r c nc (by rw [like_last _ _ z]; simpa using e), R1]) (by simp; omega) (by simp)
theorem ref_parts_told (v : List UInt8) (hv : v.length ≤ 1000000) (k : Nat) (hk : v.length + 1 ≤ k) : newelref05_parts.f k (ts v) = some ((partsL v).map p98) := by
  have := ref_parts_loop v hv v.length 0 (k - v.length - 1) p0 (by omega) (by simp [p0]) (by simp [p0])
  rw [show k - v.length - 1 + v.length + 1 = k from by omega] at this
  exact this
theorem number_loop (da nu : Bool) (o : ByteArray) : ∀ (t : List UInt8) (k : Nat), newelref05_number.l0 (k + t.length + 2) (ts t) o da nu = some (pr (numL t da)) := by
  have e : ∀ (t : List UInt8) (k : Nat), newelref05_number.j1 (k + 1) (ts t) o da nu = if t = [] then some (pr (6, [])) else if da = true then some (pr (9, t)) else some (pr (10, t)) := by
    intro t k
    rw [newelref05_number.j1, ts_toList]; rfl
  intro t
  induction t with
  | nil => intro k; rw [show k + ([] : List UInt8).length + 2 = k + 1 + 1 from rfl, newelref05_number.l0, if_neg (by decide), e, if_pos rfl]; rfl
  | cons c t ih =>
    intro k
    have hb : bt (ts (c :: t)) 0 = (c.toNat : Int) := bt_nat (c :: t) 0 (by simp)
    have hz : ((ts (c :: t)).size : Int) > 0 := by rw [ts_size, List.length_cons]; omega
    rw [show k + (c :: t).length + 2 = (k + t.length + 2) + 1 from by simp; omega, newelref05_number.l0, if_pos hz, if_pos hz, hb]
    by_cases h : c = 48
    · rw [if_pos (by rw [h]; rfl), if_pos (by omega)]
      have : (ts (c :: t)).extract 1 (ts (c :: t)).size = ts t := by
        apply ba_ext
        rw [ba_extract, ts_list, ts_list, ts_size, List.take_length]; rfl
      rw [this, ih]
      have hd : (c :: t).dropWhile (· == 48) = t.dropWhile (· == 48) := by rw [List.dropWhile_cons, if_pos (by rw [h]; rfl)]
      unfold numL
      rw [hd]
    · rw [if_neg (by rw [show (48 : Int) = ((48 : Nat) : Int) from rfl, beq_toNat c 48 (by omega)]; exact h), e, if_neg (List.cons_ne_nil c t)]
      unfold numL
      have hd : (c :: t).dropWhile (· == 48) = c :: t := by rw [List.dropWhile_cons, if_neg (by simpa using h)]
      rw [hd, if_neg (List.cons_ne_nil c t)]
      by_cases d : da = true
      · rw [if_pos d, if_pos d]
      · rw [if_neg d, if_neg d]
theorem ref_word_told (p : Pt) (k : Nat) (hk : p.tx.length + 10 ≤ k) : newelref05_word.f k (p98 p).f0 (p98 p).f1 (p98 p).f2 = some (pr (wordL p)) := by
  obtain ⟨t, da, nu⟩ := p
  obtain ⟨j, rfl⟩ : ∃ j, k = j + 1 + 1 + 1 + 1 := ⟨k - 4, by omega⟩
  show newelref05_word.f (j + 1 + 1 + 1 + 1) (ts t) da nu = _
  have nums : newelref05_word.j0 (j + 1 + 1 + 1 + 1) true (ts t) da nu = some (pr (numL t da)) := by
    have := number_loop da nu (ts t) t (j + 1 + 1 + 1 - (t.length + 2))
    rw [show j + 1 + 1 + 1 - (t.length + 2) + t.length + 2 = j + 1 + 1 + 1 from by dsimp only at hk; omega] at this
    rw [newelref05_word.j0, if_pos rfl]
    unfold newelref05_number.f
    rw [this]; rfl
  have j3 : ∀ (i : Nat) (n : Int), newelref05_word.j3 (i + 1) n (ts t) da nu = some (pr (if nu = true ∧ t = [97] then (1, []) else if nu = true ∧ t = [98] then (2, []) else if nu = true ∧ t = [109] then (3, []) else if n = 8 then (n, t) else (n, []))) := by
    intro i n
    rw [newelref05_word.j3, ts_toList]
    by_cases hn : nu = true
    · rw [if_pos hn]
      simp only [hn, true_and]
      by_cases h1 : t = [97]
      · rw [if_pos h1, if_pos h1]; rfl
      · rw [if_neg h1, if_neg h1]
        by_cases h2 : t = [98]
        · rw [if_pos h2, if_pos h2]; rfl
        · rw [if_neg h2, if_neg h2]
          by_cases h3 : t = [109]
          · rw [if_pos h3, if_pos h3]; rfl
          · rw [if_neg h3, if_neg h3]
            by_cases h8 : n = 8
            · rw [if_pos h8, if_pos h8]; rfl
            · rw [if_neg h8, if_neg h8]; rfl
    · have na : ∀ c, ¬ (nu = true ∧ t = c) := fun c h => hn h.1
      rw [if_neg hn, if_neg (na [97]), if_neg (na [98]), if_neg (na [109])]
      by_cases h8 : n = 8
      · rw [if_pos h8, if_pos h8]; rfl
      · rw [if_neg h8, if_neg h8]; rfl
  have lets : newelref05_word.j0 (j + 1 + 1 + 1 + 1) false (ts t) da nu = some (pr (letL t nu)) := by
    by_cases hx : nu = true ∧ (t = [97] ∨ t = [98] ∨ t = [109])
    · obtain ⟨hn, hx⟩ := hx
      subst hn
      rw [newelref05_word.j0, ts_toList, if_neg (by simp)]
      rcases hx with rfl | rfl | rfl
      · rw [if_neg (by decide), if_neg (by decide), if_neg (by decide), if_neg (by decide), newelref05_word.j1, ts_toList, if_neg (by decide), if_neg (by decide), if_neg (by decide), if_neg (by decide), newelref05_word.j2, ts_toList, if_neg (by decide), if_neg (by decide), j3]; rfl
      · rw [if_neg (by decide), if_neg (by decide), if_neg (by decide), if_neg (by decide), newelref05_word.j1, ts_toList, if_neg (by decide), if_neg (by decide), if_neg (by decide), if_neg (by decide), newelref05_word.j2, ts_toList, if_neg (by decide), if_neg (by decide), j3]; rfl
      · rw [if_neg (by decide), if_neg (by decide), if_neg (by decide), if_neg (by decide), newelref05_word.j1, ts_toList, if_neg (by decide), if_neg (by decide), if_neg (by decide), if_neg (by decide), newelref05_word.j2, ts_toList, if_neg (by decide), if_neg (by decide), j3]; rfl
    · have ka : ∀ c, (c = [97] ∨ c = [98] ∨ c = [109]) → (nu = true ∧ t = c) = False := by
        intro c hc
        apply eq_false
        rintro ⟨h1, h2⟩
        exact hx ⟨h1, h2 ▸ hc⟩
      simp only [ka [97] (by simp), ka [98] (by simp), ka [109] (by simp), if_false] at j3
      unfold letL
      rw [kindL_plain t nu ka, newelref05_word.j0, ts_toList, if_neg (by simp)]
      by_cases h1 : t = tA
      · rw [if_pos h1, if_pos h1, j3]; rfl
      · rw [if_neg h1, if_neg h1]
        by_cases h2 : t = tB
        · rw [if_pos h2, if_pos h2, j3]; rfl
        · rw [if_neg h2, if_neg h2]
          by_cases h3 : t = tM
          · rw [if_pos h3, if_pos h3, j3]; rfl
          · rw [if_neg h3, if_neg h3]
            have j2 : ∀ b, (¬ b = true → ¬ (t = tGa ∨ t = tFi ∨ t = tRe)) → (b = true → (t = tGa ∨ t = tFi ∨ t = tRe)) → newelref05_word.j2 (j + 1 + 1) 8 (ts t) b (ts t) da nu = some (pr (if (if t = tGa ∨ t = tFi ∨ t = tRe then (6 : Int) else if t = tSp then 7 else 8) = 8 then (8, t) else ((if t = tGa ∨ t = tFi ∨ t = tRe then (6 : Int) else if t = tSp then 7 else 8), []))) := by
              intro b hb1 hb2
              rw [newelref05_word.j2, ts_toList]
              by_cases hb : b = true
              · rw [if_pos hb, if_pos (hb2 hb), j3]; rfl
              · rw [if_neg hb, if_neg (hb1 hb)]
                by_cases h7 : t = tSp
                · rw [if_pos h7, if_pos h7, j3]; rfl
                · rw [if_neg h7, if_neg h7, j3]
            have j1 : ∀ b, (¬ b = true → ¬ (t = tRc ∨ t = tCr)) → (b = true → (t = tRc ∨ t = tCr)) → newelref05_word.j1 (j + 1 + 1 + 1) 8 (ts t) b (ts t) da nu = some (pr (if (if t = tRc ∨ t = tCr then (4 : Int) else if t = tS then 5 else if t = tGa ∨ t = tFi ∨ t = tRe then (6 : Int) else if t = tSp then 7 else 8) = 8 then (8, t) else ((if t = tRc ∨ t = tCr then (4 : Int) else if t = tS then 5 else if t = tGa ∨ t = tFi ∨ t = tRe then (6 : Int) else if t = tSp then 7 else 8), []))) := by
              intro b hb1 hb2
              rw [newelref05_word.j1, ts_toList]
              by_cases hb : b = true
              · rw [if_pos hb, if_pos (hb2 hb), j3]; rfl
              · rw [if_neg hb, if_neg (hb1 hb)]
                by_cases h5 : t = tS
                · rw [if_pos h5, if_pos h5, j3]; rfl
                · rw [if_neg h5, if_neg h5]
                  by_cases h6 : t = tGa
                  · rw [if_pos h6]; exact j2 _ (fun h => absurd (by rw [show t = [103, 97] from h6]; rfl) h) (fun _ => Or.inl h6)
                  · rw [if_neg h6]
                    by_cases h8 : t = tFi
                    · rw [if_pos h8]; exact j2 _ (fun h => absurd (by rw [show t = [102, 105, 110, 97, 108] from h8]; rfl) h) (fun _ => Or.inr (Or.inl h8))
                    · rw [if_neg h8]
                      refine j2 _ ?_ ?_
                      · rintro h (g | g | g)
                        · exact h6 g
                        · exact h8 g
                        · exact h (by rw [show t = [114, 101, 108, 101, 97, 115, 101] from g]; rfl)
                      · intro h; exact Or.inr (Or.inr (beq_iff_eq.1 h))
            by_cases h4 : t = tRc
            · rw [if_pos h4]; exact j1 _ (fun h => absurd (by rw [show t = [114, 99] from h4]; rfl) h) (fun _ => Or.inl h4)
            · rw [if_neg h4]
              refine j1 _ ?_ ?_
              · rintro h (g | g)
                · exact h4 g
                · exact h (by rw [show t = [99, 114] from g]; rfl)
              · intro h; exact Or.inr (beq_iff_eq.1 h)
  unfold newelref05_word.f wordL
  rw [ts_toList]
  cases t with
  | nil => rw [if_pos rfl, nums]; rfl
  | cons c t =>
    have hb : bt (ts (c :: t)) 0 = (c.toNat : Int) := bt_nat (c :: t) 0 (by simp)
    rw [if_neg (by simp), if_pos (by rw [ts_size, List.length_cons]; omega), hb, digit_ref, Option.bind_some]
    show _ = some (pr (if isD c = true then numL (c :: t) da else letL (c :: t) nu))
    by_cases d : isD c = true
    · rw [if_pos d, d]; exact nums
    · rw [if_neg d, Bool.eq_false_iff.2 d]; exact lets
theorem lower_loop (v : List UInt8) (hv : v.length ≤ 1000000) : ∀ (d i k : Nat), i + d = v.length → newelref01_Lower.l0 (k + d + 1) (ts v) ((v.take i).map fun c => toN (lowB c)) (i : Int) = some (ts (v.map lowB)) := by
  intro d
  induction d with
  | zero =>
    intro i k h
    rw [newelref01_Lower.l0, if_neg (by rw [ts_size]; omega), List.take_of_length_le (by omega), ← nums_ts, List.map_map]
    rfl
  | succ d ih =>
    intro i k h
    have hi : i < v.length := by omega
    have q0 : (i : Int) < ((ts v).size : Int) := by rw [ts_size]; omega
    have q1 : (0 : Int) ≤ (i : Int) := by omega
    have q2 : ((v.take i).map fun c => toN (lowB c)).length < 140737488355328 := by rw [List.length_map, List.length_take]; omega
    have hb := bt_nat v i hi
    have hn := next_of i (by omega)
    have step : newelref01_Lower.l0 (k + d + 1) (ts v) (((v.take i).map fun c => toN (lowB c)) ++ [toN (lowB v[i])]) ((i + 1 : Nat) : Int) = some (ts (v.map lowB)) := by
      have := ih (i + 1) k (by omega)
      rw [List.take_succ_eq_append_getElem hi, List.map_append] at this
      exact this
    have ln := low_num v[i]
    have lt := (v[i]).toNat_lt
    rw [show k + (d + 1) + 1 = (k + d + 1) + 1 from by omega, newelref01_Lower.l0, if_pos q0, if_pos q1, hb, hn]
    by_cases a : ((v[i].toNat : Nat) : Int) ≥ 65
    · rw [if_pos a]
      by_cases b : ((v[i].toNat : Nat) : Int) ≤ 90
      · rw [if_pos b, if_pos q2]
        rw [if_pos ⟨a, b⟩] at ln
        rw [show (((v[i].toNat : Nat) : Int) + 32) % 256 = ((v[i].toNat : Nat) : Int) + 32 from by omega, ln]
        exact step
      · rw [if_neg b, if_pos q2]
        rw [if_neg (fun h => b h.2)] at ln
        rw [ln]; exact step
    · rw [if_neg a, if_pos q2]
      rw [if_neg (fun h => a h.1)] at ln
      rw [ln]; exact step
theorem ref_lower_told (v : List UInt8) (hv : v.length ≤ 1000000) (k : Nat) (hk : v.length + 1 ≤ k) : newelref01_Lower.f k (ts v) = some (ts (v.map lowB)) := by
  have := lower_loop v hv v.length 0 (k - v.length - 1) (by omega)
  rw [show k - v.length - 1 + v.length + 1 = k from by omega] at this
  exact this
theorem ref_split_loop (l : List Pt) (M : Nat) (hM : ∀ p ∈ l, p.tx.length ≤ M) (hl : l.length ≤ 1000000) : ∀ (n : Nat) (out : List Wl) (k : Nat), n ≤ l.length → out.length + n ≤ 1000000 → M + 10 ≤ k →
    newelref05_Split.l0 (k + n + 1) (l.map p98) (out.map w38) ((n : Int) - 1) = some ((((l.take n).map wordL).foldr pushL out).map w38) := by
  intro n
  induction n with
  | zero =>
    intro out k _ _ _
    rw [newelref05_Split.l0, if_neg (by omega)]
    rfl
  | succ n ih =>
    intro out k h hs hk
    have hn : n < l.length := by omega
    have hx : (((n + 1 : Nat) : Int) - 1) = (n : Int) := by omega
    have hy : wrap64 ((n : Int) - 1) = (n : Int) - 1 := by unfold wrap64; omega
    have hm : (l.map p98).length = l.length := by simp
    have hr : rd_T98 (l.map p98) (n : Int) = p98 l[n] := by
      unfold rd_T98
      rw [Int.toNat_natCast, List.getD_eq_getElem?_getD, List.getElem?_map, List.getElem?_eq_getElem hn]
      rfl
    have fold : (((l.take (n + 1)).map wordL).foldr pushL out) = ((l.take n).map wordL).foldr pushL (pushL (wordL l[n]) out) := by
      rw [List.take_succ_eq_append_getElem hn, List.map_append, List.foldr_append]; rfl
    have hlen : (out.map w38).length = out.length := by simp
    have add : ¬ ((wordL l[n]).1 = 6 ∧ aheadL out = false) → ((some (([(⟨(pr (wordL l[n])).1, (pr (wordL l[n])).2⟩ : S38)] : List (S38)) : List (S38))).bind fun y => (if y.length + (out.map w38).length < 5864062014805 then (newelref05_Split.l0 (k + n + 1) (l.map p98) (y ++ out.map w38) ((n : Int) - 1)) else (none))) = some ((((l.take (n + 1)).map wordL).foldr pushL out).map w38) := by
      intro hp
      rw [Option.bind_some, if_pos (by rw [hlen]; simp; omega)]
      have := ih (wordL l[n] :: out) k (by omega) (by simp; omega) hk
      rw [fold, push_add _ _ hp, ← this]
      rfl
    have skip : (wordL l[n]).1 = 6 → aheadL out = false → newelref05_Split.l0 (k + n + 1) (l.map p98) (out.map w38) ((n : Int) - 1) = some ((((l.take (n + 1)).map wordL).foldr pushL out).map w38) := by
      intro h1 h2
      rw [ih out k (by omega) (by omega) hk, fold, push_skip _ _ h1 h2]
    rw [show k + (n + 1) + 1 = (k + n + 1) + 1 from by omega, newelref05_Split.l0, hx, if_pos (by omega), if_pos (by omega), if_pos (by rw [hm]; omega), hr, ref_word_told l[n] _ (by have := hM l[n] (List.getElem_mem hn); omega), Option.bind_some, hy]
    cases out with
    | nil =>
      rw [if_neg (by simp)]
      by_cases h6 : (pr (wordL l[n])).1 = 6
      · rw [if_pos h6]; exact skip h6 rfl
      · rw [if_neg h6]; exact add (fun h => h6 h.1)
    | cons o os =>
      have ho : ((o :: os).map w38).length = os.length + 1 := by simp
      have hz : rd_T38 ((o :: os).map w38) 0 = w38 o := rfl
      rw [if_pos (by rw [ho]; omega), if_pos (by rw [ho]; omega), hz]
      by_cases a6 : (w38 o).f0 = 6
      · rw [if_pos a6]
        have := add (fun h => ((ahead_cons o os).1 h.2).1 a6)
        by_cases h6 : (pr (wordL l[n])).1 = 6
        · rw [if_pos h6]; exact this
        · rw [if_neg h6]; exact this
      · rw [if_neg a6]
        by_cases h6 : (pr (wordL l[n])).1 = 6
        · rw [if_pos h6]
          by_cases a10 : (w38 o).f0 = 10
          · rw [if_pos a10]; exact add (fun h => ((ahead_cons o os).1 h.2).2 a10)
          · rw [if_neg a10]; exact skip h6 ((ahead_cons o os).2 ⟨a6, a10⟩)
        · rw [if_neg h6]; exact add (fun h => h6 h.1)
theorem ref_split_told (v : List UInt8) (hv : v.length ≤ 100000) (k : Nat) (hk : 3 * v.length + 40 ≤ k) : newelref05_Split.f k (ts v) = some ((splitL v).map w38) := by
  have hB := partsL_B (v.map lowB)
  rw [List.length_map] at hB
  unfold newelref05_Split.f
  rw [ref_lower_told v (by omega) k (by omega), Option.bind_some, ref_parts_told _ (by rw [List.length_map]; omega) k (by rw [List.length_map]; omega), Option.bind_some]
  have := ref_split_loop (partsL (v.map lowB)) v.length hB.1 (by omega) (partsL (v.map lowB)).length [] (k - (partsL (v.map lowB)).length - 1) (Nat.le_refl _) (by simp; omega) (by omega)
  rw [show k - (partsL (v.map lowB)).length - 1 + (partsL (v.map lowB)).length + 1 = k from by omega, List.take_length] at this
  rw [List.length_map, show wrap64 (((partsL (v.map lowB)).length : Int) - 1) = ((partsL (v.map lowB)).length : Int) - 1 from by unfold wrap64; omega]
  exact this
theorem ref_right_loop (v : List UInt8) (hv : v.length ≤ 1000000) : ∀ (d i k : Nat), i + d = v.length → newelref05_Right.l0 (k + d + 1) (ts v) (i : Int) = some (decide (1 ≤ v.length) && decide (v.length ≤ 100) && (v.drop i).all sign8) := by
  intro d
  induction d with
  | zero =>
    intro i k h
    rw [newelref05_Right.l0, if_neg (by rw [ts_size]; omega), List.drop_eq_nil_of_le (by omega), ts_size, List.all_nil, Bool.and_true]
    by_cases a : 1 ≤ v.length
    · rw [if_pos (by omega), decide_eq_true a, Bool.true_and]
      by_cases b : v.length ≤ 100
      · rw [decide_eq_true b, decide_eq_true (by omega)]
      · rw [decide_eq_false b, decide_eq_false (by omega)]
    · rw [if_neg (by omega), decide_eq_false a, Bool.false_and]
  | succ d ih =>
    intro i k h
    have hi : i < v.length := by omega
    rw [show k + (d + 1) + 1 = (k + d + 1) + 1 from by omega, newelref05_Right.l0, if_pos (by rw [ts_size]; omega), if_pos (by omega), bt_nat v i hi, next_of i (by omega), List.drop_eq_getElem_cons hi, List.all_cons]
    have un : sign8 v[i] = (decide (33 ≤ ((v[i].toNat : Nat) : Int)) && decide (((v[i].toNat : Nat) : Int) ≤ 126) && ((v[i].toNat : Nat) : Int) != 91 && ((v[i].toNat : Nat) : Int) != 93 && ((v[i].toNat : Nat) : Int) != 40 && ((v[i].toNat : Nat) : Int) != 41 && ((v[i].toNat : Nat) : Int) != 44) := rfl
    generalize ((v[i].toNat : Nat) : Int) = n at *
    have bad : sign8 v[i] = false → (some false : Option Bool) = some (decide (1 ≤ v.length) && decide (v.length ≤ 100) && (sign8 v[i] && (v.drop (i + 1)).all sign8)) := by
      intro e; rw [e, Bool.false_and, Bool.and_false]
    by_cases c0 : n < 33
    · rw [if_pos c0]; exact bad (by rw [un, decide_eq_false (by omega)]; rfl)
    rw [if_neg c0]
    by_cases c1 : n > 126
    · rw [if_pos c1]; exact bad (by rw [un, decide_eq_false (show ¬ n ≤ 126 by omega), Bool.and_false]; rfl)
    rw [if_neg c1]
    by_cases c2 : n = 91
    · rw [if_pos c2]; exact bad (by rw [un, c2]; rfl)
    rw [if_neg c2]
    by_cases c3 : n = 93
    · rw [if_pos c3]; exact bad (by rw [un, c3]; rfl)
    rw [if_neg c3]
    by_cases c4 : n = 40
    · rw [if_pos c4]; exact bad (by rw [un, c4]; rfl)
    rw [if_neg c4]
    by_cases c5 : n = 41
    · rw [if_pos c5]; exact bad (by rw [un, c5]; rfl)
    rw [if_neg c5]
    by_cases c6 : n = 44
    · rw [if_pos c6]; exact bad (by rw [un, c6]; rfl)
    rw [if_neg c6, ih (i + 1) k (by omega)]
    have good : sign8 v[i] = true := by
      rw [un, decide_eq_true (by omega), decide_eq_true (by omega), bne_iff_ne.2 c2, bne_iff_ne.2 c3, bne_iff_ne.2 c4, bne_iff_ne.2 c5, bne_iff_ne.2 c6]; rfl
    rw [good, Bool.true_and]
theorem ref_right_told (v : List UInt8) (hv : v.length ≤ 1000000) (k : Nat) (hk : v.length + 1 ≤ k) : newelref05_Right.f k (ts v) = some (rightB v) := by
  have := ref_right_loop v hv v.length 0 (k - v.length - 1) (by omega)
  rw [show k - v.length - 1 + v.length + 1 = k from by omega] at this
  exact this
theorem ref_text_cmp (a b : List UInt8) : newelref05_text.f (ts a) (ts b) = some (cmpB a b) := by
  unfold newelref05_text.f cmpB
  rw [ts_toList, ts_toList]
  by_cases p : Op.bytesLess a b = true
  · rw [if_pos p, if_pos p]
  · rw [if_neg p, if_neg p]
    by_cases q : Op.bytesLess b a = true
    · rw [if_pos q, if_pos q]
    · rw [if_neg q, if_neg q]
theorem ref_one_cmp (x y : Wl) : Tot (fun k => newelref05_one.f k x.1 (ts x.2) y.1 (ts y.2)) (fun r => r = cmpW x y) := by
  have len : Tot (fun k => newelref05_one.j0 k true x.1 (ts x.2) y.1 (ts y.2)) (fun r => r = if cmpI x.2.length y.2.length = 0 then cmpB x.2 y.2 else cmpI x.2.length y.2.length) := by
    refine tot_succ ?_ (fun k => by rw [newelref05_one.j0])
    rw [ref_text_cmp, ts_size, ts_size]
    simp only [Option.bind_some]
    unfold cmpI
    refine tot_guard (by trivial) (tot_if (fun e => tot_some ?_) (fun e => tot_if (fun l => tot_some ?_) (fun l => tot_some ?_)))
    · rw [if_neg (show ¬ (x.2.length : Int) < y.2.length by omega), if_neg (show ¬ (x.2.length : Int) > y.2.length by omega), if_pos rfl]
    · rw [if_pos l, if_neg (by decide)]
    · rw [if_neg l, if_pos (show (x.2.length : Int) > y.2.length by omega), if_neg (by decide)]
  unfold newelref05_one.f cmpW
  rw [ref_text_cmp]
  simp only [Option.bind_some]
  refine tot_if (fun p => tot_some (by rw [if_pos p])) (fun p => tot_if (fun q => tot_some (by rw [if_neg p, if_pos q])) (fun q => tot_if (fun e => tot_some (by rw [if_neg p, if_neg q, if_pos e])) (fun e => ?_)))
  rw [if_neg p, if_neg q, if_neg e]
  refine tot_if (fun g => ?_) (fun g => ?_)
  · rw [if_pos (Or.inl g)]; exact len
  · by_cases h : x.1 = 10
    · rw [show (x.1 == 10) = true from beq_iff_eq.2 h, if_pos (Or.inr h)]; exact len
    · rw [show (x.1 == 10) = false from beq_eq_false_iff_ne.2 h, if_neg (by rintro (z | z) <;> omega)]
      refine tot_succ ?_ (fun k => by rw [newelref05_one.j0])
      exact tot_if (fun b => by cases b) (fun _ => tot_some rfl)
theorem hd_drop (l : List Wl) (i : Nat) (h : i < l.length) : hdW (l.drop i) = l[i] := by rw [List.drop_eq_getElem_cons h]; rfl
theorem hd_none (l : List Wl) (i : Nat) (h : ¬ i < l.length) : hdW (l.drop i) = (6, []) := by rw [List.drop_eq_nil_of_le (by omega)]; rfl
theorem rd_word (l : List Wl) (i : Nat) (h : i < l.length) : rd_T38 (l.map w38) (i : Int) = w38 l[i] := by
  unfold rd_T38
  rw [Int.toNat_natCast, List.getD_eq_getElem?_getD, List.getElem?_map, List.getElem?_eq_getElem h]; rfl
theorem ref_words_cmp (x y : List Wl) (hx : x.length ≤ 100100) (hy : y.length ≤ 100100) : ∀ (d i : Nat), i ≤ 100100 → x.length ≤ i + d → y.length ≤ i + d →
    Tot (fun k => newelref05_Words.l0 k (x.map w38) (y.map w38) (i : Int)) (fun r => r = cmpN d (x.drop i) (y.drop i)) := by
  have j2 : ∀ (i : Nat) (a : Wl) (T : Int), i ≤ 100100 → Tot (fun k => newelref05_Words.l0 k (x.map w38) (y.map w38) ((i + 1 : Nat) : Int)) (fun r => r = T) →
      Tot (fun k => newelref05_Words.j2 k (x.map w38) (y.map w38) (i : Int) a.1 (ts a.2) 6 (⟨#[]⟩ : ByteArray)) (fun r => r = if cmpW a (hdW (y.drop i)) = 0 then T else cmpW a (hdW (y.drop i))) := by
    intro i a T hi next
    refine tot_succ ?_ (fun k => by rw [newelref05_Words.j2])
    rw [List.length_map, next_of i (by omega)]
    refine tot_if (fun h => tot_guard (by omega) ?_) (fun h => ?_)
    · rw [rd_word y i (by omega), hd_drop y i (by omega)]
      refine tot_bind (ref_one_cmp a y[i]) (fun r hr => ?_)
      subst hr
      exact tot_if (fun z => by rw [if_pos z]; exact next) (fun z => tot_some (by rw [if_neg z]))
    · rw [hd_none y i (by omega)]
      refine tot_bind (ref_one_cmp a (6, [])) (fun r hr => ?_)
      subst hr
      exact tot_if (fun z => by rw [if_pos z]; exact next) (fun z => tot_some (by rw [if_neg z]))
  have j1 : ∀ (i : Nat) (T : Int), i ≤ 100100 → Tot (fun k => newelref05_Words.l0 k (x.map w38) (y.map w38) ((i + 1 : Nat) : Int)) (fun r => r = T) →
      Tot (fun k => newelref05_Words.j1 k (x.map w38) (y.map w38) (i : Int) true) (fun r => r = if cmpW (hdW (x.drop i)) (hdW (y.drop i)) = 0 then T else cmpW (hdW (x.drop i)) (hdW (y.drop i))) := by
    intro i T hi next
    refine tot_succ ?_ (fun k => by rw [newelref05_Words.j1])
    rw [List.length_map]
    refine tot_guard rfl (tot_if (fun h => tot_guard (by omega) ?_) (fun h => ?_))
    · rw [rd_word x i (by omega), hd_drop x i (by omega)]
      exact j2 i x[i] T hi next
    · rw [hd_none x i (by omega)]
      exact j2 i (6, []) T hi next
  have over : ∀ (i n : Nat), x.length ≤ i → y.length ≤ i → Tot (fun k => newelref05_Words.l0 k (x.map w38) (y.map w38) (i : Int)) (fun r => r = cmpN n (x.drop i) (y.drop i)) := by
    intro i n h1 h2
    refine tot_succ ?_ (fun k => by rw [newelref05_Words.l0])
    rw [List.length_map, List.length_map]
    refine tot_if (fun h => by omega) (fun h => ?_)
    rw [decide_eq_false (by omega)]
    refine tot_succ ?_ (fun k => by rw [newelref05_Words.j1])
    refine tot_if (fun b => by cases b) (fun _ => tot_some ?_)
    rw [List.drop_eq_nil_of_le h1, List.drop_eq_nil_of_le h2, cmpN_nil]
  intro d
  induction d with
  | zero => intro i hi h1 h2; exact over i 0 (by omega) (by omega)
  | succ d ih =>
    intro i hi h1 h2
    by_cases e : i < x.length ∨ i < y.length
    · have next := ih (i + 1) (by omega) (by omega) (by omega)
      have q := j1 i _ hi next
      rw [← tail_drop, ← tail_drop] at q
      refine tot_succ ?_ (fun k => by rw [newelref05_Words.l0])
      rw [List.length_map, List.length_map]
      refine tot_if (fun h => tot_imp q (fun r hr => hr)) (fun h => ?_)
      rw [decide_eq_true (by omega)]
      exact tot_imp q (fun r hr => hr)
    · exact over i (d + 1) (by omega) (by omega)
theorem ref_compare_cmp (a b : List UInt8) (ha : a.length ≤ 100000) (hb : b.length ≤ 100000) : Tot (fun k => newelref05_Compare.f k (ts a) (ts b)) (fun r => r = cmpV a b) := by
  have sa := splitL_len a
  have sb := splitL_len b
  unfold newelref05_Compare.f newelref05_Words.f
  refine tot_bind (tot_ge 400000 (fun k hk => ref_split_told a ha k (by omega))) (fun x hx => ?_)
  subst hx
  refine tot_bind (tot_ge 400000 (fun k hk => ref_split_told b hb k (by omega))) (fun y hy => ?_)
  subst hy
  refine tot_bind (ref_words_cmp (splitL a) (splitL b) (by omega) (by omega) 100100 0 (by omega) (by omega) (by omega)) (fun r hr => tot_some ?_)
  rw [hr, List.drop_zero, List.drop_zero]
  rfl
theorem ref_right_cmp (v : List UInt8) (hv : v.length ≤ 100000) : Tot (fun k => newelref05_Right.f k (ts v)) (fun r => r = rightB v) := tot_ge 200000 (fun k hk => ref_right_told v (by omega) k (by omega))
theorem right_nil : rightB [] = false := by decide
theorem ref_may_cmp (lo hi : List UInt8) (il ih : Bool) (hl : lo.length ≤ 100000) (hh : hi.length ≤ 100000) : Tot (fun k => newelref05_May.f k (ts lo) (ts hi) il ih) (fun r => r = mayB lo hi il ih) := by
  have j : ∀ b : Bool, Tot (fun k => newelref05_May.j0 k b (ts lo) (ts hi) il ih) (fun r => r = if b = true then false else if lo = [] then true else if hi = [] then true else if cmpV lo hi < 0 then true else if cmpV lo hi = 0 then (if il = true then ih else false) else false) := by
    intro b
    refine tot_succ ?_ (fun k => by rw [newelref05_May.j0])
    rw [ts_toList, ts_toList]
    refine tot_if (fun h => tot_some (by rw [if_pos h])) (fun h => tot_if (fun e => tot_some (by rw [if_neg h, if_pos e])) (fun e => tot_if (fun g => tot_some (by rw [if_neg h, if_neg e, if_pos g])) (fun g => tot_bind (ref_compare_cmp lo hi hl hh) (fun c hc => ?_))))
    subst hc
    rw [if_neg h, if_neg e, if_neg g]
    refine tot_if (fun a => tot_some (by rw [if_pos a])) (fun a => tot_if (fun z => tot_if (fun y => tot_some (by rw [if_neg a, if_pos z, if_pos y])) (fun y => tot_some (by rw [if_neg a, if_pos z, if_neg y]))) (fun z => tot_some (by rw [if_neg a, if_neg z])))
  have fin : ∀ b : Bool, b = !(boundB lo il && boundB hi ih) → Tot (fun k => newelref05_May.j0 k b (ts lo) (ts hi) il ih) (fun r => r = mayB lo hi il ih) := by
    intro b hb
    refine tot_imp (j b) (fun r hr => ?_)
    rw [hr, hb]
    unfold mayB
    cases boundB lo il <;> cases boundB hi ih <;> simp
  have bb : ∀ (v : List UInt8) (i : Bool), boundB v i = if v = [] then !i else rightB v := by
    intro v i
    unfold boundB
    by_cases e : v = []
    · rw [e, right_nil]; simp
    · simp [e]
  unfold newelref05_May.f
  rw [ts_toList, ts_toList]
  refine tot_if (fun e => ?_) (fun e => ?_)
  · have b1 : boundB lo il = !il := by rw [bb, if_pos e]
    refine tot_if (fun g => ?_) (fun g => ?_)
    · have b2 : boundB hi ih = !ih := by rw [bb, if_pos g]
      refine tot_if (fun a => fin _ (by rw [b1, b2, a]; simp)) (fun a => fin _ (by rw [b1, b2, Bool.eq_false_iff.2 a]; simp))
    · have b2 : boundB hi ih = rightB hi := by rw [bb, if_neg g]
      refine tot_bind (ref_right_cmp hi hh) (fun r hr => ?_)
      subst hr
      refine tot_if (fun a => tot_if (fun c => fin _ (by rw [b1, b2, a, c]; simp)) (fun c => fin _ (by rw [b1, b2, a, Bool.eq_false_iff.2 c]; simp))) (fun a => fin _ (by rw [b1, b2, Bool.eq_false_iff.2 a]; simp))
  · have b1 : boundB lo il = rightB lo := by rw [bb, if_neg e]
    refine tot_bind (ref_right_cmp lo hl) (fun r hr => ?_)
    subst hr
    refine tot_if (fun a => ?_) (fun a => fin _ (by rw [b1, Bool.eq_false_iff.2 a]; simp))
    refine tot_if (fun g => ?_) (fun g => ?_)
    · have b2 : boundB hi ih = !ih := by rw [bb, if_pos g]
      exact fin _ (by rw [b1, b2, a]; simp)
    · have b2 : boundB hi ih = rightB hi := by rw [bb, if_neg g]
      refine tot_bind (ref_right_cmp hi hh) (fun r hr => ?_)
      subst hr
      refine tot_if (fun c => fin _ (by rw [b1, b2, a, c]; simp)) (fun c => fin _ (by rw [b1, b2, a, Bool.eq_false_iff.2 c]; simp))
theorem ref_behind_cmp (a ah bl b : List UInt8) (p aih bil s : Bool) (hb : ah.length ≤ 100000) (hc : bl.length ≤ 100000) : Tot (fun k => newelref05_behind.f k (ts a) (ts ah) p aih (ts bl) (ts b) bil s) (fun r => r = behindB ah bl aih bil) := by
  unfold newelref05_behind.f behindB
  rw [ts_toList, ts_toList]
  refine tot_if (fun e => tot_some (by rw [if_pos e])) (fun e => tot_if (fun g => tot_some (by rw [if_neg e, if_pos g])) (fun g => tot_bind (ref_compare_cmp ah bl hb hc) (fun c hc => ?_)))
  subst hc
  rw [if_neg e, if_neg g]
  refine tot_if (fun a => tot_some (by rw [if_pos a])) (fun a => tot_if (fun z => tot_if (fun y => tot_some (by rw [if_neg a, if_pos z, if_pos y])) (fun y => tot_some (by rw [if_neg a, if_pos z, if_neg y]; rfl))) (fun z => tot_some (by rw [if_neg a, if_neg z])))
theorem cut_head {s sub : List UInt8} {c : UInt8} {j : Nat} (h : Lib.occAt s (c :: sub) j = true) : s[j]? = some c := by
  unfold Lib.occAt at h
  obtain ⟨t, ht⟩ := List.isPrefixOf_iff_prefix.1 h
  have : (s.drop j)[0]? = some c := by rw [← ht]; rfl
  simpa using this
theorem cut_there (t r sub : List UInt8) (c : UInt8) (h : ∀ x ∈ t, x ≠ c) : Lib.cut (t ++ ((c :: sub) ++ r)) (c :: sub) = (t, r, true) := by
  have e : Lib.index (t ++ ((c :: sub) ++ r)) (c :: sub) = (t.length : Int) := by
    refine Lib.index_first (by simp) ?_ ?_
    · unfold Lib.occAt
      rw [List.drop_left]
      exact List.isPrefixOf_iff_prefix.2 ⟨r, rfl⟩
    · intro j hj
      rw [Bool.eq_false_iff]
      intro ho
      have := cut_head ho
      rw [List.getElem?_append_left hj] at this
      exact h c (List.mem_of_getElem? this) rfl
  unfold Lib.cut
  rw [e, if_pos (by omega), Int.toNat_natCast, List.take_left, show t.length + (c :: sub).length = (t ++ (c :: sub)).length by simp, ← List.append_assoc, List.drop_left]
theorem cut_away (t sub : List UInt8) (c : UInt8) (h : ∀ x ∈ t, x ≠ c) : Lib.cut t (c :: sub) = (t, [], false) := by
  have e : Lib.index t (c :: sub) = -1 := by
    refine Lib.index_none ?_
    intro j hj
    rw [Bool.eq_false_iff]
    intro ho
    exact h c (List.mem_of_getElem? (cut_head ho)) rfl
  unfold Lib.cut
  rw [e]; rfl
def isOp (o : UInt8) : Bool := o == 91 || o == 40
def clB (c : UInt8) : Bool := c == 93 || c == 41
def trimS (l : List UInt8) : List UInt8 := Lib.trimB l 32
def inn (t : List UInt8) : List UInt8 := t.takeWhile (fun c => !clB c)
def outt (t : List UInt8) : List UInt8 := t.dropWhile (fun c => !clB c)
def spanS (o c : UInt8) (w : List UInt8) : Option S58 :=
  if (Lib.cut w [44]).2.2 = true then some ⟨ts (trimS (Lib.cut w [44]).1), ts (trimS (Lib.cut w [44]).2.1), o == 91, c == 93⟩
  else if o = 91 ∧ c = 93 then some ⟨ts (trimS w), ts (trimS w), true, true⟩ else none
def oneS : List UInt8 → Option (S58 × List UInt8)
  | [] => none
  | o :: t => if isOp o = true then (match outt t with
    | [] => none
    | c :: rest => match spanS o c (inn t) with
      | none => none
      | some s => if mayS s = true then some (s, rest) else none) else none
theorem oneS_cons (o : UInt8) (t : List UInt8) : oneS (o :: t) = if isOp o = true then (match outt t with
    | [] => none
    | c :: rest => match spanS o c (inn t) with
      | none => none
      | some s => if mayS s = true then some (s, rest) else none) else none := rfl
def badS (acc : List S58) (s : S58) : Bool := if acc.length ≥ 20 then true else match acc.getLast? with
  | none => false
  | some p => !behindB (hi8 p) (lo8 s) p.f3 s.f2
def parseF : Nat → List UInt8 → List S58 → List S58 × Int
  | 0, _, _ => ([], 12)
  | n + 1, x, acc => match oneS x with
    | none => ([], 12)
    | some (s, rest) => if badS acc s = true then ([], 12) else match rest with
      | [] => (acc ++ [s], 0)
      | c :: y => if c = 44 then parseF n y (acc ++ [s]) else ([], 12)
theorem inn_out (t : List UInt8) : inn t ++ outt t = t := List.takeWhile_append_dropWhile
theorem trim_le (l : List UInt8) : (trimS l).length ≤ l.length := by
  have g : ∀ l : List UInt8, (l.dropWhile (· == 32)).length ≤ l.length := fun l => (List.dropWhile_sublist _).length_le
  unfold trimS Lib.trimB Lib.trimLeftB Lib.trimRightB
  have a := g (l.reverse.dropWhile (· == 32)).reverse
  have b := g l.reverse
  rw [List.length_reverse] at a b
  omega
theorem cut_le (w : List UInt8) : (Lib.cut w [44]).1.length ≤ w.length ∧ (Lib.cut w [44]).2.1.length ≤ w.length := by
  unfold Lib.cut
  split
  · exact ⟨by simp only [List.length_take]; omega, by simp only [List.length_drop]; omega⟩
  · exact ⟨Nat.le_refl _, Nat.zero_le _⟩
theorem spanS_le (o c : UInt8) (w : List UInt8) (s : S58) (h : spanS o c w = some s) : (lo8 s).length ≤ w.length ∧ (hi8 s).length ≤ w.length := by
  have q := cut_le w
  unfold spanS at h
  split at h
  · obtain rfl := Option.some.inj h
    exact ⟨Nat.le_trans (by show (trimS _).length ≤ _; exact trim_le _) q.1, Nat.le_trans (by show (trimS _).length ≤ _; exact trim_le _) q.2⟩
  · split at h
    · obtain rfl := Option.some.inj h
      exact ⟨by show (trimS _).length ≤ _; exact trim_le _, by show (trimS _).length ≤ _; exact trim_le _⟩
    · cases h
theorem oneS_le (x : List UInt8) (s : S58) (rest : List UInt8) (h : oneS x = some (s, rest)) : rest.length + 2 ≤ x.length ∧ (lo8 s).length ≤ x.length ∧ (hi8 s).length ≤ x.length ∧ mayS s = true := by
  cases x with
  | nil => cases h
  | cons o t =>
    rw [oneS_cons] at h
    by_cases io : isOp o = true
    · rw [if_pos io] at h
      have e := inn_out t
      cases ho : outt t with
      | nil => rw [ho] at h; cases h
      | cons c r =>
        rw [ho] at h e
        dsimp only at h
        cases hs : spanS o c (inn t) with
        | none => rw [hs] at h; cases h
        | some s' =>
          rw [hs] at h
          dsimp only at h
          by_cases m : mayS s' = true
          · rw [if_pos m] at h
            have z := Option.some.inj h
            injection z with z1 z2
            subst z1
            subst z2
            have l := spanS_le o c _ _ hs
            have el : (inn t).length + (r.length + 1) = t.length := by
              have := congrArg List.length e
              rw [List.length_append, List.length_cons] at this
              exact this
            rw [List.length_cons]
            exact ⟨by omega, by omega, by omega, m⟩
          · rw [if_neg m] at h; cases h
    · rw [if_neg io] at h; cases h
theorem op_open (o : UInt8) (h : isOp o = true) : o = 91 ∨ o = 40 := by
  unfold isOp at h
  simpa using h
theorem op_not (o : UInt8) (h : isOp o = true) : clB o = false := by
  rcases op_open o h with rfl | rfl <;> rfl
theorem beq_byte (o : UInt8) (n : Nat) (h : n < 256) : (((o.toNat : Nat) : Int) == (n : Int)) = (o == UInt8.ofNat n) := by
  rw [Bool.eq_iff_iff, beq_iff_eq, beq_iff_eq]
  exact beq_toNat o n h
theorem last_at (l : List S58) (m : Nat) (h : l.length = m + 1) : l.getLast? = some (l[m]'(by omega)) := by
  rw [List.getLast?_eq_getElem?, show l.length - 1 = m by omega, List.getElem?_eq_getElem (by omega)]
end Go.Proofs.YtgdjfcmmpjcaaaaDoor.Pure
