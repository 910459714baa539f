/- Texts put together: what functions of the program compute, and plain words about them. -/
import Derived.Test.YtgdjfcmmpjcaaaaDoorLawChooseMoreM1
import Derived.Test.YtgdjfcmmpjcaaaaDoorLawChooseMoreM4
import Derived.Test.YtgdjfcmmpjcaaaaDoorLawChooseMoreM2
import Derived.Test.YtgdjfcmmpjcaaaaDoorProg
import Derived.Test.YtgdjfcmmpjcaaaaDoorRows
import Derived.ChangeArms
import Derived.Deep.DeepHandedRow
import Derived.Shelf.Vars
import Derived.Below
import Derived.Deep.Draws
import Derived.Deep.AppendLies
import Derived.Maps.AppendAt
import Derived.OwnWalk
import Derived.Laws.BytesArg
import Derived.Laws.MakeOwn
import Derived.Laws.OwnMore
import Derived.Deep.OwnRows
import Derived.Tactics
import Derived.Lib.ConvBytes
import Derived.Laws.Slices
import Derived.WalkKit
import Derived.KernelRfl
import Derived.RowKit3
import Derived.Deep.LoopGhost
import Derived.Deep.QuietTactic
import Derived.BigQuiet
import Derived.WideLaws
import Derived.Deep.DeepCutAuto
import Derived.Deep.CutBlock
import Derived.Deep.RegionHeld3
import Derived.Laws.Rows
import Derived.Lib.AppendStr
import Derived.ArgAppend
import Derived.Laws.IdiomCopy
import Derived.OrdersHeld
import Derived.Laws.BitsLemmas
import Derived.RowKit
import Derived.Lib.IndexMore
import Derived.Lib.IndexAny
import Derived.Test.YtgdjfcmmpjcaaaaDoorLawChooseMoreM3
namespace Go.Proofs.YtgdjfcmmpjcaaaaDoor.Q
open Go.RowKit Go.Proofs.YtgdjfcmmpjcaaaaDoorW.PrintWords Go.Proofs.YtgdjfcmmpjcaaaaDoorW.PrintLast Go.Proofs.YtgdjfcmmpjcaaaaDoorW.Own Go.Proofs.YtgdjfcmmpjcaaaaDoorW.PrintMore
attribute [local go_sem] max2_int min2_int max_two min_two max_three min_three max_four min_four   -- for this text's walks alone
set_option linter.unusedVariables false
set_option linter.unusedSimpArgs false
set_option maxHeartbeats 8000000
set_option maxRecDepth 100000
mutual
def newelref05_Words.l0 : Nat → List (S38) → List (S38) → Int → Option (Int)
 | 0, _, _, _ => none
 | k + 1, x0, x1, x5 => if x5 < (x0.length : Int) then (newelref05_Words.j1 k x0 x1 x5 true) else (newelref05_Words.j1 k x0 x1 x5 (decide (x5 < (x1.length : Int))))
def newelref05_Words.j1 : Nat → List (S38) → List (S38) → Int → Bool → Option (Int)
 | 0, _, _, _, _ => none
 | k + 1, x0, x1, x5, x18 => if x18 = true then (if x5 < (x0.length : Int) then (if 0 ≤ x5 then (newelref05_Words.j2 k x0 x1 x5 ((rd_T38 x0 x5).f0) ((rd_T38 x0 x5).f1) 6 (⟨#[]⟩ : ByteArray)) else (none)) else (newelref05_Words.j2 k x0 x1 x5 6 (⟨#[]⟩ : ByteArray) 6 (⟨#[]⟩ : ByteArray))) else (some 0)
def newelref05_Words.j2 : Nat → List (S38) → List (S38) → Int → Int → ByteArray → Int → ByteArray → Option (Int)
 | 0, _, _, _, _, _, _, _ => none
 | k + 1, x0, x1, x5, x420000, x420001, x421000, x421001 => if x5 < (x1.length : Int) then (if 0 ≤ x5 then ((newelref05_one.f k x420000 x420001 ((rd_T38 x1 x5).f0) ((rd_T38 x1 x5).f1)).bind fun t423 => (if t423 = 0 then (newelref05_Words.l0 k x0 x1 (wrap64 (x5 + 1))) else (some t423))) else (none)) else ((newelref05_one.f k x420000 x420001 x421000 x421001).bind fun t424 => (if t424 = 0 then (newelref05_Words.l0 k x0 x1 (wrap64 (x5 + 1))) else (some t424)))
end
def newelref05_Words.f (k : Nat) (l0 : List (S38)) (l1 : List (S38)) : Option (Int) := newelref05_Words.l0 k l0 l1 0
theorem newelref05_Words.mono_l : ∀ k, (∀ y0 y1 y2, LeO (newelref05_Words.l0 k y0 y1 y2) (newelref05_Words.l0 (k + 1) y0 y1 y2)) ∧ (∀ y0 y1 y2 y3, LeO (newelref05_Words.j1 k y0 y1 y2 y3) (newelref05_Words.j1 (k + 1) y0 y1 y2 y3)) ∧ (∀ y0 y1 y2 y3 y4 y5 y6, LeO (newelref05_Words.j2 k y0 y1 y2 y3 y4 y5 y6) (newelref05_Words.j2 (k + 1) y0 y1 y2 y3 y4 y5 y6))
 | 0 => ⟨fun _ _ _ r h => by simp [newelref05_Words.l0] at h, fun _ _ _ _ r h => by simp [newelref05_Words.j1] at h, fun _ _ _ _ _ _ _ r h => by simp [newelref05_Words.j2] at h⟩
 | k + 1 => by
  obtain ⟨ih0, ih1, ih2⟩ := newelref05_Words.mono_l k
  refine ⟨?_, ?_, ?_⟩
  ·intro y0 y1 y2
   unfold newelref05_Words.l0
   have m0 := @newelref05_one.mono
   exact mo
  ·intro y0 y1 y2 y3
   unfold newelref05_Words.j1
   have m0 := @newelref05_one.mono
   exact mo
  ·intro y0 y1 y2 y3 y4 y5 y6
   unfold newelref05_Words.j2
   have m0 := @newelref05_one.mono
   exact mo
theorem newelref05_Words.mono : ∀ a0 a1 k, LeO (newelref05_Words.f k a0 a1) (newelref05_Words.f (k + 1) a0 a1) := by
 intro a0 a1 k
 obtain ⟨ih0, ih1, ih2⟩ := newelref05_Words.mono_l k
 unfold newelref05_Words.f
 have m0 := @newelref05_one.mono
 exact mo
theorem newelref05_Words.calls (k : Nat) (A0 : Option Addr) (c0 : Nat) (l0 : List (S38)) (A1 : Option Addr) (c1 : Nat) (l1 : List (S38)) (r : Int) (w : World) (hr0 : Kd.C k38 w A0 l0.length l0) (hc0 : l0.length ≤ c0) (hr1 : Kd.C k38 w A1 l1.length l1) (hc1 : l1.length ≤ c1) (hG : Glob w) (h : newelref05_Words.f k l0 l1 = some r) :
 Calls Tryd.prog 91 #[.slice A0 l0.length c0, .slice A1 l1.length c1] w fun e w' => e = .returned (.int .i64 r) ∧ Below w.heap.size w w' := by
 have hu38 := Tryd.underlying38
 have HG := Aside0.mk hG
 clear hG
 have HR0 := Aside0.mk hr0
 have HC0 := Aside0.mk hc0
 clear hr0 hc0
 have HR1 := Aside0.mk hr1
 have HC1 := Aside0.mk hc1
 clear hr1 hc1
 have HB := Aside0.mk (Below.refl w.heap.size w)
 have H : (newelref05_Words.l0 k l0 l1 0) = some r := h
 clear h
 have H' := Aside0.mk H
 clear H
 go_enter Tryd.func91, Tryd.ntmps91
 go_wp2
 go_loopg [5] k (fun kq v5 w' => ∃ (x5_1 : Int), v5 = .int .i64 x5_1 ∧ Aside0 (newelref05_Words.l0 kq l0 l1 x5_1 = some r) ∧ Aside0 (kq ≤ k) ∧ Aside0 (Below w.heap.size w w'))
 case atStart => exact ⟨(0), cA, H', ⟨Nat.le_refl _⟩, ⟨bE⟩⟩
 clear H'
 try clear c1
 try clear p2
 obtain ⟨x5_1, rfl, HA, HK1, HB⟩ := hrel
 cases gk with
 | zero => exact absurd HA.out (by simp [newelref05_Words.l0])
 | succ k1 =>
  have H := HA.out
  clear HA
  simp only [newelref05_Words.l0] at H
  have HC3 := Aside0.mk H
  clear H
  go_upto_region 2 with (fail)
  go_cut [18] (fun v18 wc => ∃ (kq : Nat) (x18_2 : Bool), v18 = .bool x18_2 ∧ Aside0 (newelref05_Words.j1 kq l0 l1 x5_1 x18_2 = some r) ∧ Aside0 (kq ≤ k1) ∧ Aside0 (Below w.heap.size w wc))
  case first =>
   have H := HC3.out
   clear HC3
   by_cases c4 : x5_1 < (l0.length : Int)
   rotate_left
   ·rw [if_neg c4] at H
    have c4b0 := dF c4
    clear c4
    (first | rw [c4b0] | (simp only [i64_w, i32_w]; rw [c4b0]) | skip)
    have H' := Aside0.mk H
    clear H
    go_wp2
    go_meet
    case rel => exact ⟨_, (decide (x5_1 < (l1.length : Int))), cA, H', ⟨by have := HK1.out; first | omega | exact Nat.le_refl _⟩, ⟨bE⟩⟩
   rw [if_pos c4] at H
   have c4b0 := dT c4
   clear c4
   (first | rw [c4b0] | (simp only [i64_w, i32_w]; rw [c4b0]) | skip)
   have H' := Aside0.mk H
   clear H
   go_wp2
   go_meet
   case rel => exact ⟨_, (true), cA, H', ⟨by have := HK1.out; first | omega | exact Nat.le_refl _⟩, ⟨bE⟩⟩
  clear HC3
  try clear c1
  try clear p2
  try clear c4
  try clear c4b0
  try clear p2
  obtain ⟨kq, x18_2, rfl, HA, HJ2, HB⟩ := hcut
  cases kq with
  | zero => exact absurd HA.out (by simp [newelref05_Words.j1])
  | succ kj2 =>
   have H := HA.out
   clear HA
   simp only [newelref05_Words.j1] at H
   by_cases c5 : x18_2 = true
   rotate_left
   ·replace c5 := Bool.eq_false_iff.mpr c5
    subst c5
    have H1 : (some 0) = some r := by rw [if_neg (show ¬ (false = true) by decide)] at H; exact H
    clear H
    have H := H1
    clear H1
    obtain rfl := Option.some.inj H
    go_wp2
    go_ret
    exact ⟨eA, bE⟩
   subst c5
   have H1 : (if x5_1 < (l0.length : Int) then (if 0 ≤ x5_1 then (newelref05_Words.j2 kj2 l0 l1 x5_1 ((rd_T38 l0 x5_1).f0) ((rd_T38 l0 x5_1).f1) 6 (⟨#[]⟩ : ByteArray)) else (none)) else (newelref05_Words.j2 kj2 l0 l1 x5_1 6 (⟨#[]⟩ : ByteArray) 6 (⟨#[]⟩ : ByteArray))) = some r := by rw [if_pos rfl] at H; exact H
   clear H
   have H := H1
   clear H1
   have HC6 := Aside0.mk H
   clear H
   go_upto_if 26 with (first | ((with_reducible refine gate_dst (N := 6) rfl ?_); (try (refine gate_guard (by rfl) ?_; dsimp only)); refine be 6 #[.int .i64 0, .string (⟨#[]⟩ : ByteArray)] 38 ?_; intro gb419 hg w7 hbox hb; have BK419 := Aside0.mk (hbox); have GW419 := gW hg; have GE419 := gW hg; replace HB := sB hb; clear hb hbox hg) | ((with_reducible refine gate_dst (N := 7) rfl ?_); (try (refine gate_guard (by rfl) ?_; dsimp only)); refine be 7 #[.int .i64 0, .string (⟨#[]⟩ : ByteArray)] 38 ?_; intro gb420 hg w8 hbox hb; have BK420 := Aside0.mk (hbox); have GW420 := gW hg; have GE420 := gW hg; replace HB := sB hb; have NB419_420 := nL BK419 hg; have NB420_419 := nG BK419 hg; replace BK419 := kB BK419 hb; clear hb hbox hg; have hnb9 := NB419_420.out; have hnc9 := NB420_419.out; have hcz10_0 : w8.cell? ⟨gb419, 0, none⟩ = some (.int .i64 0) := (blk_cell BK419.out 0).trans rfl; have hcz10_1 : w8.cell? ⟨gb419, 1, none⟩ = some (.string (⟨#[]⟩ : ByteArray)) := (blk_cell BK419.out 1).trans rfl; have hfz10_0 := blk_frozen BK419.out 0; have hfz10_1 := blk_frozen BK419.out 1; have hcz11_0 : w8.cell? ⟨gb420, 0, none⟩ = some (.int .i64 0) := (blk_cell BK420.out 0).trans rfl; have hcz11_1 : w8.cell? ⟨gb420, 1, none⟩ = some (.string (⟨#[]⟩ : ByteArray)) := (blk_cell BK420.out 1).trans rfl; have hfz11_0 := blk_frozen BK420.out 0; have hfz11_1 := blk_frozen BK420.out 1))
   (try simp only [Act.put, List.setIfInBounds_toArray, List.set_cons_zero, List.set_cons_succ])
   go_cut [] (fun wc => ∃ (kq : Nat) (x420000_5 : Int) (x420001_5 : ByteArray), Aside0 (newelref05_Words.j2 kq l0 l1 x5_1 x420000_5 x420001_5 6 (⟨#[]⟩ : ByteArray) = some r) ∧ Aside0 (kq ≤ kj2) ∧ Aside0 (wc.heap[gb419]? = some (.cells #[.int .i64 x420000_5, .string x420001_5] 38 (0, 0))) ∧ Aside0 (wc.heap[gb420]? = some (.cells #[.int .i64 6, .string (⟨#[]⟩ : ByteArray)] 38 (0, 0))) ∧ Aside0 (Below w.heap.size w wc))
   case first =>
    have H := HC6.out
    clear HC6
    by_cases c12 : x5_1 < (l0.length : Int)
    rotate_left
    ·rw [if_neg c12] at H
     have c12b0 := dF c12
     clear c12
     (first | rw [c12b0] | (simp only [i64_w, i32_w]; rw [c12b0]) | skip)
     have H' := Aside0.mk H
     clear H
     go_wp2
     go_meet
     case rel => exact ⟨_, (6), ((⟨#[]⟩ : ByteArray)), H', ⟨by have := HK1.out; have := HJ2.out; first | omega | exact Nat.le_refl _⟩, ⟨by (with_reducible repeat (first | refine blk_drewN ?_ _ | refine blk_drew ?_ | refine blk_alloc ?_ _)); refine blk_far ?_ NB419_420.out _; (with_reducible repeat (first | refine blk_drewN ?_ _ | refine blk_drew ?_ | refine blk_alloc ?_ _)); refine blk_far ?_ NB419_420.out _; (with_reducible repeat (first | refine blk_drewN ?_ _ | refine blk_drew ?_ | refine blk_alloc ?_ _)); refine blk_put (cs := #[.int .i64 6, .string (⟨#[]⟩ : ByteArray)]) ?_ 1 _ rfl; (with_reducible repeat (first | refine blk_drewN ?_ _ | refine blk_drew ?_ | refine blk_alloc ?_ _)); refine blk_put (cs := #[.int .i64 0, .string (⟨#[]⟩ : ByteArray)]) ?_ 0 _ rfl; (with_reducible repeat (first | refine blk_drewN ?_ _ | refine blk_drew ?_ | refine blk_alloc ?_ _)); exact BK419.out⟩, ⟨by (with_reducible repeat (first | refine blk_drewN ?_ _ | refine blk_drew ?_ | refine blk_alloc ?_ _)); refine blk_put (cs := #[.int .i64 6, .string (⟨#[]⟩ : ByteArray)]) ?_ 1 _ rfl; (with_reducible repeat (first | refine blk_drewN ?_ _ | refine blk_drew ?_ | refine blk_alloc ?_ _)); refine blk_put (cs := #[.int .i64 0, .string (⟨#[]⟩ : ByteArray)]) ?_ 0 _ rfl; (with_reducible repeat (first | refine blk_drewN ?_ _ | refine blk_drew ?_ | refine blk_alloc ?_ _)); refine blk_far ?_ NB420_419.out _; (with_reducible repeat (first | refine blk_drewN ?_ _ | refine blk_drew ?_ | refine blk_alloc ?_ _)); refine blk_far ?_ NB420_419.out _; (with_reducible repeat (first | refine blk_drewN ?_ _ | refine blk_drew ?_ | refine blk_alloc ?_ _)); exact BK420.out⟩, ⟨bG⟩⟩
    rw [if_pos c12] at H
    have c12b0 := dT c12
    clear c12
    (first | rw [c12b0] | (simp only [i64_w, i32_w]; rw [c12b0]) | skip)
    by_cases c13 : 0 ≤ x5_1
    rotate_left
    ·rw [if_neg c13] at H
     exact absurd H (by simp)
    rw [if_pos c13] at H
    have c13b0 := dT c13
    clear c13
    have H' := Aside0.mk H
    clear H
    have p421 : 0 ≤ (x5_1 : Int) := dA
    have q421 : x5_1 < (l0.length : Int) := dA
    obtain ⟨ad421, e421, hx421_0, hx421_1⟩ := at_T38 HR0.out x5_1 p421 q421
    cases e421
    have hn421_0 : ad421.block ≠ gb419 := Nat.ne_of_lt (Nat.lt_of_lt_of_le (by have := World.block_lt_of_cell? _ _ hx421_0; first | rwa [add_block] at this | exact this) GW419.out)
    have hn421_1 : ad421.block ≠ gb419 := Nat.ne_of_lt (Nat.lt_of_lt_of_le (by have := World.block_lt_of_cell? _ _ hx421_0; first | rwa [add_block] at this | exact this) GW419.out)
    have hn421_2 : ad421.block ≠ gb420 := Nat.ne_of_lt (Nat.lt_of_lt_of_le (by have := World.block_lt_of_cell? _ _ hx421_0; first | rwa [add_block] at this | exact this) GW420.out)
    have hn421_3 : ad421.block ≠ gb420 := Nat.ne_of_lt (Nat.lt_of_lt_of_le (by have := World.block_lt_of_cell? _ _ hx421_0; first | rwa [add_block] at this | exact this) GW420.out)
    replace hx421_0 := (HB.out.cell (World.block_lt_of_cell? w _ hx421_0)).trans hx421_0
    replace hx421_1 := (HB.out.cell (World.block_lt_of_cell? w _ hx421_1)).trans hx421_1
    replace hx421_0 := (cell_far (p := ⟨gb419, 0, none⟩) (by first | (rw [add_block]; exact hn421_0) | (show (Addr.add _ _).block ≠ _; rw [add_block]; exact hn421_0) | exact hn421_0) (.int .i64 6)).trans hx421_0
    replace hx421_1 := (cell_far (p := ⟨gb419, 0, none⟩) (by first | (rw [add_block]; exact hn421_0) | (show (Addr.add _ _).block ≠ _; rw [add_block]; exact hn421_0) | exact hn421_0) (.int .i64 6)).trans hx421_1
    replace hx421_0 := (cell_far (p := ⟨gb419, 1, none⟩) (by first | (rw [add_block]; exact hn421_1) | (show (Addr.add _ _).block ≠ _; rw [add_block]; exact hn421_1) | exact hn421_1) (.string (⟨#[]⟩ : ByteArray))).trans hx421_0
    replace hx421_1 := (cell_far (p := ⟨gb419, 1, none⟩) (by first | (rw [add_block]; exact hn421_1) | (show (Addr.add _ _).block ≠ _; rw [add_block]; exact hn421_1) | exact hn421_1) (.string (⟨#[]⟩ : ByteArray))).trans hx421_1
    replace hx421_0 := (cell_far (p := ⟨gb420, 0, none⟩) (by first | (rw [add_block]; exact hn421_2) | (show (Addr.add _ _).block ≠ _; rw [add_block]; exact hn421_2) | exact hn421_2) (.int .i64 6)).trans hx421_0
    replace hx421_1 := (cell_far (p := ⟨gb420, 0, none⟩) (by first | (rw [add_block]; exact hn421_2) | (show (Addr.add _ _).block ≠ _; rw [add_block]; exact hn421_2) | exact hn421_2) (.int .i64 6)).trans hx421_1
    replace hx421_0 := (cell_far (p := ⟨gb420, 1, none⟩) (by first | (rw [add_block]; exact hn421_3) | (show (Addr.add _ _).block ≠ _; rw [add_block]; exact hn421_3) | exact hn421_3) (.string (⟨#[]⟩ : ByteArray))).trans hx421_0
    replace hx421_1 := (cell_far (p := ⟨gb420, 1, none⟩) (by first | (rw [add_block]; exact hn421_3) | (show (Addr.add _ _).block ≠ _; rw [add_block]; exact hn421_3) | exact hn421_3) (.string (⟨#[]⟩ : ByteArray))).trans hx421_1
    clear hn421_0
    clear hn421_1
    clear hn421_2
    clear hn421_3
    replace p421 := eq_true p421
    replace q421 := eq_true q421
    have hnb14 := NB419_420.out
    have hnc14 := NB420_419.out
    obtain ⟨hcz15_0, hcz15_1, hfz15_0, hfz15_1⟩ := cells2 BK419
    go_wp2
    go_meet
    case rel => exact ⟨_, ((rd_T38 l0 x5_1).f0), ((rd_T38 l0 x5_1).f1), H', ⟨by have := HK1.out; have := HJ2.out; first | omega | exact Nat.le_refl _⟩, ⟨by (with_reducible repeat (first | refine blk_drewN ?_ _ | refine blk_drew ?_ | refine blk_alloc ?_ _)); refine blk_put (cs := #[.int .i64 ((rd_T38 l0 x5_1).f0), .string (⟨#[]⟩ : ByteArray)]) ?_ 1 _ rfl; (with_reducible repeat (first | refine blk_drewN ?_ _ | refine blk_drew ?_ | refine blk_alloc ?_ _)); refine blk_put (cs := #[.int .i64 6, .string (⟨#[]⟩ : ByteArray)]) ?_ 0 _ rfl; (with_reducible repeat (first | refine blk_drewN ?_ _ | refine blk_drew ?_ | refine blk_alloc ?_ _)); refine blk_far ?_ NB419_420.out _; (with_reducible repeat (first | refine blk_drewN ?_ _ | refine blk_drew ?_ | refine blk_alloc ?_ _)); refine blk_far ?_ NB419_420.out _; (with_reducible repeat (first | refine blk_drewN ?_ _ | refine blk_drew ?_ | refine blk_alloc ?_ _)); refine blk_put (cs := #[.int .i64 6, .string (⟨#[]⟩ : ByteArray)]) ?_ 1 _ rfl; (with_reducible repeat (first | refine blk_drewN ?_ _ | refine blk_drew ?_ | refine blk_alloc ?_ _)); refine blk_put (cs := #[.int .i64 0, .string (⟨#[]⟩ : ByteArray)]) ?_ 0 _ rfl; (with_reducible repeat (first | refine blk_drewN ?_ _ | refine blk_drew ?_ | refine blk_alloc ?_ _)); exact BK419.out⟩, ⟨by (with_reducible repeat (first | refine blk_drewN ?_ _ | refine blk_drew ?_ | refine blk_alloc ?_ _)); refine blk_far ?_ NB420_419.out _; (with_reducible repeat (first | refine blk_drewN ?_ _ | refine blk_drew ?_ | refine blk_alloc ?_ _)); refine blk_far ?_ NB420_419.out _; (with_reducible repeat (first | refine blk_drewN ?_ _ | refine blk_drew ?_ | refine blk_alloc ?_ _)); refine blk_put (cs := #[.int .i64 6, .string (⟨#[]⟩ : ByteArray)]) ?_ 1 _ rfl; (with_reducible repeat (first | refine blk_drewN ?_ _ | refine blk_drew ?_ | refine blk_alloc ?_ _)); refine blk_put (cs := #[.int .i64 0, .string (⟨#[]⟩ : ByteArray)]) ?_ 0 _ rfl; (with_reducible repeat (first | refine blk_drewN ?_ _ | refine blk_drew ?_ | refine blk_alloc ?_ _)); refine blk_far ?_ NB420_419.out _; (with_reducible repeat (first | refine blk_drewN ?_ _ | refine blk_drew ?_ | refine blk_alloc ?_ _)); refine blk_far ?_ NB420_419.out _; (with_reducible repeat (first | refine blk_drewN ?_ _ | refine blk_drew ?_ | refine blk_alloc ?_ _)); exact BK420.out⟩, ⟨bG⟩⟩
   clear HC6
   try clear c1
   try clear p2
   try clear c4
   try clear c4b0
   try clear p4
   try clear q4
   try clear hx4
   try clear c5
   try clear c9
   try clear c12
   try clear c12b0
   try clear c13
   try clear c13b0
   try clear c14
   try clear hcz10_0
   try clear hcz10_1
   try clear hcz11_0
   try clear hcz11_1
   try clear hcz15_0
   try clear hcz15_1
   try clear hfz10_0
   try clear hfz10_1
   try clear hfz11_0
   try clear hfz11_1
   try clear hfz15_0
   try clear hfz15_1
   try clear hx421_0
   try clear hx421_1
   try clear p2
   try clear p421
   try clear q421
   obtain ⟨kq, x420000_5, x420001_5, HA, HJ5, BK419, BK420, HB⟩ := hcut
   cases kq with
   | zero => exact absurd HA.out (by simp [newelref05_Words.j2])
   | succ kj5 =>
    have H := HA.out
    clear HA
    simp only [newelref05_Words.j2] at H
    (try simp only [toList_lit] at H)
    by_cases c16 : x5_1 < (l1.length : Int)
    rotate_left
    ·rw [if_neg c16] at H
     have c16b0 := dF c16
     clear c16
     replace H := bi H
     obtain ⟨t424, A280, H⟩ := H
     try dsimp only at H
     have A28 := Aside0.mk A280
     clear A280
     by_cases c29 : t424 = 0
     rotate_left
     ·rw [if_neg c29] at H
      obtain ⟨c29b0, c29b1⟩ := eqF c29
      obtain rfl := Option.some.inj H
      have hnb34 := NB419_420.out
      have hnc34 := NB420_419.out
      obtain ⟨hcz35_0, hcz35_1, hfz35_0, hfz35_1⟩ := cells2 BK419
      obtain ⟨hcz36_0, hcz36_1, hfz36_0, hfz36_1⟩ := cells2 BK420
      go_wp2_with (first | (refine gl (some 41) Tryd.func122 #[.agg #[.int .i64 x420000_5, .string x420001_5], .agg #[.int .i64 6, .string (⟨#[]⟩ : ByteArray)]] ?_; (with_reducible refine (newelref05_one.calls kj5 x420000_5 x420001_5 6 (⟨#[]⟩ : ByteArray) t424 _ (gS HG) A28.out).mono ?_); rintro e w37 ⟨rfl, hb⟩; refine ⟨_, rfl, ?_⟩; replace BK419 := kB BK419 hb; replace BK420 := kB BK420 hb; replace HB := sB hb; (try clear hb)))
      go_ret
      exact ⟨eA, bG⟩
     rw [if_pos c29] at H
     obtain ⟨c29b0, c29b1⟩ := eqT c29
     clear c29
     have H' := Aside0.mk H
     clear H
     have hnb30 := NB419_420.out
     have hnc30 := NB420_419.out
     obtain ⟨hcz31_0, hcz31_1, hfz31_0, hfz31_1⟩ := cells2 BK419
     obtain ⟨hcz32_0, hcz32_1, hfz32_0, hfz32_1⟩ := cells2 BK420
     go_wp2_with (first | (refine gl (some 41) Tryd.func122 #[.agg #[.int .i64 x420000_5, .string x420001_5], .agg #[.int .i64 6, .string (⟨#[]⟩ : ByteArray)]] ?_; (with_reducible refine (newelref05_one.calls kj5 x420000_5 x420001_5 6 (⟨#[]⟩ : ByteArray) t424 _ (gS HG) A28.out).mono ?_); rintro e w33 ⟨rfl, hb⟩; refine ⟨_, rfl, ?_⟩; replace BK419 := kB BK419 hb; replace BK420 := kB BK420 hb; replace HB := sB hb; (try clear hb)))
     go_roundg kj5
     case measure => have := HK1.out; have := HJ2.out; have := HJ5.out; omega
     case rel => exact ⟨(wrap64 (x5_1 + 1)), cA, H', ⟨by have := HK1.out; have := HJ2.out; have := HJ5.out; omega⟩, ⟨bG⟩⟩
    rw [if_pos c16] at H
    have c16b0 := dT c16
    clear c16
    by_cases c17 : 0 ≤ x5_1
    rotate_left
    ·rw [if_neg c17] at H
     exact absurd H (by simp)
    rw [if_pos c17] at H
    have c17b0 := dT c17
    clear c17
    replace H := bi H
    obtain ⟨t423, A180, H⟩ := H
    try dsimp only at H
    have A18 := Aside0.mk A180
    clear A180
    by_cases c19 : t423 = 0
    rotate_left
    ·rw [if_neg c19] at H
     obtain ⟨c19b0, c19b1⟩ := eqF c19
     obtain rfl := Option.some.inj H
     have p422 : 0 ≤ (x5_1 : Int) := dA
     have q422 : x5_1 < (l1.length : Int) := dA
     obtain ⟨ad422, e422, hx422_0, hx422_1⟩ := at_T38 HR1.out x5_1 p422 q422
     cases e422
     replace hx422_0 := (HB.out.cell (World.block_lt_of_cell? w _ hx422_0)).trans hx422_0
     replace hx422_1 := (HB.out.cell (World.block_lt_of_cell? w _ hx422_1)).trans hx422_1
     replace p422 := eq_true p422
     replace q422 := eq_true q422
     have hnb24 := NB420_419.out
     have hnc24 := NB419_420.out
     obtain ⟨hcz25_0, hcz25_1, hfz25_0, hfz25_1⟩ := cells2 BK420
     obtain ⟨hcz26_0, hcz26_1, hfz26_0, hfz26_1⟩ := cells2 BK419
     go_wp2_with (first | (refine gl (some 41) Tryd.func122 #[.agg #[.int .i64 x420000_5, .string x420001_5], .agg #[.int .i64 ((rd_T38 l1 x5_1).f0), .string ((rd_T38 l1 x5_1).f1)]] ?_; (with_reducible refine (newelref05_one.calls kj5 x420000_5 x420001_5 ((rd_T38 l1 x5_1).f0) ((rd_T38 l1 x5_1).f1) t423 _ (gS HG) A18.out).mono ?_); rintro e w27 ⟨rfl, hb⟩; refine ⟨_, rfl, ?_⟩; replace BK419 := Aside0.mk (blk_below (g := gb419) (o := .cells #[.int .i64 x420000_5, .string x420001_5] 38 (0, 0)) (by (with_reducible repeat (first | refine blk_drewN ?_ _ | refine blk_drew ?_ | refine blk_alloc ?_ _)); refine blk_far ?_ NB419_420.out _; (with_reducible repeat (first | refine blk_drewN ?_ _ | refine blk_drew ?_ | refine blk_alloc ?_ _)); refine blk_far ?_ NB419_420.out _; (with_reducible repeat (first | refine blk_drewN ?_ _ | refine blk_drew ?_ | refine blk_alloc ?_ _)); exact BK419.out) hb); replace BK420 := Aside0.mk (blk_below (g := gb420) (o := .cells #[.int .i64 ((rd_T38 l1 x5_1).f0), .string ((rd_T38 l1 x5_1).f1)] 38 (0, 0)) (bP BK420) hb); replace HB := sB hb; (try clear hb)))
     go_ret
     exact ⟨eA, bG⟩
    rw [if_pos c19] at H
    obtain ⟨c19b0, c19b1⟩ := eqT c19
    clear c19
    have H' := Aside0.mk H
    clear H
    have p422 : 0 ≤ (x5_1 : Int) := dA
    have q422 : x5_1 < (l1.length : Int) := dA
    obtain ⟨ad422, e422, hx422_0, hx422_1⟩ := at_T38 HR1.out x5_1 p422 q422
    cases e422
    replace hx422_0 := (HB.out.cell (World.block_lt_of_cell? w _ hx422_0)).trans hx422_0
    replace hx422_1 := (HB.out.cell (World.block_lt_of_cell? w _ hx422_1)).trans hx422_1
    replace p422 := eq_true p422
    replace q422 := eq_true q422
    have hnb20 := NB420_419.out
    have hnc20 := NB419_420.out
    obtain ⟨hcz21_0, hcz21_1, hfz21_0, hfz21_1⟩ := cells2 BK420
    obtain ⟨hcz22_0, hcz22_1, hfz22_0, hfz22_1⟩ := cells2 BK419
    go_wp2_with (first | (refine gl (some 41) Tryd.func122 #[.agg #[.int .i64 x420000_5, .string x420001_5], .agg #[.int .i64 ((rd_T38 l1 x5_1).f0), .string ((rd_T38 l1 x5_1).f1)]] ?_; (with_reducible refine (newelref05_one.calls kj5 x420000_5 x420001_5 ((rd_T38 l1 x5_1).f0) ((rd_T38 l1 x5_1).f1) t423 _ (gS HG) A18.out).mono ?_); rintro e w23 ⟨rfl, hb⟩; refine ⟨_, rfl, ?_⟩; replace BK419 := Aside0.mk (blk_below (g := gb419) (o := .cells #[.int .i64 x420000_5, .string x420001_5] 38 (0, 0)) (by (with_reducible repeat (first | refine blk_drewN ?_ _ | refine blk_drew ?_ | refine blk_alloc ?_ _)); refine blk_far ?_ NB419_420.out _; (with_reducible repeat (first | refine blk_drewN ?_ _ | refine blk_drew ?_ | refine blk_alloc ?_ _)); refine blk_far ?_ NB419_420.out _; (with_reducible repeat (first | refine blk_drewN ?_ _ | refine blk_drew ?_ | refine blk_alloc ?_ _)); exact BK419.out) hb); replace BK420 := Aside0.mk (blk_below (g := gb420) (o := .cells #[.int .i64 ((rd_T38 l1 x5_1).f0), .string ((rd_T38 l1 x5_1).f1)] 38 (0, 0)) (bP BK420) hb); replace HB := sB hb; (try clear hb)))
    go_roundg kj5
    case measure => have := HK1.out; have := HJ2.out; have := HJ5.out; omega
    case rel => exact ⟨(wrap64 (x5_1 + 1)), cA, H', ⟨by have := HK1.out; have := HJ2.out; have := HJ5.out; omega⟩, ⟨bG⟩⟩
def newelref05_Compare.f (k : Nat) (a0 : ByteArray) (a1 : ByteArray) : Option (Int) := (newelref05_Split.f k a0).bind fun t425 => ((newelref05_Split.f k a1).bind fun t428 => ((newelref05_Words.f k t425 t428).bind fun t431 => (some t431)))
theorem newelref05_Compare.mono : ∀ a0 a1 k, LeO (newelref05_Compare.f k a0 a1) (newelref05_Compare.f (k + 1) a0 a1) := by
 intro a0 a1 k
 unfold newelref05_Compare.f
 have m0 := @newelref05_Split.mono
 have m1 := @newelref05_Words.mono
 exact mo
theorem newelref05_Compare.calls (k : Nat) (a0 : ByteArray) (a1 : ByteArray) (r : Int) (w : World) (hG : Glob w) (h : newelref05_Compare.f k a0 a1 = some r) :
 Calls Tryd.prog 55 #[.string a0, .string a1] w fun e w' => e = .returned (.int .i64 r) ∧ Below w.heap.size w w' := by
 have HG := Aside0.mk hG
 clear hG
 have HB := Aside0.mk (Below.refl w.heap.size w)
 have H : ((newelref05_Split.f k a0).bind fun t425 => ((newelref05_Split.f k a1).bind fun t428 => ((newelref05_Words.f k t425 t428).bind fun t431 => (some t431)))) = some r := h
 clear h
 replace H := bi H
 obtain ⟨t425, A30, H⟩ := H
 try dsimp only at H
 have A3 := Aside0.mk A30
 clear A30
 replace H := bi H
 obtain ⟨t428, A40, H⟩ := H
 try dsimp only at H
 have A4 := Aside0.mk A40
 clear A40
 replace H := bi H
 obtain ⟨t431, A50, H⟩ := H
 try dsimp only at H
 have A5 := Aside0.mk A50
 clear A50
 obtain rfl := Option.some.inj H
 go_enter Tryd.func55, Tryd.ntmps55
 go_wp2_with (first | (refine gl (some 6) Tryd.func32 #[.string a0] ?_; (with_reducible refine (newelref05_Split.calls k a0 t425 _ (gS HG) A3.out).mono ?_); rintro e w6 ⟨v426, rfl, ho0, hb⟩; refine ⟨_, rfl, ?_⟩; have HO427 := Aside0.mk (Kd.R_lower ho0 (below_size bE)); replace HB := sB hb; (try clear hb); (try clear ho0)) | (refine gl (some 8) Tryd.func32 #[.string a1] ?_; (with_reducible refine (newelref05_Split.calls k a1 t428 _ (gS HG) A4.out).mono ?_); rintro e w7 ⟨v429, rfl, ho0, hb⟩; refine ⟨_, rfl, ?_⟩; have HO430 := Aside0.mk (Kd.R_lower (Kd.R_new' ho0 (Kd.R_lt (kR HO427))) (below_size bE)); replace HO427 := Aside0.mk (Kd.R_elder' (kR HO427) (Kd.R_base ho0) hb); replace HB := sB hb; (try clear hb); (try clear ho0); obtain ⟨Ao8, co8, eo8⟩ := Kd.R_slice HO427.out; subst eo8; obtain ⟨Ao9, co9, eo9⟩ := Kd.R_slice HO430.out; subst eo9) | (refine gl (some 9) Tryd.func91 #[.slice Ao8 t425.length co8, .slice Ao9 t428.length co9] ?_; (with_reducible refine (newelref05_Words.calls k _ _ t425 _ _ t428 t431 _ ?side1 ?side2 ?side3 ?side4 (gS HG) A5.out).mono ?_); (case side1 => repeat (first | exact (Kd.R_reads' HO427.out).2.2 | (with_reducible refine Kd.C_alloc ?_ _) | (with_reducible refine Kd.C_drewN ?_ _) | (with_reducible refine Kd.C_drew ?_))); (case side2 => exact (Kd.R_reads' HO427.out).2.1); (case side3 => repeat (first | exact (Kd.R_reads' HO430.out).2.2 | (with_reducible refine Kd.C_alloc ?_ _) | (with_reducible refine Kd.C_drewN ?_ _) | (with_reducible refine Kd.C_drew ?_))); (case side4 => exact (Kd.R_reads' HO430.out).2.1); rintro e w10 ⟨rfl, hb⟩; refine ⟨_, rfl, ?_⟩; replace HO427 := rB HO427 hb; replace HO430 := rB HO430 hb; replace HB := sB hb; (try clear hb)))
 go_ret
 exact ⟨eA, bE⟩
mutual
def newellaw08_ChooseMore.j1 : Nat → Int → Int → List ByteArray → Option (Bool)
 | 0, _, _, _ => none
 | k + 1, x1, x2, x7 => (newelhelp_Digits.f k (wrap64 (1 + (wrap64 (Int.tmod (IntKind.u64.wrap (x2)) 50))))).bind fun t489 => (if 1 + t489.size ≤ 9223372036854775807 then (if ((⟨#[91]⟩ : ByteArray) ++ t489).size + 2 ≤ 9223372036854775807 then ((choose_Pick.f k x7 (((⟨#[91]⟩ : ByteArray) ++ t489) ++ (⟨#[44, 41]⟩ : ByteArray))).bind fun bt490 => (if ([] : List ByteArray).length + x7.length < 8796093022208 then ((some (([] : List ByteArray) ++ x7 : List ByteArray)).bind fun y492 => ((newelhelp_Digits.f k (wrap64 (1 + (wrap64 (Int.tmod (IntKind.u64.wrap (x1)) 50))))).bind fun t495 => (if y492.length < 8796093022208 then ((choose_Pick.f k (y492 ++ [t495]) (((⟨#[91]⟩ : ByteArray) ++ t489) ++ (⟨#[44, 41]⟩ : ByteArray))).bind fun bt499 => ((newellaw08_awake.f k).bind fun t501 => (if t501 = true then (newellaw08_ChooseMore.j2 k x7 (((⟨#[91]⟩ : ByteArray) ++ t489) ++ (⟨#[44, 41]⟩ : ByteArray)) bt490.1 bt490.2 bt499.1 bt499.2 (bt490.2 != 0)) else (newellaw08_ChooseMore.j2 k x7 (((⟨#[91]⟩ : ByteArray) ++ t489) ++ (⟨#[44, 41]⟩ : ByteArray)) bt490.1 bt490.2 bt499.1 bt499.2 true)))) else (none)))) else (none))) else (none)) else (none))
def newellaw08_ChooseMore.j2 : Nat → List ByteArray → ByteArray → ByteArray → Int → ByteArray → Int → Bool → Option (Bool)
 | 0, _, _, _, _, _, _, _ => none
 | k + 1, x7, x9, x10, x11, x12, x13, x74 => if x74 = true then ((newellaw08_awake.f k).bind fun t502 => (if t502 = true then (if x11 = 13 then (if x13 = 0 then (some true) else (some (x13 == 13))) else (some false)) else (some false))) else (newellaw08_ChooseMore.l1 k x7 x9 x10 x12 x13 ([] : List ByteArray) 0)
def newellaw08_ChooseMore.l1 : Nat → List ByteArray → ByteArray → ByteArray → ByteArray → Int → List ByteArray → Int → Option (Bool)
 | 0, _, _, _, _, _, _, _ => none
 | k + 1, x7, x9, x10, x12, x13, x14, x15 => if x15 < (x7.length : Int) then (if 0 ≤ x15 then (if (rdOf ByteArray.empty x7 x15).toList = x10.toList then (newellaw08_ChooseMore.l1 k x7 x9 x10 x12 x13 x14 (wrap64 (x15 + 1))) else (if x14.length < 8796093022208 then (newellaw08_ChooseMore.l1 k x7 x9 x10 x12 x13 (x14 ++ [rdOf ByteArray.empty x7 x15]) (wrap64 (x15 + 1))) else (none))) else (none)) else ((choose_Pick.f k x14 x9).bind fun bt508 => (if x13 = 0 then ((newelref05_Compare.f k x12 x10).bind fun t510 => (if t510 ≥ 0 then (if bt508.2 = 13 then (some true) else (if bt508.2 = 0 then ((newelref05_Compare.f k bt508.1 x10).bind fun t511 => (some (decide (t511 < 0)))) else (some false))) else (some false))) else (some false)))
def newellaw08_ChooseMore.l0 : Nat → List Int → Int → Int → List ByteArray → Int → Option (Bool)
 | 0, _, _, _, _, _ => none
 | k + 1, x0, x1, x2, x7, x8 => if x8 < (x0.length : Int) then (if x8 < 20 then (if 0 ≤ x8 then ((newelhelp_Digits.f k (wrap64 (1 + (wrap64 (Int.tmod (IntKind.u64.wrap (rd x0 x8)) 50))))).bind fun t485 => (if x7.length < 8796093022208 then (newellaw08_ChooseMore.l0 k x0 x1 x2 (x7 ++ [t485]) (wrap64 (x8 + 1))) else (none))) else (none)) else (newellaw08_ChooseMore.j1 k x1 x2 x7)) else (newellaw08_ChooseMore.j1 k x1 x2 x7)
end
def newellaw08_ChooseMore.f (k : Nat) (l0 : List Int) (a1 : Int) (a2 : Int) : Option (Bool) := newellaw08_ChooseMore.l0 k l0 a1 a2 ([] : List ByteArray) 0
theorem newellaw08_ChooseMore.mono_l : ∀ k, (∀ y0 y1 y2, LeO (newellaw08_ChooseMore.j1 k y0 y1 y2) (newellaw08_ChooseMore.j1 (k + 1) y0 y1 y2)) ∧ (∀ y0 y1 y2 y3 y4 y5 y6, LeO (newellaw08_ChooseMore.j2 k y0 y1 y2 y3 y4 y5 y6) (newellaw08_ChooseMore.j2 (k + 1) y0 y1 y2 y3 y4 y5 y6)) ∧ (∀ y0 y1 y2 y3 y4 y5 y6, LeO (newellaw08_ChooseMore.l1 k y0 y1 y2 y3 y4 y5 y6) (newellaw08_ChooseMore.l1 (k + 1) y0 y1 y2 y3 y4 y5 y6)) ∧ (∀ y0 y1 y2 y3 y4, LeO (newellaw08_ChooseMore.l0 k y0 y1 y2 y3 y4) (newellaw08_ChooseMore.l0 (k + 1) y0 y1 y2 y3 y4))
 | 0 => ⟨fun _ _ _ r h => by simp [newellaw08_ChooseMore.j1] at h, fun _ _ _ _ _ _ _ r h => by simp [newellaw08_ChooseMore.j2] at h, fun _ _ _ _ _ _ _ r h => by simp [newellaw08_ChooseMore.l1] at h, fun _ _ _ _ _ r h => by simp [newellaw08_ChooseMore.l0] at h⟩
 | k + 1 => by
  obtain ⟨ih0, ih1, ih2, ih3⟩ := newellaw08_ChooseMore.mono_l k
  refine ⟨?_, ?_, ?_, ?_⟩
  ·intro y0 y1 y2
   unfold newellaw08_ChooseMore.j1
   have m0 := @choose_Pick.mono
   have m1 := @newelhelp_Digits.mono
   have m2 := @newellaw08_awake.mono
   have m3 := @newelref05_Compare.mono
   exact mo
  ·intro y0 y1 y2 y3 y4 y5 y6
   unfold newellaw08_ChooseMore.j2
   have m0 := @choose_Pick.mono
   have m1 := @newelhelp_Digits.mono
   have m2 := @newellaw08_awake.mono
   have m3 := @newelref05_Compare.mono
   exact mo
  ·intro y0 y1 y2 y3 y4 y5 y6
   unfold newellaw08_ChooseMore.l1
   have m0 := @choose_Pick.mono
   have m1 := @newelhelp_Digits.mono
   have m2 := @newellaw08_awake.mono
   have m3 := @newelref05_Compare.mono
   exact mo
  ·intro y0 y1 y2 y3 y4
   unfold newellaw08_ChooseMore.l0
   have m0 := @choose_Pick.mono
   have m1 := @newelhelp_Digits.mono
   have m2 := @newellaw08_awake.mono
   have m3 := @newelref05_Compare.mono
   exact mo
theorem newellaw08_ChooseMore.calls (k : Nat) (A0 : Option Addr) (c0 : Nat) (l0 : List Int) (a1 : Int) (a2 : Int) (r : Bool) (w : World) (hr0 : Kd.C (Kd.int .i64) w A0 l0.length l0) (hc0 : l0.length ≤ c0) (hG : Glob w) (h : newellaw08_ChooseMore.f k l0 a1 a2 = some r) (hr_ : r = true) :
 Calls Tryd.prog 16 #[.slice A0 l0.length c0, .int .i64 a1, .int .i64 a2] w fun e w' => e = .returned (.bool r) ∧ Below w.heap.size w w' := by
 have HG := Aside0.mk hG
 clear hG
 have HR0 := Aside0.mk hr0
 have HC0 := Aside0.mk hc0
 clear hr0 hc0
 have HB := Aside0.mk (Below.refl w.heap.size w)
 have H : (newellaw08_ChooseMore.l0 k l0 a1 a2 ([] : List ByteArray) 0) = some r := h
 clear h
 have HC4 := Aside0.mk H
 clear H
 go_enter Tryd.func16, Tryd.ntmps16
 go_upto_block 0 with (fail)
 go_cut [7] (fun v7 wc => ∃ (kq : Nat) (x7_3 : List ByteArray), Aside0 (newellaw08_ChooseMore.j1 kq a1 a2 x7_3 = some r) ∧ Aside0 (kq ≤ k) ∧ Aside0 (Kd.R Kd.string 9 wc w.heap.size (fun _ => True) v7 x7_3) ∧ Aside0 (Below w.heap.size w wc))
 case first =>
  have H := HC4.out
  clear HC4
  have H' := Aside0.mk H
  clear H
  go_wp2
  go_loopg [7, 8] k (fun kq v7 v8 w' => ∃ (x7_1 : List ByteArray) (x8_1 : Int), v8 = .int .i64 x8_1 ∧ Aside0 (newellaw08_ChooseMore.l0 kq l0 a1 a2 x7_1 x8_1 = some r) ∧ Aside0 (kq ≤ k) ∧ Aside0 (Kd.R Kd.string 9 w' w.heap.size (fun _ => True) v7 x7_1) ∧ Aside0 (Below w.heap.size w w'))
  case atStart => exact ⟨(([] : List ByteArray)), (0), cA, H', ⟨Nat.le_refl _⟩, ⟨by first | exact Kd.R_nil _ _ _ _ _ | exact Kd.N_nil _ _ _ _ _ | exact Kd.V_nil _ _ _ _ _ | exact Kd.Q_nil _ _ _ _ _ | exact Kd.S_nil _ _ _ _ _⟩, ⟨bE⟩⟩
  clear H'
  try clear c1
  try clear p2
  obtain ⟨x7_1, x8_1, rfl, HA, HK1, HO_7, HB⟩ := hrel
  cases gk with
  | zero => exact absurd HA.out (by simp [newellaw08_ChooseMore.l0])
  | succ k1 =>
   have H := HA.out
   clear HA
   simp only [newellaw08_ChooseMore.l0] at H
   by_cases c5 : x8_1 < (l0.length : Int)
   rotate_left
   ·rw [if_neg c5] at H
    have c5b0 := dF c5
    clear c5
    (first | rw [c5b0] | (simp only [i64_w, i32_w]; rw [c5b0]) | skip)
    have H' := Aside0.mk H
    clear H
    go_wp2
    go_meet
    case rel => exact ⟨_, (x7_1), H', ⟨by have := HK1.out; first | omega | exact Nat.le_refl _⟩, ⟨kR HO_7⟩, ⟨bE⟩⟩
   rw [if_pos c5] at H
   have c5b0 := dT c5
   clear c5
   (first | rw [c5b0] | (simp only [i64_w, i32_w]; rw [c5b0]) | skip)
   by_cases c6 : x8_1 < 20
   rotate_left
   ·rw [if_neg c6] at H
    have c6b0 := dF c6
    clear c6
    have H' := Aside0.mk H
    clear H
    go_wp2
    go_meet
    case rel => exact ⟨_, (x7_1), H', ⟨by have := HK1.out; first | omega | exact Nat.le_refl _⟩, ⟨kR HO_7⟩, ⟨bE⟩⟩
   rw [if_pos c6] at H
   have c6b0 := dT c6
   clear c6
   by_cases c7 : 0 ≤ x8_1
   rotate_left
   ·rw [if_neg c7] at H
    exact absurd H (by simp)
   rw [if_pos c7] at H
   have c7b0 := dT c7
   clear c7
   replace H := bi H
   obtain ⟨t485, A80, H⟩ := H
   try dsimp only at H
   have A8 := Aside0.mk A80
   clear A80
   by_cases c9 : x7_1.length < 8796093022208
   rotate_left
   ·rw [if_neg c9] at H
    exact absurd H (by simp)
   rw [if_pos c9] at H
   have LMc9 := Aside0.mk c9
   clear c9
   obtain ⟨y486, hy486⟩ : ∃ y_ : List ByteArray, y_ = (x7_1 ++ [t485]) := ⟨_, rfl⟩
   replace H : (newellaw08_ChooseMore.l0 k1 l0 a1 a2 y486 (wrap64 (x8_1 + 1))) = some r := by first | (rw [hy486]; with_reducible exact H) | (have H2_ := (Option.bind_some _ _).symm.trans H; rw [hy486]; with_reducible exact H2_) | (have H2_ := (Option.bind_some _ _).symm.trans H; with_reducible exact H2_) | with_reducible exact H | (rw [hy486]; exact H) | exact H
   have Ny486 := Aside0.mk hy486
   clear hy486
   have H' := Aside0.mk H
   clear H
   have p484 : 0 ≤ (x8_1 : Int) := dA
   have q484 : x8_1 < (l0.length : Int) := dA
   obtain ⟨ad484, e484, hx484_0⟩ := Kd.at_int HR0.out x8_1 p484 q484
   cases e484
   replace hx484_0 := (HB.out.cell (World.block_lt_of_cell? w _ hx484_0)).trans hx484_0
   replace p484 := eq_true p484
   replace q484 := eq_true q484
   go_wp2_with (first | (refine gl (some 37) Tryd.func33 #[.int .i64 (wrap64 (1 + (wrap64 (Int.tmod (IntKind.u64.wrap (rd l0 x8_1)) 50))))] ?_; (with_reducible refine (newelhelp_Digits.calls k1 (wrap64 (1 + (wrap64 (Int.tmod (IntKind.u64.wrap (rd l0 x8_1)) 50)))) t485 _ (gS HG) A8.out).mono ?_); rintro e w10 ⟨rfl, hb⟩; refine ⟨_, rfl, ?_⟩; replace HO_7 := rB HO_7 hb; replace HB := sB hb; (try clear hb)) | ((with_reducible refine gate_builtin (b := .append) (xs := #[.tmp 28, .tmp 38]) rfl ?_); at_builtin; refine Kd.R_append Kd.string (w0 := w) w.heap.size rfl (.tmp 28) (.tmp 38) 43 9 (.string ⟨#[]⟩) 16 rfl Tryd.underlying43 info9 rfl (by decide) (by omega) u7 x7_1 t485 [.string t485] (fun _ => True) (fun _ => False) rfl rfl ?aP (fun _ hk => hk.elim) ?aF ?aO ?aB ?aS ?aL ?_; (case aP => exact rfl); (case aB => exact bE); (case aF => exact (fun _ _ => trivial)); (case aO => exact (kR HO_7)); (case aS => exact (below_size bE)); (case aL => have := LMc9.out; omega); intro v487 w11 ho hb hg hat; rw [← Ny486.out] at ho; replace HB := Aside0.mk (hb); have HO488 := Aside0.mk (ho); clear HO_7; clear ho hb hg hat))
   go_roundg k1
   case measure => have := HK1.out; omega
   case rel => exact ⟨(y486), (wrap64 (x8_1 + 1)), cA, H', ⟨by have := HK1.out; omega⟩, ⟨kR HO488⟩, ⟨bE⟩⟩
 clear HC4
 try clear c1
 try clear p2
 try clear c3
 try clear p4
 try clear q4
 try clear hx4
 try clear c5
 try clear c5b0
 try clear c6
 try clear c6b0
 try clear p6
 try clear c7
 try clear c7b0
 try clear c9
 try clear hx484_0
 try clear p2
 try clear p484
 try clear q484
 obtain ⟨kq, x7_3, HA, HJ3, HO_7, HB⟩ := hcut
 cases kq with
 | zero => exact absurd HA.out (by simp [newellaw08_ChooseMore.j1])
 | succ kj3 =>
  have H := HA.out
  clear HA
  simp only [newellaw08_ChooseMore.j1] at H
  replace H := bi H
  obtain ⟨t489, A120, H⟩ := H
  try dsimp only at H
  have A12 := Aside0.mk A120
  clear A120
  by_cases c13 : 1 + t489.size ≤ 9223372036854775807
  rotate_left
  ·rw [if_neg c13] at H
   exact absurd H (by simp)
  rw [if_pos c13] at H
  have c13b0 := eq_true c13
  have c13b1 := dT c13
  try have c13b2 : (9223372036854775807 < 1 + t489.size) = False := eq_false (Nat.not_lt.2 c13)
  by_cases c14 : ((⟨#[91]⟩ : ByteArray) ++ t489).size + 2 ≤ 9223372036854775807
  rotate_left
  ·rw [if_neg c14] at H
   exact absurd H (by simp)
  rw [if_pos c14] at H
  have c14b0 := eq_true c14
  have c14b1 := dT c14
  try have c14b2 : (9223372036854775807 < ((⟨#[91]⟩ : ByteArray) ++ t489).size + 2) = False := eq_false (Nat.not_lt.2 c14)
  have c14n : (1 + t489.size) + 2 ≤ 9223372036854775807 := by have z_ := c14; simp only [ByteArray.size_append] at z_; exact z_
  have c14m : (9223372036854775807 < (1 + t489.size) + 2) = False := eq_false (Nat.not_lt.2 c14n)
  clear c14 c14b0 c14b1
  try clear c14b2
  replace H := bi H
  obtain ⟨⟨t490, t491⟩, A150, H⟩ := H
  try dsimp only at H
  have A15 := Aside0.mk A150
  clear A150
  by_cases c16 : ([] : List ByteArray).length + x7_3.length < 8796093022208
  rotate_left
  ·rw [if_neg c16] at H
   exact absurd H (by simp)
  rw [if_pos c16] at H
  have LMc16 := Aside0.mk c16
  clear c16
  obtain ⟨y492, hy492⟩ : ∃ y_ : List ByteArray, y_ = (([] : List ByteArray) ++ x7_3) := ⟨_, rfl⟩
  replace H : ((newelhelp_Digits.f kj3 (wrap64 (1 + (wrap64 (Int.tmod (IntKind.u64.wrap (a1)) 50))))).bind fun t495 => (if y492.length < 8796093022208 then ((choose_Pick.f kj3 (y492 ++ [t495]) (((⟨#[91]⟩ : ByteArray) ++ t489) ++ (⟨#[44, 41]⟩ : ByteArray))).bind fun bt499 => ((newellaw08_awake.f kj3).bind fun t501 => (if t501 = true then (newellaw08_ChooseMore.j2 kj3 x7_3 (((⟨#[91]⟩ : ByteArray) ++ t489) ++ (⟨#[44, 41]⟩ : ByteArray)) t490 t491 bt499.1 bt499.2 (t491 != 0)) else (newellaw08_ChooseMore.j2 kj3 x7_3 (((⟨#[91]⟩ : ByteArray) ++ t489) ++ (⟨#[44, 41]⟩ : ByteArray)) t490 t491 bt499.1 bt499.2 true)))) else (none))) = some r := by first | (rw [hy492]; with_reducible exact H) | (have H2_ := (Option.bind_some _ _).symm.trans H; rw [hy492]; with_reducible exact H2_) | (have H2_ := (Option.bind_some _ _).symm.trans H; with_reducible exact H2_) | with_reducible exact H | (rw [hy492]; exact H) | exact H
  have Ny492 := Aside0.mk hy492
  clear hy492
  replace H := bi H
  obtain ⟨t495, A170, H⟩ := H
  try dsimp only at H
  have A17 := Aside0.mk A170
  clear A170
  by_cases c18 : y492.length < 8796093022208
  rotate_left
  ·rw [if_neg c18] at H
   exact absurd H (by simp)
  rw [if_pos c18] at H
  have LMc18 := Aside0.mk c18
  clear c18
  obtain ⟨y496, hy496⟩ : ∃ y_ : List ByteArray, y_ = (y492 ++ [t495]) := ⟨_, rfl⟩
  replace H : ((choose_Pick.f kj3 y496 (((⟨#[91]⟩ : ByteArray) ++ t489) ++ (⟨#[44, 41]⟩ : ByteArray))).bind fun bt499 => ((newellaw08_awake.f kj3).bind fun t501 => (if t501 = true then (newellaw08_ChooseMore.j2 kj3 x7_3 (((⟨#[91]⟩ : ByteArray) ++ t489) ++ (⟨#[44, 41]⟩ : ByteArray)) t490 t491 bt499.1 bt499.2 (t491 != 0)) else (newellaw08_ChooseMore.j2 kj3 x7_3 (((⟨#[91]⟩ : ByteArray) ++ t489) ++ (⟨#[44, 41]⟩ : ByteArray)) t490 t491 bt499.1 bt499.2 true)))) = some r := by first | (rw [hy496]; with_reducible exact H) | (have H2_ := (Option.bind_some _ _).symm.trans H; rw [hy496]; with_reducible exact H2_) | (have H2_ := (Option.bind_some _ _).symm.trans H; with_reducible exact H2_) | with_reducible exact H | (rw [hy496]; exact H) | exact H
  have Ny496 := Aside0.mk hy496
  clear hy496
  replace H := bi H
  obtain ⟨⟨t499, t500⟩, A190, H⟩ := H
  try dsimp only at H
  have A19 := Aside0.mk A190
  clear A190
  have HC20 := Aside0.mk H
  clear H
  go_upto_region 9 with (first | (refine gl (some 45) Tryd.func33 #[.int .i64 (wrap64 (1 + (wrap64 (Int.tmod (IntKind.u64.wrap (a2)) 50))))] ?_; (with_reducible refine (newelhelp_Digits.calls kj3 (wrap64 (1 + (wrap64 (Int.tmod (IntKind.u64.wrap (a2)) 50)))) t489 _ (gS HG) A12.out).mono ?_); rintro e w21 ⟨rfl, hb⟩; refine ⟨_, rfl, ?_⟩; replace HO_7 := rB HO_7 hb; replace HB := sB hb; (try clear hb); obtain ⟨Ao22, co22, eo22⟩ := Kd.R_slice HO_7.out; subst eo22) | (refine gl (some 51) Tryd.func48 #[.slice Ao22 x7_3.length co22, .string (((⟨#[91]⟩ : ByteArray) ++ t489) ++ (⟨#[44, 41]⟩ : ByteArray))] ?_; (with_reducible refine (choose_Pick.calls kj3 _ _ x7_3 (((⟨#[91]⟩ : ByteArray) ++ t489) ++ (⟨#[44, 41]⟩ : ByteArray)) t490 t491 _ ?side1 ?side2 (gS HG) A15.out).mono ?_); (case side1 => repeat (first | exact (Kd.R_reads' HO_7.out).2.2 | (with_reducible refine Kd.C_alloc ?_ _) | (with_reducible refine Kd.C_drewN ?_ _) | (with_reducible refine Kd.C_drew ?_))); (case side2 => exact (Kd.R_reads' HO_7.out).2.1); rintro e w23 ⟨rfl, hb⟩; refine ⟨_, rfl, ?_⟩; replace HO_7 := rB HO_7 hb; replace HB := sB hb; (try clear hb)) | ((with_reducible refine gate_builtin (b := .append) (xs := #[.const (.slice none 0 0), .tmp 55]) rfl ?_); at_builtin; refine Kd.R_append_rows Kd.string (w0 := w) w.heap.size rfl (.const (.slice none 0 0)) (.tmp 55) 43 9 (.string ⟨#[]⟩) 16 rfl Tryd.underlying43 info9 rfl (by decide) (by omega) (.slice none 0 0) ([] : List ByteArray) x7_3 _ _ _ (fun k_ => some k_ ≠ (.slice Ao22 x7_3.length co22 : Value).ownBlock) (fun _ => False) rfl rfl ?aO ?aR (fun _ _ h => h) (fun _ h => h.elim) ?aF ?aB ?aS ?aL ?_; (case aR => repeat (first | exact (Kd.R_reads' HO_7.out).2.2 | (with_reducible refine Kd.C_alloc ?_ _) | (with_reducible refine Kd.C_drewN ?_ _) | (with_reducible refine Kd.C_drew ?_))); (case aB => exact bE); (case aF => exact (fun k_ hk => Kd.fresh' (Kd.R_lt (kR HO_7)) k_ hk)); (case aO => exact ((Kd.R_nil _ _ _ _ (fun k_ => some k_ ≠ (.slice Ao22 x7_3.length co22 : Value).ownBlock)))); (case aS => exact (below_size bE)); (case aL => have := LMc16.out; omega); intro v493 w24 ho hb hg hat; rw [← Ny492.out] at ho; replace HO_7 := Aside0.mk (Kd.R_after (Kd.R_apart_nil (kR HO_7)) hg hat); replace HB := Aside0.mk (hb); have HO494 := Aside0.mk (ho); clear ho hb hg hat) | (refine gl (some 62) Tryd.func33 #[.int .i64 (wrap64 (1 + (wrap64 (Int.tmod (IntKind.u64.wrap (a1)) 50))))] ?_; (with_reducible refine (newelhelp_Digits.calls kj3 (wrap64 (1 + (wrap64 (Int.tmod (IntKind.u64.wrap (a1)) 50)))) t495 _ (gS HG) A17.out).mono ?_); rintro e w25 ⟨rfl, hb⟩; refine ⟨_, rfl, ?_⟩; replace HO_7 := rB HO_7 hb; replace HO494 := rB HO494 hb; replace HB := sB hb; (try clear hb)) | ((with_reducible refine gate_builtin (b := .append) (xs := #[.tmp 56, .tmp 63]) rfl ?_); at_builtin; refine Kd.R_append Kd.string (w0 := w) w.heap.size rfl (.tmp 56) (.tmp 63) 43 9 (.string ⟨#[]⟩) 16 rfl Tryd.underlying43 info9 rfl (by decide) (by omega) v493 y492 t495 [.string t495] (fun k_ => some k_ ≠ (.slice Ao22 x7_3.length co22 : Value).ownBlock) (fun _ => False) rfl rfl ?aP (fun _ hk => hk.elim) ?aF ?aO ?aB ?aS ?aL ?_; (case aP => exact rfl); (case aB => exact bE); (case aF => exact (fun k_ hk => Kd.fresh' (Kd.R_lt (kR HO_7)) k_ hk)); (case aO => exact (kR HO494)); (case aS => exact (below_size bE)); (case aL => have := LMc18.out; omega); intro v497 w26 ho hb hg hat; rw [← Ny496.out] at ho; replace HO_7 := Aside0.mk (Kd.R_after (ok := (fun _ => True)) (kR HO_7) hg hat); replace HB := Aside0.mk (hb); have HO498 := Aside0.mk (ho); clear HO494; clear ho hb hg hat; obtain ⟨Ao27, co27, eo27⟩ := Kd.R_slice HO498.out; subst eo27) | (refine gl (some 66) Tryd.func48 #[.slice Ao27 y496.length co27, .string (((⟨#[91]⟩ : ByteArray) ++ t489) ++ (⟨#[44, 41]⟩ : ByteArray))] ?_; (with_reducible refine (choose_Pick.calls kj3 _ _ y496 (((⟨#[91]⟩ : ByteArray) ++ t489) ++ (⟨#[44, 41]⟩ : ByteArray)) t499 t500 _ ?side1 ?side2 (gS HG) A19.out).mono ?_); (case side1 => repeat (first | exact (Kd.R_reads' HO498.out).2.2 | (with_reducible refine Kd.C_alloc ?_ _) | (with_reducible refine Kd.C_drewN ?_ _) | (with_reducible refine Kd.C_drew ?_))); (case side2 => exact (Kd.R_reads' HO498.out).2.1); rintro e w28 ⟨rfl, hb⟩; refine ⟨_, rfl, ?_⟩; replace HO_7 := rB HO_7 hb; replace HO498 := rB HO498 hb; replace HB := sB hb; (try clear hb)))
  (try simp only [Act.put, List.setIfInBounds_toArray, List.set_cons_zero, List.set_cons_succ])
  go_cut [74] (fun v74 wc => ∃ (kq : Nat) (x74_19 : Bool), v74 = .bool x74_19 ∧ Aside0 (newellaw08_ChooseMore.j2 kq x7_3 (((⟨#[91]⟩ : ByteArray) ++ t489) ++ (⟨#[44, 41]⟩ : ByteArray)) t490 t491 t499 t500 x74_19 = some r) ∧ Aside0 (kq ≤ kj3) ∧ Aside0 (Kd.R Kd.string 9 wc w.heap.size (fun _ => True) (.slice Ao22 x7_3.length co22) x7_3) ∧ Aside0 (Below w.heap.size w wc))
  case first =>
   have H := HC20.out
   clear HC20
   replace H := bi H
   obtain ⟨t501, A290, H⟩ := H
   try dsimp only at H
   have A29 := Aside0.mk A290
   clear A290
   by_cases c30 : t501 = true
   ·subst c30
    have H1 : (newellaw08_ChooseMore.j2 kj3 x7_3 (((⟨#[91]⟩ : ByteArray) ++ t489) ++ (⟨#[44, 41]⟩ : ByteArray)) t490 t491 t499 t500 (t491 != 0)) = some r := by rw [if_pos rfl] at H; exact H
    clear H
    have H := H1
    clear H1
    have H' := Aside0.mk H
    clear H
    go_wp2_with (first | (refine gl (some 69) Tryd.func44 #[] ?_; (with_reducible refine (newellaw08_awake.calls kj3  true _ (gS HG) A29.out).mono ?_); rintro e w31 ⟨rfl, hb⟩; refine ⟨_, rfl, ?_⟩; replace HO_7 := rB HO_7 hb; replace HO498 := rB HO498 hb; replace HB := sB hb; (try clear hb)))
    go_meet
    case rel => exact ⟨_, ((t491 != 0)), cA, H', ⟨by have := HJ3.out; first | omega | exact Nat.le_refl _⟩, ⟨by (with_reducible repeat (first | apply Kd.R_alloc | apply Kd.R_drewN | apply Kd.R_drew)); exact Kd.R_mono HO_7.out (fun _ hk => trivial)⟩, ⟨bE⟩⟩
   replace c30 := Bool.eq_false_iff.mpr c30
   subst c30
   have H1 : (newellaw08_ChooseMore.j2 kj3 x7_3 (((⟨#[91]⟩ : ByteArray) ++ t489) ++ (⟨#[44, 41]⟩ : ByteArray)) t490 t491 t499 t500 true) = some r := by rw [if_neg (show ¬ (false = true) by decide)] at H; exact H
   clear H
   have H := H1
   clear H1
   have H' := Aside0.mk H
   clear H
   go_wp2_with (first | (refine gl (some 69) Tryd.func44 #[] ?_; (with_reducible refine (newellaw08_awake.calls kj3  false _ (gS HG) A29.out).mono ?_); rintro e w32 ⟨rfl, hb⟩; refine ⟨_, rfl, ?_⟩; replace HO_7 := rB HO_7 hb; replace HO498 := rB HO498 hb; replace HB := sB hb; (try clear hb)))
   go_meet
   case rel => exact ⟨_, (true), cA, H', ⟨by have := HJ3.out; first | omega | exact Nat.le_refl _⟩, ⟨by (with_reducible repeat (first | apply Kd.R_alloc | apply Kd.R_drewN | apply Kd.R_drew)); exact Kd.R_mono HO_7.out (fun _ hk => trivial)⟩, ⟨bE⟩⟩
  clear HC20
  try clear c1
  try clear p2
  try clear c3
  try clear c4
  try clear p4
  try clear q4
  try clear hx4
  try clear c5
  try clear c5b0
  try clear c6
  try clear c6b0
  try clear p6
  try clear c7
  try clear c7b0
  try clear c9
  try clear c13
  try clear c13b0
  try clear c13b1
  try clear c13b2
  try clear c14
  try clear c14b0
  try clear c14b1
  try clear c14b2
  try clear c16
  try clear c18
  try clear c30
  try clear hx484_0
  try clear p2
  try clear p4
  try clear p484
  try clear p6
  try clear q4
  try clear q484
  obtain ⟨kq, x74_19, rfl, HA, HJ19, HO_7, HB⟩ := hcut
  cases kq with
  | zero => exact absurd HA.out (by simp [newellaw08_ChooseMore.j2])
  | succ kj19 =>
   have H := HA.out
   clear HA
   simp only [newellaw08_ChooseMore.j2] at H
   (try simp only [toList_lit] at H)
   by_cases c33 : x74_19 = true
   ·subst c33
    have H1 : ((newellaw08_awake.f kj19).bind fun t502 => (if t502 = true then (if t491 = 13 then (if t500 = 0 then (some true) else (some (t500 == 13))) else (some false)) else (some false))) = some r := by rw [if_pos rfl] at H; exact H
    clear H
    have H := H1
    clear H1
    replace H := bi H
    obtain ⟨t502, A340, H⟩ := H
    try dsimp only at H
    have A34 := Aside0.mk A340
    clear A340
    by_cases c35 : t502 = true
    rotate_left
    ·replace c35 := Bool.eq_false_iff.mpr c35
     subst c35
     have H1 : (some false) = some r := by rw [if_neg (show ¬ (false = true) by decide)] at H; exact H
     clear H
     have H := H1
     clear H1
     exfalso
     obtain rfl := Option.some.inj H
     exact absurd hr_ (by decide)
    subst c35
    have H1 : (if t491 = 13 then (if t500 = 0 then (some true) else (some (t500 == 13))) else (some false)) = some r := by rw [if_pos rfl] at H; exact H
    clear H
    have H := H1
    clear H1
    by_cases c36 : t491 = 13
    rotate_left
    ·rw [if_neg c36] at H
     obtain ⟨c36b0, c36b1⟩ := eqF c36
     exfalso
     obtain rfl := Option.some.inj H
     exact absurd hr_ (by decide)
    rw [if_pos c36] at H
    obtain ⟨c36b0, c36b1⟩ := eqT c36
    clear c36
    by_cases c37 : t500 = 0
    rotate_left
    ·rw [if_neg c37] at H
     obtain ⟨c37b0, c37b1⟩ := eqF c37
     obtain rfl := Option.some.inj H
     go_wp2_with (first | (refine gl (some 75) Tryd.func44 #[] ?_; (with_reducible refine (newellaw08_awake.calls kj19  true _ (gS HG) A34.out).mono ?_); rintro e w39 ⟨rfl, hb⟩; refine ⟨_, rfl, ?_⟩; replace HO_7 := rB HO_7 hb; replace HB := sB hb; (try clear hb)))
     go_ret
     exact ⟨eA, bE⟩
    rw [if_pos c37] at H
    obtain ⟨c37b0, c37b1⟩ := eqT c37
    clear c37
    obtain rfl := Option.some.inj H
    go_wp2_with (first | (refine gl (some 75) Tryd.func44 #[] ?_; (with_reducible refine (newellaw08_awake.calls kj19  true _ (gS HG) A34.out).mono ?_); rintro e w38 ⟨rfl, hb⟩; refine ⟨_, rfl, ?_⟩; replace HO_7 := rB HO_7 hb; replace HB := sB hb; (try clear hb)))
    go_ret
    exact ⟨eA, bE⟩
   replace c33 := Bool.eq_false_iff.mpr c33
   subst c33
   have H1 : (newellaw08_ChooseMore.l1 kj19 x7_3 (((⟨#[91]⟩ : ByteArray) ++ t489) ++ (⟨#[44, 41]⟩ : ByteArray)) t490 t499 t500 ([] : List ByteArray) 0) = some r := by rw [if_neg (show ¬ (false = true) by decide)] at H; exact H
   clear H
   have H := H1
   clear H1
   have H' := Aside0.mk H
   clear H
   go_wp2
   go_loopg [14, 15] kj19 (fun kq v14 v15 w' => ∃ (x14_3 : List ByteArray) (x15_3 : Int), v15 = .int .i64 x15_3 ∧ Aside0 (newellaw08_ChooseMore.l1 kq x7_3 (((⟨#[91]⟩ : ByteArray) ++ t489) ++ (⟨#[44, 41]⟩ : ByteArray)) t490 t499 t500 x14_3 x15_3 = some r) ∧ Aside0 (kq ≤ kj19) ∧ Aside0 (Kd.R Kd.string 9 w' w.heap.size (fun k_ => some k_ ≠ (v14 : Value).ownBlock) (.slice Ao22 x7_3.length co22) x7_3) ∧ Aside0 (Kd.R Kd.string 9 w' w.heap.size (fun k_ => some k_ ≠ ((.slice Ao22 x7_3.length co22) : Value).ownBlock) v14 x14_3) ∧ Aside0 (Below w.heap.size w w'))
   case atStart => exact ⟨(([] : List ByteArray)), (0), cA, H', ⟨Nat.le_refl _⟩, ⟨by (with_reducible repeat (first | apply Kd.R_alloc | apply Kd.R_drewN | apply Kd.R_drew)); exact Kd.R_mono HO_7.out (fun _ hk => (by simp [Value.ownBlock]))⟩, ⟨by first | exact Kd.R_nil _ _ _ _ _ | exact Kd.N_nil _ _ _ _ _ | exact Kd.V_nil _ _ _ _ _ | exact Kd.Q_nil _ _ _ _ _ | exact Kd.S_nil _ _ _ _ _⟩, ⟨bE⟩⟩
   clear H'
   try clear c1
   try clear p2
   try clear c3
   try clear c4
   try clear p4
   try clear q4
   try clear hx4
   try clear c5
   try clear c5b0
   try clear c6
   try clear c6b0
   try clear p6
   try clear c7
   try clear c7b0
   try clear c9
   try clear c13
   try clear c13b0
   try clear c13b1
   try clear c13b2
   try clear c14
   try clear c14b0
   try clear c14b1
   try clear c14b2
   try clear c16
   try clear c18
   try clear c30
   try clear c33
   try clear c35
   try clear c36
   try clear c36b0
   try clear c36b1
   try clear c37
   try clear c37b0
   try clear c37b1
   try clear hx484_0
   try clear p2
   try clear p4
   try clear p484
   try clear p6
   try clear q4
   try clear q484
   obtain ⟨x14_3, x15_3, rfl, HA, HK3, HO_7, HO_14, HB⟩ := hrel
   cases gk with
   | zero => exact absurd HA.out (by simp [newellaw08_ChooseMore.l1])
   | succ k3 =>
    have H := HA.out
    clear HA
    simp only [newellaw08_ChooseMore.l1] at H
    (try simp only [toList_lit] at H)
    by_cases c40 : x15_3 < (x7_3.length : Int)
    ·rw [if_pos c40] at H
     have c40b0 := dT c40
     clear c40
     by_cases c41 : 0 ≤ x15_3
     rotate_left
     ·rw [if_neg c41] at H
      exact absurd H (by simp)
     rw [if_pos c41] at H
     have c41b0 := dT c41
     clear c41
     by_cases c42 : (rdOf ByteArray.empty x7_3 x15_3).toList = t490.toList
     ·rw [if_pos c42] at H
      obtain ⟨c42b0, c42b1⟩ := eqT c42
      clear c42
      have H' := Aside0.mk H
      clear H
      have p503 : 0 ≤ (x15_3 : Int) := dA
      have q503 : x15_3 < (x7_3.length : Int) := dA
      (try (obtain ⟨Ao_, co_, eo_⟩ := Kd.R_slice HO_7.out; subst eo_))
      obtain ⟨ad503, e503, hx503_0⟩ := Kd.at_string (Kd.R_reads' HO_7.out).2.2 x15_3 p503 q503
      cases e503
      replace p503 := eq_true p503
      replace q503 := eq_true q503
      go_wp2
      go_roundg k3
      case measure => have := HJ3.out; have := HJ19.out; have := HK3.out; omega
      case rel => exact ⟨(x14_3), (wrap64 (x15_3 + 1)), cA, H', ⟨by have := HJ3.out; have := HJ19.out; have := HK3.out; omega⟩, ⟨kR HO_7⟩, ⟨kR HO_14⟩, ⟨bE⟩⟩
     rw [if_neg c42] at H
     obtain ⟨c42b0, c42b1⟩ := eqF c42
     by_cases c43 : x14_3.length < 8796093022208
     rotate_left
     ·rw [if_neg c43] at H
      exact absurd H (by simp)
     rw [if_pos c43] at H
     have LMc43 := Aside0.mk c43
     clear c43
     obtain ⟨y505, hy505⟩ : ∃ y_ : List ByteArray, y_ = (x14_3 ++ [rdOf ByteArray.empty x7_3 x15_3]) := ⟨_, rfl⟩
     replace H : (newellaw08_ChooseMore.l1 k3 x7_3 (((⟨#[91]⟩ : ByteArray) ++ t489) ++ (⟨#[44, 41]⟩ : ByteArray)) t490 t499 t500 y505 (wrap64 (x15_3 + 1))) = some r := by first | (rw [hy505]; with_reducible exact H) | (have H2_ := (Option.bind_some _ _).symm.trans H; rw [hy505]; with_reducible exact H2_) | (have H2_ := (Option.bind_some _ _).symm.trans H; with_reducible exact H2_) | with_reducible exact H | (rw [hy505]; exact H) | exact H
     have Ny505 := Aside0.mk hy505
     clear hy505
     have H' := Aside0.mk H
     clear H
     have p503 : 0 ≤ (x15_3 : Int) := dA
     have q503 : x15_3 < (x7_3.length : Int) := dA
     (try (obtain ⟨Ao_, co_, eo_⟩ := Kd.R_slice HO_7.out; subst eo_))
     obtain ⟨ad503, e503, hx503_0⟩ := Kd.at_string (Kd.R_reads' HO_7.out).2.2 x15_3 p503 q503
     cases e503
     replace p503 := eq_true p503
     replace q503 := eq_true q503
     have p504 : 0 ≤ (x15_3 : Int) := dA
     have q504 : x15_3 < (x7_3.length : Int) := dA
     (try (obtain ⟨Ao_, co_, eo_⟩ := Kd.R_slice HO_7.out; subst eo_))
     obtain ⟨ad504, e504, hx504_0⟩ := Kd.at_string (Kd.R_reads' HO_7.out).2.2 x15_3 p504 q504
     obtain rfl : ad503 = ad504 := (by injection e504)
     replace p504 := eq_true p504
     replace q504 := eq_true q504
     go_wp2_with (first | ((with_reducible refine gate_builtin (b := .append) (xs := #[.tmp 100, .tmp 105]) rfl ?_); at_builtin; refine Kd.R_append Kd.string (w0 := w) w.heap.size rfl (.tmp 100) (.tmp 105) 43 9 (.string ⟨#[]⟩) 16 rfl Tryd.underlying43 info9 rfl (by decide) (by omega) u14 x14_3 (rdOf ByteArray.empty x7_3 x15_3) [.string (rdOf ByteArray.empty x7_3 x15_3)] (fun k_ => some k_ ≠ (.slice (some ad503) x7_3.length co22 : Value).ownBlock) (fun _ => False) rfl rfl ?aP (fun _ hk => hk.elim) ?aF ?aO ?aB ?aS ?aL ?_; (case aP => exact rfl); (case aB => exact bE); (case aF => exact (fun k_ hk => Kd.fresh' (Kd.R_lt (kR HO_7)) k_ hk)); (case aO => exact (kR HO_14)); (case aS => exact (below_size bE)); (case aL => have := LMc43.out; omega); intro v506 w44 ho hb hg hat; rw [← Ny505.out] at ho; replace HO_7 := Aside0.mk (Kd.R_after (ok := (fun _ => True)) (by (with_reducible repeat (first | apply Kd.R_alloc | apply Kd.R_drewN | apply Kd.R_drew)); exact Kd.R_mono HO_7.out (fun _ hk => ⟨trivial, hk⟩)) hg hat); replace HB := Aside0.mk (hb); have HO507 := Aside0.mk (ho); clear HO_14; clear ho hb hg hat))
     go_roundg k3
     case measure => have := HJ3.out; have := HJ19.out; have := HK3.out; omega
     case rel => exact ⟨(y505), (wrap64 (x15_3 + 1)), cA, H', ⟨by have := HJ3.out; have := HJ19.out; have := HK3.out; omega⟩, ⟨by (with_reducible repeat (first | apply Kd.R_alloc | apply Kd.R_drewN | apply Kd.R_drew)); exact Kd.R_mono HO_7.out (fun _ hk => hk.2)⟩, ⟨kR HO507⟩, ⟨bE⟩⟩
    rw [if_neg c40] at H
    have c40b0 := dF c40
    clear c40
    replace H := bi H
    obtain ⟨⟨t508, t509⟩, A450, H⟩ := H
    try dsimp only at H
    have A45 := Aside0.mk A450
    clear A450
    by_cases c46 : t500 = 0
    rotate_left
    ·rw [if_neg c46] at H
     obtain ⟨c46b0, c46b1⟩ := eqF c46
     exfalso
     obtain rfl := Option.some.inj H
     exact absurd hr_ (by decide)
    rw [if_pos c46] at H
    obtain ⟨c46b0, c46b1⟩ := eqT c46
    clear c46
    replace H := bi H
    obtain ⟨t510, A470, H⟩ := H
    try dsimp only at H
    have A47 := Aside0.mk A470
    clear A470
    by_cases c48 : t510 ≥ 0
    rotate_left
    ·rw [if_neg c48] at H
     have c48b0 := dF c48
     clear c48
     exfalso
     obtain rfl := Option.some.inj H
     exact absurd hr_ (by decide)
    rw [if_pos c48] at H
    have c48b0 := dT c48
    clear c48
    by_cases c49 : t509 = 13
    ·rw [if_pos c49] at H
     obtain ⟨c49b0, c49b1⟩ := eqT c49
     clear c49
     obtain rfl := Option.some.inj H
     obtain ⟨Ao50, co50, eo50⟩ := Kd.R_slice HO_14.out
     subst eo50
     go_wp2_with (first | (refine gl (some 110) Tryd.func48 #[.slice Ao50 x14_3.length co50, .string (((⟨#[91]⟩ : ByteArray) ++ t489) ++ (⟨#[44, 41]⟩ : ByteArray))] ?_; (with_reducible refine (choose_Pick.calls k3 _ _ x14_3 (((⟨#[91]⟩ : ByteArray) ++ t489) ++ (⟨#[44, 41]⟩ : ByteArray)) t508 t509 _ ?side1 ?side2 (gS HG) A45.out).mono ?_); (case side1 => repeat (first | exact (Kd.R_reads' HO_14.out).2.2 | (with_reducible refine Kd.C_alloc ?_ _) | (with_reducible refine Kd.C_drewN ?_ _) | (with_reducible refine Kd.C_drew ?_))); (case side2 => exact (Kd.R_reads' HO_14.out).2.1); rintro e w51 ⟨rfl, hb⟩; refine ⟨_, rfl, ?_⟩; replace HO_7 := rB HO_7 hb; replace HO_14 := rB HO_14 hb; replace HB := sB hb; (try clear hb)) | (go_at_call 55; (with_reducible refine (newelref05_Compare.calls k3 t499 t490 t510 _ (gS HG) A47.out).mono ?_); rintro e w52 ⟨rfl, hb⟩; replace HO_7 := rB HO_7 hb; replace HO_14 := rB HO_14 hb; replace HB := sB hb; (try clear hb)))
     go_ret
     exact ⟨eA, bE⟩
    rw [if_neg c49] at H
    obtain ⟨c49b0, c49b1⟩ := eqF c49
    by_cases c53 : t509 = 0
    rotate_left
    ·rw [if_neg c53] at H
     obtain ⟨c53b0, c53b1⟩ := eqF c53
     exfalso
     obtain rfl := Option.some.inj H
     exact absurd hr_ (by decide)
    rw [if_pos c53] at H
    obtain ⟨c53b0, c53b1⟩ := eqT c53
    clear c53
    replace H := bi H
    obtain ⟨t511, A540, H⟩ := H
    try dsimp only at H
    have A54 := Aside0.mk A540
    clear A540
    obtain rfl := Option.some.inj H
    obtain ⟨Ao55, co55, eo55⟩ := Kd.R_slice HO_14.out
    subst eo55
    go_wp2_with (first | (refine gl (some 110) Tryd.func48 #[.slice Ao55 x14_3.length co55, .string (((⟨#[91]⟩ : ByteArray) ++ t489) ++ (⟨#[44, 41]⟩ : ByteArray))] ?_; (with_reducible refine (choose_Pick.calls k3 _ _ x14_3 (((⟨#[91]⟩ : ByteArray) ++ t489) ++ (⟨#[44, 41]⟩ : ByteArray)) t508 t509 _ ?side1 ?side2 (gS HG) A45.out).mono ?_); (case side1 => repeat (first | exact (Kd.R_reads' HO_14.out).2.2 | (with_reducible refine Kd.C_alloc ?_ _) | (with_reducible refine Kd.C_drewN ?_ _) | (with_reducible refine Kd.C_drew ?_))); (case side2 => exact (Kd.R_reads' HO_14.out).2.1); rintro e w56 ⟨rfl, hb⟩; refine ⟨_, rfl, ?_⟩; replace HO_7 := rB HO_7 hb; replace HO_14 := rB HO_14 hb; replace HB := sB hb; (try clear hb)) | (go_at_call 55; (with_reducible refine (newelref05_Compare.calls k3 t499 t490 t510 _ (gS HG) A47.out).mono ?_); rintro e w57 ⟨rfl, hb⟩; replace HO_7 := rB HO_7 hb; replace HO_14 := rB HO_14 hb; replace HB := sB hb; (try clear hb); clear A47) | (go_at_call 55; (with_reducible refine (newelref05_Compare.calls k3 t508 t490 t511 _ (gS HG) A54.out).mono ?_); rintro e w58 ⟨rfl, hb⟩; replace HO_7 := rB HO_7 hb; replace HO_14 := rB HO_14 hb; replace HB := sB hb; (try clear hb)))
    go_ret
    exact ⟨eA, bE⟩
end Go.Proofs.YtgdjfcmmpjcaaaaDoor.Q
namespace Go.Proofs.YtgdjfcmmpjcaaaaDoor.Q
open Go.RowKit Go.Proofs.YtgdjfcmmpjcaaaaDoorW.PrintWords Go.Proofs.YtgdjfcmmpjcaaaaDoorW.PrintLast Go.Proofs.YtgdjfcmmpjcaaaaDoorW.Own Go.Proofs.YtgdjfcmmpjcaaaaDoorW.PrintMore
set_option linter.unusedVariables false
set_option linter.unusedSimpArgs false
namespace Rd
open Go Go.RowKit
theorem add_more (a : Addr) (i j : Nat) : (a.add i).add j = a.add (i + j) := by
  by_cases hi : i = 0
  · subst hi
    simp [Addr.add]
  · by_cases hj : j = 0
    · subst hj
      simp [Addr.add]
    · have hij : ¬ (i + j = 0) := by omega
      simp [Addr.add, hi, hj]
      omega
def Opens {α : Type} (t : TypeId) (d : Kd α) (wf : α → Prop) (bulk : α → Nat) : Prop :=
  Tryd.prog.cellsOf t = d.sz ∧ ∀ (H : Type) (enc : TypeId × Value → H) (W : World) (fuel : Nat) (cs : List Value) (dd : DataW H) (ps : List MemPlace),
    DataW.trod enc Tryd.prog W 0 (fun _ => true) true fuel t cs = some (dd, ps) → ∃ x, d.K W x cs ∧ wf x ∧ bulk x ≤ Rows.uptoBulk dd
theorem opens_int {t : TypeId} {k : IntKind} (hu : Tryd.prog.underlying t = some (.int k)) (hc : Tryd.prog.cellsOf t = 1) : Opens t (Kd.int k) (fun n => (Lit.int k n).wf = true) (fun _ => 1) := by
  refine ⟨hc, fun H enc W fuel cs dd ps h => ?_⟩
  obtain ⟨n, rfl, hx, hw⟩ := DataW.trod_int hu h
  obtain ⟨rfl, rfl⟩ := Prod.mk.inj hx
  exact ⟨n, rfl, hw, by simp [Rows.uptoBulk]⟩
def sumOf {α : Type} (f : α → Nat) (l : List α) : Nat := (l.map f).sum
theorem bulkAll_append {H : Type} (a b : List (DataW H)) : Rows.uptoBulkAll (a ++ b) = Rows.uptoBulkAll a + Rows.uptoBulkAll b := by
  induction a with
  | nil => simp [Rows.uptoBulkAll]
  | cons x l ih => simp only [List.cons_append, Rows.uptoBulkAll, ih]; omega
theorem opens_slice {α : Type} {t e : TypeId} {d : Kd α} {wf : α → Prop} {bulk : α → Nat} (hu : Tryd.prog.underlying t = some (.slice e)) (hc : Tryd.prog.cellsOf t = 1) (h : Opens e d wf bulk) :
    Opens t (Kd.slice e d) (fun xs => xs.length ≤ maxLen ∧ ∀ x ∈ xs, wf x) (fun xs => sumOf bulk xs + 1) := by
  refine ⟨hc, fun H enc W fuel cs dd ps hh => ?_⟩
  rcases DataW.trod_slice hu hh with ⟨rfl, hx⟩ | ⟨a, len, cap, elems, rest, n, rfl, rfl, hx, -, hlc, hcm, hel, he, -, -⟩
  · obtain ⟨rfl, rfl⟩ := Prod.mk.inj hx
    refine ⟨[], ?_, ?_, ?_⟩
    · exact ⟨none, 0, rfl, Nat.le_refl _, Kd.C_nil _ _⟩
    · refine ⟨?_, fun _ h => by simp at h⟩
      rw [List.length_nil]
      exact Nat.zero_le _
    · simp only [sumOf, List.map_nil, List.sum_nil, Rows.uptoBulk]
      exact Nat.le_refl _
  · have e1 := congrArg Prod.fst hx
    simp only at e1
    subst e1
    clear hx hh
    obtain ⟨hsz, hop⟩ := h
    have key : ∀ m, m ≤ elems.length → ∃ xs : List α, xs.length = m ∧ (∀ x ∈ xs, wf x) ∧ sumOf bulk xs ≤ Rows.uptoBulkAll ((elems.take m).map (·.1)) ∧
        ∀ j p, xs[j]? = some p → ∃ c, c.length = d.sz ∧ d.K W p c ∧ ∀ i u, c[i]? = some u → W.cell? (a.add (j * d.sz + i)) = some u := by
      intro m
      induction m with
      | zero => exact fun _ => ⟨[], rfl, fun _ h => by simp at h, Nat.zero_le _, fun j p h => by simp at h⟩
      | succ m ih =>
        intro hm
        obtain ⟨xs, h1, h2, h3, h4⟩ := ih (by omega)
        have hi := he m (by omega)
        rw [List.getElem?_eq_getElem (by omega : m < elems.length), hsz] at hi
        obtain ⟨c, hcells, ht⟩ := Option.bind_eq_some_iff.1 hi
        obtain ⟨x, hk, hwf, hb0⟩ := hop H enc W n c _ _ ht
        have hb : bulk x ≤ Rows.uptoBulk (elems[m]'(by omega)).1 := hb0
        clear hb0
        have hcl : c.length = d.sz ∧ ∀ i u, c[i]? = some u → W.cell? ((a.add (m * d.sz)).add i) = some u := by
          unfold World.cells? at hcells
          rw [if_pos (Nat.zero_le _)] at hcells
          refine ⟨by simpa using mapM_some_length hcells, fun i u hu => ?_⟩
          have hil : i < d.sz := by
            have := (List.getElem?_eq_some_iff.1 hu).1
            have e := mapM_some_length hcells
            rw [List.length_range] at e
            omega
          have := mapM_some_get hcells i i (by rw [List.getElem?_range hil])
          rw [hu] at this
          exact this
        refine ⟨xs ++ [x], by simp [h1], ?_, ?_, ?_⟩
        · intro y hy
          rcases List.mem_append.1 hy with hy | hy
          · exact h2 y hy
          · rw [List.mem_singleton.1 hy]; exact hwf
        · rw [List.take_succ_eq_append_getElem (by omega), List.map_append, bulkAll_append]
          simp only [sumOf, List.map_append, List.sum_append, List.map_cons, List.map_nil, List.sum_cons, List.sum_nil, Rows.uptoBulkAll] at h3 ⊢
          omega
        · intro j p hj
          rcases Nat.lt_or_ge j xs.length with hlt | hge
          · rw [List.getElem?_append_left hlt] at hj
            exact h4 j p hj
          · rw [List.getElem?_append_right hge] at hj
            have hj0 : j - xs.length = 0 := by
              rcases Nat.eq_zero_or_pos (j - xs.length) with h | h
              · exact h
              · rw [List.getElem?_eq_none (by simp; omega)] at hj; simp at hj
            rw [hj0] at hj
            obtain rfl : x = p := by simpa using hj
            obtain rfl : j = m := by omega
            exact ⟨c, hcl.1, hk, fun i u hu => by have z := hcl.2 i u hu; rw [add_more] at z; exact z⟩
    obtain ⟨xs, h1, h2, h3, h4⟩ := key elems.length (Nat.le_refl _)
    rw [List.take_length] at h3
    refine ⟨xs, ⟨some a, cap, by rw [h1, hel], by omega, ⟨rfl, ?_, fun _ => ⟨a, rfl, h4⟩⟩⟩, ⟨by omega, h2⟩, ?_⟩
    · unfold maxLen at hcm
      omega
    · simp only [Rows.uptoBulk]
      omega
theorem glob {W : World} (h : W.ShapedOpen Tryd.prog) : Glob W :=
  cell_of_shapedOpen_int (g := 0) (t := 3) (zero := #[.int .i64 0]) (k := .i64) h (of_decide_eq_true (by kernel_rfl)) (by kernel_rfl) rfl (by kernel_rfl) (by kernel_rfl) Tryd.underlying3
end Rd
end Go.Proofs.YtgdjfcmmpjcaaaaDoor.Q
namespace Go.Proofs.YtgdjfcmmpjcaaaaDoor.Q
open Go.RowKit Go.Proofs.YtgdjfcmmpjcaaaaDoorW.PrintWords Go.Proofs.YtgdjfcmmpjcaaaaDoorW.PrintLast Go.Proofs.YtgdjfcmmpjcaaaaDoorW.Own Go.Proofs.YtgdjfcmmpjcaaaaDoorW.PrintMore
set_option linter.unusedVariables false
set_option linter.unusedSimpArgs false
def newellaw08_ChooseMore.Pure : Prop := ∀ (l0 : List Int) (a1 : Int) (a2 : Int), ((l0.length ≤ maxLen ∧ ∀ x_ ∈ l0, (Lit.int .i64 x_).wf = true)) → ((Lit.int .i64 a1).wf = true) → ((Lit.int .i64 a2).wf = true) → ∃ k, newellaw08_ChooseMore.f k l0 a1 a2 = some true
end Go.Proofs.YtgdjfcmmpjcaaaaDoor.Q
namespace Go.Proofs.YtgdjfcmmpjcaaaaDoor.Q
open Go.RowKit Go.Proofs.YtgdjfcmmpjcaaaaDoorW.PrintWords Go.Proofs.YtgdjfcmmpjcaaaaDoorW.PrintLast Go.Proofs.YtgdjfcmmpjcaaaaDoorW.Own Go.Proofs.YtgdjfcmmpjcaaaaDoorW.PrintMore
attribute [local go_sem] max2_int min2_int max_two min_two max_three min_three max_four min_four   -- for this text's walks alone
set_option linter.unusedVariables false
set_option linter.unusedSimpArgs false
set_option maxHeartbeats 8000000
set_option maxRecDepth 100000
mutual
def newelref05_Holds.l0 : Nat → List (S58) → ByteArray → Int → Option (Bool)
 | 0, _, _, _ => none
 | k + 1, x0, x1, x5 => if x5 < (x0.length : Int) then (if 0 ≤ x5 then (if ((rd_T58 x0 x5).f0).toList = ([] : List UInt8) then (newelref05_Holds.j1 k x0 x1 x5 true true ((rd_T58 x0 x5).f0) ((rd_T58 x0 x5).f1) ((rd_T58 x0 x5).f2) ((rd_T58 x0 x5).f3)) else ((newelref05_Compare.f k ((rd_T58 x0 x5).f0) x1).bind fun t456 => (if t456 < 0 then (newelref05_Holds.j1 k x0 x1 x5 true true ((rd_T58 x0 x5).f0) ((rd_T58 x0 x5).f1) ((rd_T58 x0 x5).f2) ((rd_T58 x0 x5).f3)) else (if t456 = 0 then (newelref05_Holds.j1 k x0 x1 x5 ((rd_T58 x0 x5).f2) true ((rd_T58 x0 x5).f0) ((rd_T58 x0 x5).f1) ((rd_T58 x0 x5).f2) ((rd_T58 x0 x5).f3)) else (newelref05_Holds.j1 k x0 x1 x5 false true ((rd_T58 x0 x5).f0) ((rd_T58 x0 x5).f1) ((rd_T58 x0 x5).f2) ((rd_T58 x0 x5).f3)))))) else (none)) else (some false)
def newelref05_Holds.j1 : Nat → List (S58) → ByteArray → Int → Bool → Bool → ByteArray → ByteArray → Bool → Bool → Option (Bool)
 | 0, _, _, _, _, _, _, _, _, _ => none
 | k + 1, x0, x1, x5, x7, x8, x456000, x456001, x456002, x456003 => if x456001.toList = ([] : List UInt8) then (if x7 = true then (if x8 = true then (some true) else (newelref05_Holds.l0 k x0 x1 (wrap64 (x5 + 1)))) else (newelref05_Holds.l0 k x0 x1 (wrap64 (x5 + 1)))) else ((newelref05_Compare.f k x1 x456001).bind fun t457 => (if t457 < 0 then (if x7 = true then (some true) else (newelref05_Holds.l0 k x0 x1 (wrap64 (x5 + 1)))) else (if t457 = 0 then (if x7 = true then (if x456003 = true then (some true) else (newelref05_Holds.l0 k x0 x1 (wrap64 (x5 + 1)))) else (newelref05_Holds.l0 k x0 x1 (wrap64 (x5 + 1)))) else (if x7 = true then (newelref05_Holds.l0 k x0 x1 (wrap64 (x5 + 1))) else (newelref05_Holds.l0 k x0 x1 (wrap64 (x5 + 1)))))))
end
theorem newelref05_Holds.mono_l : ∀ k, (∀ y0 y1 y2, LeO (newelref05_Holds.l0 k y0 y1 y2) (newelref05_Holds.l0 (k + 1) y0 y1 y2)) ∧ (∀ y0 y1 y2 y3 y4 y5 y6 y7 y8, LeO (newelref05_Holds.j1 k y0 y1 y2 y3 y4 y5 y6 y7 y8) (newelref05_Holds.j1 (k + 1) y0 y1 y2 y3 y4 y5 y6 y7 y8))
 | 0 => ⟨fun _ _ _ r h => by simp [newelref05_Holds.l0] at h, fun _ _ _ _ _ _ _ _ _ r h => by simp [newelref05_Holds.j1] at h⟩
 | k + 1 => by
  obtain ⟨ih0, ih1⟩ := newelref05_Holds.mono_l k
  refine ⟨?_, ?_⟩
  ·intro y0 y1 y2
   unfold newelref05_Holds.l0
   have m0 := @newelref05_Compare.mono
   exact mo
  ·intro y0 y1 y2 y3 y4 y5 y6 y7 y8
   unfold newelref05_Holds.j1
   have m0 := @newelref05_Compare.mono
   exact mo
def newelref05_Right.l0 : Nat → ByteArray → Int → Option (Bool)
 | 0, _, _ => none
 | k + 1, x0, x3 => if x3 < (x0.size : Int) then (if 0 ≤ x3 then (if (bt x0 x3) < 33 then (some false) else (if (bt x0 x3) > 126 then (some false) else (if (bt x0 x3) = 91 then (some false) else (if (bt x0 x3) = 93 then (some false) else (if (bt x0 x3) = 40 then (some false) else (if (bt x0 x3) = 41 then (some false) else (if (bt x0 x3) = 44 then (some false) else (newelref05_Right.l0 k x0 (wrap64 (x3 + 1)))))))))) else (none)) else (if (x0.size : Int) ≥ 1 then (some (decide ((x0.size : Int) ≤ 100))) else (some false))
def newelref05_Right.f (k : Nat) (a0 : ByteArray) : Option (Bool) := newelref05_Right.l0 k a0 0
theorem newelref05_Right.mono_l : ∀ k, (∀ y0 y1, LeO (newelref05_Right.l0 k y0 y1) (newelref05_Right.l0 (k + 1) y0 y1))
 | 0 => fun _ _ r h => by simp [newelref05_Right.l0] at h
 | k + 1 => by
  have ih0 := newelref05_Right.mono_l k
  ·intro y0 y1
   unfold newelref05_Right.l0
   exact mo
theorem newelref05_Right.mono : ∀ a0 k, LeO (newelref05_Right.f k a0) (newelref05_Right.f (k + 1) a0) := by
 intro a0 k
 have ih0 := newelref05_Right.mono_l k
 unfold newelref05_Right.f
 exact mo
def newelref05_May.j0 : Nat → Bool → ByteArray → ByteArray → Bool → Bool → Option (Bool)
 | 0, _, _, _, _, _ => none
 | k + 1, x41, x433000, x433001, x433002, x433003 => if x41 = true then (some false) else (if x433000.toList = ([] : List UInt8) then (some true) else (if x433001.toList = ([] : List UInt8) then (some true) else ((newelref05_Compare.f k x433000 x433001).bind fun t436 => (if t436 < 0 then (some true) else (if t436 = 0 then (if x433002 = true then (some x433003) else (some false)) else (some false))))))
theorem newelref05_May.mono_l : ∀ k, (∀ y0 y1 y2 y3 y4, LeO (newelref05_May.j0 k y0 y1 y2 y3 y4) (newelref05_May.j0 (k + 1) y0 y1 y2 y3 y4))
 | 0 => fun _ _ _ _ _ r h => by simp [newelref05_May.j0] at h
 | k + 1 => by
  have ih0 := newelref05_May.mono_l k
  ·intro y0 y1 y2 y3 y4
   unfold newelref05_May.j0
   have m0 := @newelref05_Compare.mono
   have m1 := @newelref05_Right.mono
   exact mo
end Go.Proofs.YtgdjfcmmpjcaaaaDoor.Q
namespace Go.Proofs.YtgdjfcmmpjcaaaaDoorW.Px
open Go
theorem ba_ext {a b : ByteArray} (h : a.data.toList = b.data.toList) : a = b := by
  cases a; cases b; simp at h; subst h; rfl
theorem ba_size (a : ByteArray) : a.size = a.data.toList.length := Array.length_toList.symm
theorem ba_append (a b : ByteArray) : (a ++ b).data.toList = a.data.toList ++ b.data.toList := by simp [ByteArray.data_append]
theorem ba_toList (a : ByteArray) : a.toList = a.data.toList := Lib.toList_data a
theorem ba_extract (a : ByteArray) (i j : Nat) : (a.extract i j).data.toList = (a.data.toList.take j).drop i := by
  simp [ByteArray.data_extract, List.extract_eq_take_drop, List.drop_take]
end Go.Proofs.YtgdjfcmmpjcaaaaDoorW.Px
namespace Go.Proofs.YtgdjfcmmpjcaaaaDoor.Pure
open Go Go.RowKit Go.Proofs.YtgdjfcmmpjcaaaaDoor.Q Go.Proofs.YtgdjfcmmpjcaaaaDoorW.PrintWords Go.Proofs.YtgdjfcmmpjcaaaaDoorW.PrintLast Go.Proofs.YtgdjfcmmpjcaaaaDoorW.Own Go.Proofs.YtgdjfcmmpjcaaaaDoorW.PrintMore Go.Proofs.YtgdjfcmmpjcaaaaDoorW.Px
set_option linter.unusedSimpArgs false
set_option linter.unusedVariables false
def sign (n : Int) : Bool := decide (33 ≤ n) && decide (n ≤ 126) && n != 91 && n != 93 && n != 40 && n != 41 && n != 44
def sign8 (c : UInt8) : Bool := sign (c.toNat : Int)
theorem bad_all : (List.range 256).all (fun n => words_Right_1.f (n : Int) == some (!sign (n : Int))) = true := by kernel_rfl
theorem bad_told (n : Int) (h0 : 0 ≤ n) (h1 : n < 256) : words_Right_1.f n = some (!sign n) := by
  have := List.all_eq_true.1 bad_all n.toNat (by simp; omega)
  rw [Int.toNat_of_nonneg h0] at this
  exact beq_iff_eq.1 this
theorem find_loop (s : ByteArray) (hs : s.size ≤ 1000000) : ∀ (d i k : Nat), i + d = s.size → slices_IndexFunc_byte_byte.l0 (k + d + 1) (bytesOf s) (s.size : Int) (i : Int) = some (if (s.data.toList.drop i).all sign8 then -1 else ((i + ((s.data.toList.drop i).takeWhile sign8).length : Nat) : Int)) := by
  intro d
  induction d with
  | zero =>
    intro i k h
    rw [slices_IndexFunc_byte_byte.l0, if_neg (by omega), show s.data.toList.drop i = [] from List.drop_eq_nil_of_le (by rw [← ba_size]; omega)]
    rfl
  | succ d ih =>
    intro i k h
    have hw : wrap64 ((i : Int) + 1) = ((i + 1 : Nat) : Int) := by unfold wrap64; omega
    have hl : i < s.data.toList.length := by rw [← ba_size]; omega
    have hr : rd (bytesOf s) (i : Int) = (((s.data.toList[i]'hl).toNat : Nat) : Int) := by
      unfold rd bytesOf
      simp [List.getD_eq_getElem?_getD, List.getElem?_map, List.getElem?_eq_getElem hl]
    have hc := (s.data.toList[i]'hl).toNat_lt
    have p0 : (i : Int) < (s.size : Int) := by omega
    have p1 : (0 : Int) ≤ (i : Int) := by omega
    have p2 : (i : Int) < ((bytesOf s).length : Int) := by rw [bytesOf_length]; omega
    rw [show k + (d + 1) + 1 = (k + d + 1) + 1 from by omega, slices_IndexFunc_byte_byte.l0, if_pos p0, if_pos p1, if_pos p2, hr, bad_told _ (by omega) (by omega), Option.bind_some, List.drop_eq_getElem_cons hl]
    by_cases c : sign8 (s.data.toList[i]'hl) = true
    · rw [if_neg (by unfold sign8 at c; rw [c]; decide), hw, ih _ _ (by omega), List.all_cons, c, Bool.true_and, List.takeWhile_cons, if_pos c, List.length_cons]
      congr 1
      by_cases e : (s.data.toList.drop (i + 1)).all sign8 = true
      · rw [if_pos e, if_pos e]
      · rw [if_neg e, if_neg e]; omega
    · have cf : sign8 (s.data.toList[i]'hl) = false := by simpa using c
      rw [if_pos (by unfold sign8 at cf; rw [cf]; rfl), List.all_cons, cf, Bool.false_and, List.takeWhile_cons, if_neg c]
      simp
def rightB (l : List UInt8) : Bool := decide (1 ≤ l.length) && decide (l.length ≤ 100) && l.all sign8
theorem right_told (s : ByteArray) (k : Nat) (hk : 101 ≤ k) : words_Right.f k s = some (rightB s.data.toList) := by
  unfold words_Right.f rightB
  have hz := ba_size s
  by_cases h : 1 ≤ s.size ∧ s.size ≤ 100
  · rw [if_pos h, decide_eq_true (show 1 ≤ s.data.toList.length by omega), decide_eq_true (show s.data.toList.length ≤ 100 by omega)]
    unfold slices_ContainsFunc_byte_byte.f slices_IndexFunc_byte_byte.f
    have := find_loop s (by omega) s.size 0 (k - s.size - 1) (by omega)
    rw [show k - s.size - 1 + s.size + 1 = k from by omega, show ((0 : Nat) : Int) = 0 from rfl, List.drop_zero] at this
    rw [bytesOf_length, this, Option.bind_some, Option.bind_some]
    by_cases e : s.data.toList.all sign8 = true
    · rw [if_pos e, e]; rfl
    · rw [if_neg e, Bool.eq_false_iff.2 e, decide_eq_true (by omega)]; rfl
  · rw [if_neg h]
    by_cases a : 1 ≤ s.size
    · rw [decide_eq_false (show ¬ s.data.toList.length ≤ 100 by omega)]; simp
    · rw [decide_eq_false (show ¬ 1 ≤ s.data.toList.length by omega)]; simp
end Go.Proofs.YtgdjfcmmpjcaaaaDoor.Pure
namespace Go.Proofs.YtgdjfcmmpjcaaaaDoor.Q
open Go.RowKit Go.Proofs.YtgdjfcmmpjcaaaaDoorW.PrintWords Go.Proofs.YtgdjfcmmpjcaaaaDoorW.PrintLast Go.Proofs.YtgdjfcmmpjcaaaaDoorW.Own Go.Proofs.YtgdjfcmmpjcaaaaDoorW.PrintMore
attribute [local go_sem] max2_int min2_int max_two min_two max_three min_three max_four min_four   -- for this text's walks alone
set_option linter.unusedVariables false
set_option linter.unusedSimpArgs false
theorem eqA38 (d : Nat) (w : World) (x0 y0 : Int) (x1 y1 : ByteArray) :
    (Op.equalIn (d + 2) 38 (.agg #[.int .i64 x0, .string x1]) (.agg #[.int .i64 y0, .string y1])).run Tryd.prog w = .ok (x0 == y0 && (x1.toList == y1.toList)) w := by
  refine eqA_of Tryd.underlying38 (by kernel_rfl) ?_
  refine eqf_cons (by rfl) (by go_simp; rfl) (by go_simp; rfl) (by go_simp) ?_
  exact eqf_last (by rfl) (by go_simp; rfl) (by go_simp; rfl) (by go_simp)
end Go.Proofs.YtgdjfcmmpjcaaaaDoor.Q
namespace Go.Proofs.YtgdjfcmmpjcaaaaDoor.Q
open Go.RowKit Go.Proofs.YtgdjfcmmpjcaaaaDoorW.PrintWords Go.Proofs.YtgdjfcmmpjcaaaaDoorW.PrintLast Go.Proofs.YtgdjfcmmpjcaaaaDoorW.Own Go.Proofs.YtgdjfcmmpjcaaaaDoorW.PrintMore
attribute [local go_sem] max2_int min2_int max_two min_two max_three min_three max_four min_four   -- for this text's walks alone
set_option linter.unusedVariables false
set_option linter.unusedSimpArgs false
set_option maxHeartbeats 8000000
set_option maxRecDepth 100000
section
attribute [local go_sem high] eqA38
def api_Word_1.f (a0_0 : Int) (a0_1 : ByteArray) (a1_0 : Int) (a1_1 : ByteArray) : Option (Bool) := some (a0_0 == a1_0 && (a0_1.toList == a1_1.toList))
end
def api_Word_69.l0 : Nat → List (S38) → List (S38) → Int → Option (Bool)
 | 0, _, _, _ => none
 | k + 1, x0, x1, x7 => if x7 < (x0.length : Int) then (if 0 ≤ x7 then (if x7 < (x1.length : Int) then ((api_Word_1.f ((rd_T38 x0 x7).f0) ((rd_T38 x0 x7).f1) ((rd_T38 x1 x7).f0) ((rd_T38 x1 x7).f1)).bind fun t183 => (if t183 = true then (api_Word_69.l0 k x0 x1 (wrap64 (x7 + 1))) else (some false))) else (none)) else (none)) else (some true)
theorem api_Word_69.mono_l : ∀ k, (∀ y0 y1 y2, LeO (api_Word_69.l0 k y0 y1 y2) (api_Word_69.l0 (k + 1) y0 y1 y2))
 | 0 => fun _ _ _ r h => by simp [api_Word_69.l0] at h
 | k + 1 => by
  have ih0 := api_Word_69.mono_l k
  ·intro y0 y1 y2
   unfold api_Word_69.l0
   exact mo
end Go.Proofs.YtgdjfcmmpjcaaaaDoor.Q
namespace Go.Proofs.YtgdjfcmmpjcaaaaDoor.Pure
open Go Go.Proofs.YtgdjfcmmpjcaaaaDoorW.Px
set_option linter.unusedSimpArgs false
set_option linter.unusedVariables false
structure Pt where
  tx : List UInt8
  da : Bool
  nu : Bool
def isD (c : UInt8) : Bool := decide (48 ≤ c.toNat) && decide (c.toNat ≤ 57)
def lowB (c : UInt8) : UInt8 := if 65 ≤ c.toNat ∧ c.toNat ≤ 90 then c + 32 else c
def likeP (t : List UInt8) (c : UInt8) : Bool := match t.getLast? with
  | none => true
  | some d => isD d == isD c
def stepP (r : List Pt × Pt) (c : UInt8) : List Pt × Pt :=
  if c == 46 || c == 45 then (r.1 ++ [r.2], ⟨[], c == 45, false⟩)
  else if likeP r.2.tx c then (r.1, ⟨r.2.tx ++ [c], r.2.da, r.2.nu⟩)
  else (r.1 ++ [⟨r.2.tx, r.2.da, isD c⟩], ⟨[c], true, false⟩)
def runP (r : List Pt × Pt) (l : List UInt8) : List Pt × Pt := l.foldl stepP r
def allP (r : List Pt × Pt) : List Pt := r.1 ++ [r.2]
def p0 : List Pt × Pt := ([], ⟨[], false, false⟩)
def partsL (l : List UInt8) : List Pt := allP (runP p0 l)
abbrev Wl := Int × List UInt8
abbrev tA : List UInt8 := [97, 108, 112, 104, 97]
abbrev tB : List UInt8 := [98, 101, 116, 97]
abbrev tM : List UInt8 := [109, 105, 108, 101, 115, 116, 111, 110, 101]
abbrev tRc : List UInt8 := [114, 99]
abbrev tCr : List UInt8 := [99, 114]
abbrev tS : List UInt8 := [115, 110, 97, 112, 115, 104, 111, 116]
abbrev tGa : List UInt8 := [103, 97]
abbrev tFi : List UInt8 := [102, 105, 110, 97, 108]
abbrev tRe : List UInt8 := [114, 101, 108, 101, 97, 115, 101]
abbrev tSp : List UInt8 := [115, 112]
def kindL (t : List UInt8) (nu : Bool) : Int :=
  if t = tA ∨ nu = true ∧ t = [97] then 1
  else if t = tB ∨ nu = true ∧ t = [98] then 2
  else if t = tM ∨ nu = true ∧ t = [109] then 3
  else if t = tRc ∨ t = tCr then 4
  else if t = tS then 5
  else if t = tGa ∨ t = tFi ∨ t = tRe then 6
  else if t = tSp then 7
  else 8
def numL (t : List UInt8) (da : Bool) : Wl :=
  if t.dropWhile (· == 48) = [] then (6, []) else if da = true then (9, t.dropWhile (· == 48)) else (10, t.dropWhile (· == 48))
def letL (t : List UInt8) (nu : Bool) : Wl := if kindL t nu = 8 then (8, t) else (kindL t nu, [])
def numb (t : List UInt8) : Bool := match t with
  | [] => true
  | c :: _ => isD c
def wordL (p : Pt) : Wl := if numb p.tx = true then numL p.tx p.da else letL p.tx p.nu
def aheadL : List Wl → Bool
  | [] => false
  | w :: _ => w.1 == 6 || w.1 == 10
def pushL (w : Wl) (out : List Wl) : List Wl := if w.1 = 6 ∧ aheadL out = false then out else w :: out
def outL (l : List Pt) : List Wl := (l.map wordL).foldr pushL []
def splitL (l : List UInt8) : List Wl := outL (partsL (l.map lowB))
end Go.Proofs.YtgdjfcmmpjcaaaaDoor.Pure
namespace Go.Proofs.YtgdjfcmmpjcaaaaDoor.Pure
open Go Go.RowKit Go.Proofs.YtgdjfcmmpjcaaaaDoor.Q Go.Proofs.YtgdjfcmmpjcaaaaDoorW.PrintWords Go.Proofs.YtgdjfcmmpjcaaaaDoorW.PrintLast Go.Proofs.YtgdjfcmmpjcaaaaDoorW.Own Go.Proofs.YtgdjfcmmpjcaaaaDoorW.PrintMore Go.Proofs.YtgdjfcmmpjcaaaaDoorW.Px
set_option linter.unusedSimpArgs false
set_option linter.unusedVariables false
def ts (l : List UInt8) : ByteArray := ⟨l.toArray⟩
theorem ts_list (l : List UInt8) : (ts l).data.toList = l := rfl
theorem ts_toList (l : List UInt8) : (ts l).toList = l := by rw [ba_toList]; rfl
theorem ts_data (a : ByteArray) : ts a.data.toList = a := ba_ext rfl
theorem ts_size (l : List UInt8) : (ts l).size = l.length := by rw [ba_size]; rfl
theorem ts_append (a b : List UInt8) : ts a ++ ts b = ts (a ++ b) := ba_ext (by rw [ba_append]; rfl)
theorem bt_nat (l : List UInt8) (i : Nat) (h : i < l.length) : bt (ts l) (i : Int) = ((l[i].toNat : Nat) : Int) := by
  have h' : i < (ts l).size := by rw [ts_size]; exact h
  unfold bt
  simp [h']
  rfl
theorem num_byte (c : UInt8) : strOfNums [(c.toNat : Int)] = ts [c] := by
  apply ba_ext
  show [UInt8.ofNat (Int.toNat (c.toNat : Int))] = [c]
  rw [Int.toNat_natCast]; simp
theorem byte_at (l : List UInt8) (i : Nat) (h : i < l.length) : (ts l).extract ((i : Nat) : Int).toNat ((i + 1 : Nat) : Int).toNat = ts [l[i]] := by
  apply ba_ext
  rw [ba_extract, ts_list, ts_list, Int.toNat_natCast, Int.toNat_natCast, List.take_succ_eq_append_getElem h, List.drop_append_of_le_length (by rw [List.length_take]; omega)]
  rw [List.drop_eq_nil_of_le (by rw [List.length_take]; omega)]
  rfl
theorem digit_told (c : UInt8) : chars_Digit.f (c.toNat : Int) = some (isD c) := by
  unfold chars_Digit.f isD
  by_cases h : (c.toNat : Int) ≥ 48
  · rw [if_pos h, decide_eq_true (show 48 ≤ c.toNat by omega), Bool.true_and]
    congr 1
    by_cases g : c.toNat ≤ 57
    · rw [decide_eq_true g, decide_eq_true (by omega)]
    · rw [decide_eq_false g, decide_eq_false (by omega)]
  · rw [if_neg h, decide_eq_false (show ¬ 48 ≤ c.toNat by omega), Bool.false_and]
theorem digit_ref (c : UInt8) : newelref01_Digit.f (c.toNat : Int) = some (isD c) := digit_told c
def p93 (p : Pt) : S93 := ⟨ts p.tx, p.da, p.nu⟩
def p98 (p : Pt) : S98 := ⟨ts p.tx, p.da, p.nu⟩
theorem last_of (n : Nat) (h : n < 4611686018427387904) : wrap64 (((n + 1 : Nat) : Int) - 1) = (n : Int) := by unfold wrap64; omega
theorem next_of (i : Nat) (h : i < 4611686018427387904) : wrap64 ((i : Int) + 1) = ((i + 1 : Nat) : Int) := by unfold wrap64; omega
theorem beq_toNat (c : UInt8) (n : Nat) (h : n < 256) : ((c.toNat : Int) = (n : Int)) ↔ c = UInt8.ofNat n := by
  constructor
  · intro h
    have : c.toNat = n := by omega
    rw [← this]; simp
  · rintro rfl
    simp; omega
section
variable {T : Type} (g : Pt → T)
theorem all_len (r : List Pt × Pt) : ((allP r).map g).length = r.1.length + 1 := by simp [allP]
theorem all_getD (r : List Pt × Pt) (z : T) : ((allP r).map g).getD ((r.1.length : Int)).toNat z = g r.2 := by
  simp [allP, List.getD_eq_getElem?_getD]
theorem all_set (r : List Pt × Pt) (x : T) : ((allP r).map g).set ((r.1.length : Int)).toNat x = r.1.map g ++ [x] := by
  simp [allP, List.set_append]
theorem all_put (r : List Pt × Pt) (p : Pt) (x : T) (h : x = g p) : ((allP r).map g).set ((r.1.length : Int)).toNat x = (allP (r.1, p)).map g := by
  rw [all_set, h]; simp [allP]
theorem all_add (r : List Pt × Pt) (p : Pt) (x : T) (h : x = g p) : (allP r).map g ++ [x] = (allP (r.1 ++ [r.2], p)).map g := by
  rw [h]; simp [allP]
end
theorem stepP_sep (r : List Pt × Pt) (c : UInt8) (h : c = 46 ∨ c = 45) : stepP r c = (r.1 ++ [r.2], ⟨[], c == 45, false⟩) := by
  unfold stepP
  rw [if_pos (by rcases h with rfl | rfl <;> decide)]
theorem stepP_like (r : List Pt × Pt) (c : UInt8) (h : ¬ (c = 46 ∨ c = 45)) (h2 : likeP r.2.tx c = true) : stepP r c = (r.1, ⟨r.2.tx ++ [c], r.2.da, r.2.nu⟩) := by
  unfold stepP
  rw [if_neg (by simpa using h), if_pos h2]
theorem stepP_new (r : List Pt × Pt) (c : UInt8) (h : ¬ (c = 46 ∨ c = 45)) (h2 : likeP r.2.tx c = false) : stepP r c = (r.1 ++ [⟨r.2.tx, r.2.da, isD c⟩], ⟨[c], true, false⟩) := by
  unfold stepP
  rw [if_neg (by simpa using h), h2, if_neg (by simp)]
theorem runP_drop (r : List Pt × Pt) (v : List UInt8) (i : Nat) (h : i < v.length) : runP r (v.drop i) = runP (stepP r v[i]) (v.drop (i + 1)) := by
  rw [List.drop_eq_getElem_cons h]; rfl
theorem like_last (t : List UInt8) (c : UInt8) (h : t ≠ []) : likeP t c = (isD (t.getLast h) == isD c) := by
  unfold likeP
  rw [List.getLast?_eq_some_getLast h]
def tailP (v : List UInt8) (i : Nat) (p : Pt) : Prop := p.tx = [] ∨ ∃ n, i = n + 1 ∧ p.tx.getLast? = v[n]?
theorem tail_next (v : List UInt8) (i : Nat) (h : i < v.length) (t : List UInt8) (a b : Bool) : tailP v (i + 1) ⟨t ++ [v[i]], a, b⟩ := by
  refine Or.inr ⟨i, rfl, ?_⟩
  simp [List.getElem?_eq_getElem h]
theorem parts_loop (v : List UInt8) (hv : v.length ≤ 1000000) : ∀ (d i k : Nat) (r : List Pt × Pt), i + d = v.length → r.1.length ≤ i → r.2.tx.length ≤ i → tailP v i r.2 →
    words_parts.l0 (k + d + 1) (ts v) ((allP r).map p93) (v.length : Int) (i : Int) = some ((allP (runP r (v.drop i))).map p93) := by
  intro d
  induction d with
  | zero =>
    intro i k r h _ _ _
    rw [words_parts.l0, if_neg (by omega), List.drop_eq_nil_of_le (by omega)]
    rfl
  | succ d ih =>
    intro i k r h h1 h2 h3
    have hi : i < v.length := by omega
    have q0 : (i : Int) < (v.length : Int) := by omega
    have q0' : (i : Int) < ((ts v).size : Int) := by rw [ts_size]; omega
    have hl := all_len p93 r
    have hx : wrap64 ((((allP r).map p93).length : Int) - 1) = (r.1.length : Int) := by rw [hl]; exact last_of _ (by omega)
    have q1 : (0 : Int) ≤ (r.1.length : Int) := by omega
    have q2 : (r.1.length : Int) < (((allP r).map p93).length : Int) := by rw [hl]; omega
    have q3 : (0 : Int) ≤ (i : Int) := by omega
    have q4 : ((allP r).map p93).length < 5864062014805 := by rw [hl]; omega
    have hn := next_of i (by omega)
    have hr : rd_T93 ((allP r).map p93) (r.1.length : Int) = p93 r.2 := all_getD p93 r _
    have hb := bt_nat v i hi
    have tn := tail_next v i hi
    have step : ∀ r', stepP r v[i] = r' → r'.1.length ≤ i + 1 → r'.2.tx.length ≤ i + 1 → tailP v (i + 1) r'.2 → words_parts.l0 (k + d + 1) (ts v) ((allP r').map p93) (v.length : Int) ((i + 1 : Nat) : Int) = some ((allP (runP r (v.drop i))).map p93) := by
      intro r' e a b t
      rw [ih (i + 1) k r' (by omega) a b t, runP_drop r v i hi, e]
    rw [show k + (d + 1) + 1 = (k + d + 1) + 1 from by omega, words_parts.l0, if_pos q0, if_pos q3, if_pos q0', hx, if_pos q1, if_pos q2, hr, hb, hn]
    generalize hc : v[i] = c at *
    by_cases c1 : c = 46
    · rw [if_pos (by rw [c1]; rfl), if_pos q4, all_add p93 r ⟨[], c == 45, false⟩ _ (by rw [c1]; rfl)]
      exact step _ (stepP_sep r c (Or.inl c1)) (by simp; omega) (by simp) (Or.inl rfl)
    · rw [if_neg (by rw [show (46 : Int) = ((46 : Nat) : Int) from rfl, beq_toNat c 46 (by omega)]; exact c1)]
      by_cases c2 : c = 45
      · rw [if_pos (by rw [c2]; rfl), if_pos q4, all_add p93 r ⟨[], c == 45, false⟩ _ (by rw [c2]; rfl)]
        exact step _ (stepP_sep r c (Or.inr c2)) (by simp; omega) (by simp) (Or.inl rfl)
      · rw [if_neg (by rw [show (45 : Int) = ((45 : Nat) : Int) from rfl, beq_toNat c 45 (by omega)]; exact c2)]
        have nc : ¬ (c = 46 ∨ c = 45) := by rintro (h | h); exact c1 h; exact c2 h
        have e1 : strOfNums [(c.toNat : Int)] = ts [c] := num_byte c
        have q7 : (p93 r.2).f0.size + (ts [c]).size ≤ 9223372036854775807 := by show (ts r.2.tx).size + (ts [c]).size ≤ _; rw [ts_size, ts_size]; simp; omega
        have same : likeP r.2.tx c = true → (if (p93 r.2).f0.size + (strOfNums [(c.toNat : Int)]).size ≤ 9223372036854775807 then (words_parts.l0 (k + d + 1) (ts v) (((allP r).map p93).set ((r.1.length : Int)).toNat (⟨(p93 r.2).f0 ++ (strOfNums [(c.toNat : Int)]), (p93 r.2).f1, (p93 r.2).f2⟩ : S93)) (v.length : Int) ((i + 1 : Nat) : Int)) else none) = some ((allP (runP r (v.drop i))).map p93) := by
          intro lk
          rw [e1, if_pos q7, all_put p93 r ⟨r.2.tx ++ [c], r.2.da, r.2.nu⟩ _ (by unfold p93; rw [ts_append])]
          exact step _ (stepP_like r c nc lk) (by simp; omega) (by simp; omega) (tn _ _ _)
        by_cases z : r.2.tx = []
        · have z' : (p93 r.2).f0.toList = ([] : List UInt8) := by show (ts r.2.tx).toList = []; rw [ts_toList]; exact z
          rw [if_pos z', Option.bind_some]
          exact same (by rw [z]; rfl)
        · have z' : ¬ (p93 r.2).f0.toList = ([] : List UInt8) := by show ¬ (ts r.2.tx).toList = []; rw [ts_toList]; exact z
          obtain ⟨n, hin, hlast⟩ : ∃ n, i = n + 1 ∧ r.2.tx.getLast? = v[n]? := by
            rcases h3 with h3 | h3
            · exact absurd h3 z
            · exact h3
          have hnv : n < v.length := by omega
          have hnn : n < 4611686018427387904 := by omega
          have hg : r.2.tx.getLast z = v[n] := by
            rw [List.getLast?_eq_some_getLast z, List.getElem?_eq_getElem hnv] at hlast
            exact Option.some.inj hlast
          have hp : wrap64 ((i : Int) - 1) = (n : Int) := by rw [hin]; exact last_of n hnn
          rw [if_neg z', digit_told, Option.bind_some, hp, if_pos (by omega), if_pos (by rw [ts_size]; omega), bt_nat v n hnv, digit_told, Option.bind_some, ← hg]
          by_cases e : isD (r.2.tx.getLast z) = isD c
          · rw [if_neg (by rw [e]; simp), Option.bind_some]
            exact same (by rw [like_last _ _ z, e]; simp)
          · rw [if_pos (by simpa using fun h => e h.symm), Option.bind_some, Option.bind_some]
            have ea : ((allP r).map p93).set ((r.1.length : Int)).toNat (⟨(p93 r.2).f0, (p93 r.2).f1, isD c⟩ : S93) = (allP (r.1, ⟨r.2.tx, r.2.da, isD c⟩)).map p93 := all_put p93 r _ _ rfl
            rw [ea]
            have la := all_len p93 (r.1, ⟨r.2.tx, r.2.da, isD c⟩)
            have q8 : ((allP (r.1, ⟨r.2.tx, r.2.da, isD c⟩)).map p93).length < 5864062014805 := by rw [la]; simp; omega
            rw [if_pos q8, Option.bind_some, all_add p93 (r.1, ⟨r.2.tx, r.2.da, isD c⟩) ⟨[], true, false⟩ (⟨(⟨#[]⟩ : ByteArray), true, false⟩ : S93) rfl]
            generalize hR : ((r.1 ++ [(⟨r.2.tx, r.2.da, isD c⟩ : Pt)], (⟨[], true, false⟩ : Pt)) : List Pt × Pt) = R
            have R1 : R.1 = r.1 ++ [(⟨r.2.tx, r.2.da, isD c⟩ : Pt)] := by rw [← hR]
            have R2 : R.2 = ⟨[], true, false⟩ := by rw [← hR]
            have Rl : R.1.length = r.1.length + 1 := by rw [R1]; simp
            have lR := all_len p93 R
            have hxR : wrap64 ((((allP R).map p93).length : Int) - 1) = (R.1.length : Int) := by rw [lR]; exact last_of _ (by omega)
            have hrR : rd_T93 ((allP R).map p93) (R.1.length : Int) = p93 R.2 := all_getD p93 R _
            rw [hxR, if_pos (by omega), if_pos (by rw [lR]; omega), Option.bind_some, hrR, e1]
            have q9 : (p93 R.2).f0.size + (ts [c]).size ≤ 9223372036854775807 := by rw [R2]; show (ts []).size + (ts [c]).size ≤ _; rw [ts_size, ts_size]; simp
            rw [if_pos q9, all_put p93 R ⟨[c], true, false⟩ _ (by rw [R2]; unfold p93; rw [ts_append]; rfl)]
            exact step (R.1, ⟨[c], true, false⟩) (by rw [stepP_new r c nc (by rw [like_last _ _ z]; simpa using e), R1]) (by simp; omega) (by simp) (tn [] true false)
theorem parts_told (v : List UInt8) (hv : v.length ≤ 1000000) (k : Nat) (hk : v.length + 1 ≤ k) : words_parts.f k (ts v) = some ((partsL v).map p93) := by
  have := parts_loop v hv v.length 0 (k - v.length - 1) p0 (by omega) (by simp [p0]) (by simp [p0]) (Or.inl rfl)
  rw [show k - v.length - 1 + v.length + 1 = k from by omega, ← ts_size v] at this
  exact this
def w38 (w : Wl) : S38 := ⟨w.1, ts w.2⟩
def pr (w : Wl) : Int × ByteArray := (w.1, ts w.2)
theorem kindL_plain (t : List UInt8) (nu : Bool) (ka : ∀ c : List UInt8, (c = [97] ∨ c = [98] ∨ c = [109]) → (nu = true ∧ t = c) = False) : kindL t nu = if t = tA then 1 else if t = tB then 2 else if t = tM then 3 else if t = tRc ∨ t = tCr then 4 else if t = tS then 5 else if t = tGa ∨ t = tFi ∨ t = tRe then 6 else if t = tSp then 7 else 8 := by
  have a := ka [97] (by simp)
  have b := ka [98] (by simp)
  have c := ka [109] (by simp)
  unfold kindL
  simp only [a, b, c, or_false]
theorem letters_told (t : List UInt8) (da nu : Bool) (k : Nat) (hk : 4 ≤ k) : words_letters.f k (ts t) da nu = some (pr (letL t nu)) := by
  obtain ⟨j, rfl⟩ : ∃ j, k = j + 1 + 1 + 1 := ⟨k - 3, by omega⟩
  have gen : ∀ s x, (s = t ∨ nu = true ∧ (s = tA ∧ t = [97] ∨ s = tB ∧ t = [98] ∨ s = tM ∧ t = [109])) → (s = t → ¬ (nu = true ∧ (t = [97] ∨ t = [98] ∨ t = [109]))) → x = ts s → words_letters.j0 (j + 1 + 1 + 1) x (ts t) da nu = some (pr (letL t nu)) := by
    rintro s _ hs hne rfl
    rcases hs with rfl | ⟨hn, ⟨rfl, rfl⟩ | ⟨rfl, rfl⟩ | ⟨rfl, rfl⟩⟩
    · have hx := hne rfl
      have ka : ∀ c, (c = [97] ∨ c = [98] ∨ c = [109]) → (nu = true ∧ s = c) = False := by
        intro c hc
        apply eq_false
        rintro ⟨h1, h2⟩
        exact hx ⟨h1, h2 ▸ hc⟩
      rw [words_letters.j0, ts_toList]
      unfold letL
      rw [kindL_plain s nu ka]
      by_cases h1 : s = tA
      · rw [if_pos h1, if_pos h1]; rfl
      · rw [if_neg h1, if_neg h1]
        by_cases h2 : s = tB
        · rw [if_pos h2, if_pos h2]; rfl
        · rw [if_neg h2, if_neg h2]
          by_cases h3 : s = tM
          · rw [if_pos h3, if_pos h3]; rfl
          · rw [if_neg h3, if_neg h3]
            have j2 : ∀ b, (¬ b = true → ¬ (s = tGa ∨ s = tFi ∨ s = tRe)) → (b = true → (s = tGa ∨ s = tFi ∨ s = tRe)) → words_letters.j2 (j + 1) (ts s) b (ts s) da nu = some (pr (if (if s = tGa ∨ s = tFi ∨ s = tRe then (6 : Int) else if s = tSp then 7 else 8) = 8 then (8, s) else ((if s = tGa ∨ s = tFi ∨ s = tRe then (6 : Int) else if s = tSp then 7 else 8), []))) := by
              intro b hb1 hb2
              rw [words_letters.j2, ts_toList]
              by_cases hb : b = true
              · rw [if_pos hb, if_pos (hb2 hb)]; rfl
              · rw [if_neg hb, if_neg (hb1 hb)]
                by_cases h7 : s = tSp
                · rw [if_pos h7, if_pos h7]; rfl
                · rw [if_neg h7, if_neg h7]; rfl
            have j1 : ∀ b, (¬ b = true → ¬ (s = tRc ∨ s = tCr)) → (b = true → (s = tRc ∨ s = tCr)) → words_letters.j1 (j + 1 + 1) (ts s) b (ts s) da nu = some (pr (if (if s = tRc ∨ s = tCr then (4 : Int) else if s = tS then 5 else if s = tGa ∨ s = tFi ∨ s = tRe then (6 : Int) else if s = tSp then 7 else 8) = 8 then (8, s) else ((if s = tRc ∨ s = tCr then (4 : Int) else if s = tS then 5 else if s = tGa ∨ s = tFi ∨ s = tRe then (6 : Int) else if s = tSp then 7 else 8), []))) := by
              intro b hb1 hb2
              rw [words_letters.j1, ts_toList]
              by_cases hb : b = true
              · rw [if_pos hb, if_pos (hb2 hb)]; rfl
              · rw [if_neg hb, if_neg (hb1 hb)]
                by_cases h5 : s = tS
                · rw [if_pos h5, if_pos h5]; rfl
                · rw [if_neg h5, if_neg h5]
                  by_cases h6 : s = tGa
                  · rw [if_pos h6]; exact j2 _ (fun h => absurd (by rw [show s = [103, 97] from h6]; rfl) h) (fun _ => Or.inl h6)
                  · rw [if_neg h6]
                    by_cases h8 : s = tFi
                    · rw [if_pos h8]; exact j2 _ (fun h => absurd (by rw [show s = [102, 105, 110, 97, 108] from h8]; rfl) h) (fun _ => Or.inr (Or.inl h8))
                    · rw [if_neg h8]
                      refine j2 _ ?_ ?_
                      · rintro h (g | g | g)
                        · exact h6 g
                        · exact h8 g
                        · exact h (by rw [show s = [114, 101, 108, 101, 97, 115, 101] from g]; rfl)
                      · intro h; exact Or.inr (Or.inr (beq_iff_eq.1 h))
            by_cases h4 : s = tRc
            · rw [if_pos h4]; exact j1 _ (fun h => absurd (by rw [show s = [114, 99] from h4]; rfl) h) (fun _ => Or.inl h4)
            · rw [if_neg h4]
              refine j1 _ ?_ ?_
              · rintro h (g | g)
                · exact h4 g
                · exact h (by rw [show s = [99, 114] from g]; rfl)
              · intro h; exact Or.inr (beq_iff_eq.1 h)
    · subst hn; rw [words_letters.j0, ts_toList, if_pos rfl]; rfl
    · subst hn; rw [words_letters.j0, ts_toList, if_neg (by decide), if_pos rfl]; rfl
    · subst hn; rw [words_letters.j0, ts_toList, if_neg (by decide), if_neg (by decide), if_pos rfl]; rfl
  unfold words_letters.f
  rw [ts_toList]
  by_cases hn : nu = true
  · rw [if_pos hn]
    by_cases h1 : t = [97]
    · rw [if_pos h1]; exact gen tA _ (Or.inr ⟨hn, Or.inl ⟨rfl, h1⟩⟩) (fun h => by rw [h1] at h; exact absurd h (by decide)) rfl
    · rw [if_neg h1]
      by_cases h2 : t = [98]
      · rw [if_pos h2]; exact gen tB _ (Or.inr ⟨hn, Or.inr (Or.inl ⟨rfl, h2⟩)⟩) (fun h => by rw [h2] at h; exact absurd h (by decide)) rfl
      · rw [if_neg h2]
        by_cases h3 : t = [109]
        · rw [if_pos h3]; exact gen tM _ (Or.inr ⟨hn, Or.inr (Or.inr ⟨rfl, h3⟩)⟩) (fun h => by rw [h3] at h; exact absurd h (by decide)) rfl
        · rw [if_neg h3]
          refine gen t _ (Or.inl rfl) ?_ rfl
          rintro _ ⟨_, g | g | g⟩
          · exact h1 g
          · exact h2 g
          · exact h3 g
  · rw [if_neg hn]
    exact gen t _ (Or.inl rfl) (fun _ h => hn h.1) rfl
theorem trim_told (t : List UInt8) : strings_TrimLeft.f (ts t) (⟨#[48]⟩ : ByteArray) = some (ts (t.dropWhile (· == 48))) := by
  unfold strings_TrimLeft.f
  rw [if_pos ⟨rfl, by decide⟩]
  rfl
theorem word_told (p : Pt) (k : Nat) (hk : 5 ≤ k) : words_word.f k (p93 p).f0 (p93 p).f1 (p93 p).f2 = some (pr (wordL p)) := by
  obtain ⟨j, rfl⟩ : ∃ j, k = j + 1 := ⟨k - 1, by omega⟩
  obtain ⟨t, da, nu⟩ := p
  show words_word.f (j + 1) (ts t) da nu = _
  have nums : words_word.j0 (j + 1) false (ts t) da nu = some (pr (numL t da)) := by
    rw [words_word.j0, if_neg (by simp), trim_told, Option.bind_some, ts_toList]
    unfold numL
    by_cases z : t.dropWhile (· == 48) = []
    · rw [if_pos z, if_pos z]; rfl
    · rw [if_neg z, if_neg z]
      by_cases d : da = true
      · rw [if_pos d, if_pos d]; rfl
      · rw [if_neg d, if_neg d]; rfl
  unfold words_word.f wordL
  rw [ts_toList]
  cases t with
  | nil => rw [if_pos rfl, nums]; rfl
  | cons c t =>
    have hb : bt (ts (c :: t)) 0 = (c.toNat : Int) := bt_nat (c :: t) 0 (by simp)
    rw [if_neg (by simp), if_pos (by rw [ts_size, List.length_cons]; omega), hb, digit_told, Option.bind_some]
    show _ = some (pr (if isD c = true then numL (c :: t) da else letL (c :: t) nu))
    by_cases d : isD c = true
    · rw [if_pos d, d]; exact nums
    · rw [if_neg d, Bool.eq_false_iff.2 d]
      show words_word.j0 (j + 1) true _ _ _ = _
      rw [words_word.j0, if_pos rfl, letters_told _ _ _ _ (by omega)]
      rfl
def toN (c : UInt8) : Int := (c.toNat : Int)
theorem nums_ts (l : List UInt8) : strOfNums (l.map toN) = ts l := by
  apply ba_ext
  show (l.map toN).map (fun n => UInt8.ofNat n.toNat) = l
  rw [List.map_map]
  conv => rhs; rw [← List.map_id l]
  apply List.map_congr_left
  intro c _
  show UInt8.ofNat (Int.toNat (c.toNat : Int)) = c
  rw [Int.toNat_natCast]; simp
theorem low_num (c : UInt8) : (if 65 ≤ (c.toNat : Int) ∧ (c.toNat : Int) ≤ 90 then (c.toNat : Int) + 32 else (c.toNat : Int)) = toN (lowB c) := by
  unfold lowB toN
  by_cases h : 65 ≤ c.toNat ∧ c.toNat ≤ 90
  · rw [if_pos (by omega), if_pos h, UInt8.toNat_add]
    have : (32 : UInt8).toNat = 32 := rfl
    rw [this]; omega
  · rw [if_neg (by omega), if_neg h]
theorem lower_told (v : List UInt8) (hv : v.length ≤ 1000000) : chars_Lower.f (ts v) = some (ts (v.map lowB)) := by
  unfold chars_Lower.f
  rw [if_pos (by rw [ts_size]; omega), ← nums_ts (v.map lowB)]
  congr 2
  unfold bytesOf
  rw [ts_list, List.map_map, List.map_map]
  apply List.map_congr_left
  intro c _
  exact low_num c
theorem rev_loop : ∀ (n : Nat) (m a b : List S38) (k : Nat), m.length ≤ n → a.length + m.length + b.length ≤ 4000000 →
    api_Word_73.l0 (k + n + 1) (a ++ (m ++ b)) (a.length : Int) (((a.length + m.length : Nat) : Int) - 1) = some (a ++ (m.reverse ++ b)) := by
  intro n
  induction n with
  | zero =>
    intro m a b k h _
    obtain rfl : m = [] := List.eq_nil_of_length_eq_zero (by omega)
    rw [api_Word_73.l0, if_neg (by simp; omega)]
    rfl
  | succ n ih =>
    intro m a b k h hb
    match m, h, hb with
    | [], h, hb => rw [api_Word_73.l0, if_neg (by simp; omega)]; rfl
    | [x], h, hb => rw [api_Word_73.l0, if_neg (by simp)]; rfl
    | x :: y :: m', h, hb =>
      obtain ⟨c, z, hc⟩ : ∃ c z, y :: m' = c ++ [z] := ⟨(y :: m').dropLast, (y :: m').getLast (by simp), (List.dropLast_concat_getLast (by simp)).symm⟩
      rw [hc] at h hb ⊢
      simp only [List.length_cons, List.length_append, List.length_nil] at h hb
      have hj : (((a.length + (x :: (c ++ [z])).length : Nat) : Int) - 1) = ((a.length + 1 + c.length : Nat) : Int) := by simp; omega
      have hL : (a ++ (x :: (c ++ [z]) ++ b)).length = a.length + 1 + c.length + 1 + b.length := by simp; omega
      have gz : rd_T38 (a ++ (x :: (c ++ [z]) ++ b)) ((a.length + 1 + c.length : Nat) : Int) = z := by
        unfold rd_T38
        rw [Int.toNat_natCast, List.getD_eq_getElem?_getD, List.getElem?_append_right (by omega)]
        rw [show a.length + 1 + c.length - a.length = c.length + 1 from by omega]
        simp
      have gx : rd_T38 (a ++ (x :: (c ++ [z]) ++ b)) ((a.length : Nat) : Int) = x := by
        unfold rd_T38
        rw [Int.toNat_natCast, List.getD_eq_getElem?_getD, List.getElem?_append_right (by omega)]
        simp
      have s1 : (a ++ (x :: (c ++ [z]) ++ b)).set ((a.length : Nat) : Int).toNat z = a ++ (z :: (c ++ [z]) ++ b) := by
        rw [Int.toNat_natCast, List.set_append_right _ _ (by omega)]
        simp
      have s2 : (a ++ (z :: (c ++ [z]) ++ b)).set ((a.length + 1 + c.length : Nat) : Int).toNat x = (a ++ [z]) ++ (c ++ ([x] ++ b)) := by
        rw [Int.toNat_natCast, List.set_append_right _ _ (by omega), show a.length + 1 + c.length - a.length = c.length + 1 from by omega]
        simp
      have w1 : wrap64 (((a.length : Nat) : Int) + 1) = (((a ++ [z]).length : Nat) : Int) := by
        rw [List.length_append]; unfold wrap64; simp; omega
      have w2 : wrap64 (((a.length + 1 + c.length : Nat) : Int) - 1) = (((a ++ [z]).length + c.length : Nat) : Int) - 1 := by
        rw [List.length_append]; unfold wrap64; simp; omega
      have := ih c (a ++ [z]) ([x] ++ b) k (by omega) (by simp; omega)
      rw [show k + (n + 1) + 1 = (k + n + 1) + 1 from by omega, api_Word_73.l0, hj, if_pos (by omega), if_pos (by omega), if_pos (by rw [hL]; omega), if_pos (by omega), if_pos (by rw [hL]; omega), gz, gx]
      show api_Word_73.l0 (k + n + 1) ((((a ++ (x :: (c ++ [z]) ++ b)).set ((a.length : Nat) : Int).toNat z)).set ((a.length + 1 + c.length : Nat) : Int).toNat x) _ _ = _
      rw [s1, s2, w1, w2, this]
      simp
theorem rev_told (l : List S38) (hl : l.length ≤ 4000000) (k : Nat) (hk : l.length + 1 ≤ k) : api_Word_73.f k l = some l.reverse := by
  have := rev_loop l.length l [] [] (k - l.length - 1) (Nat.le_refl _) (by simp; omega)
  rw [show k - l.length - 1 + l.length + 1 = k from by omega, List.append_nil, List.append_nil] at this
  unfold api_Word_73.f
  rw [show wrap64 ((l.length : Int) - 1) = (((([] : List S38).length + l.length : Nat) : Int) - 1) from by unfold wrap64; simp; omega]
  exact this
theorem push_skip (w : Wl) (out : List Wl) (h : w.1 = 6) (g : aheadL out = false) : pushL w out = out := if_pos ⟨h, g⟩
theorem push_add (w : Wl) (out : List Wl) (h : ¬ (w.1 = 6 ∧ aheadL out = false)) : pushL w out = w :: out := if_neg h
theorem ahead_cons (w : Wl) (l : List Wl) : aheadL (w :: l) = false ↔ ¬ w.1 = 6 ∧ ¬ w.1 = 10 := by
  unfold aheadL; simp
theorem split_loop : ∀ (n : Nat) (l : List Pt) (out : List Wl) (k : Nat), l.length = n → out.length + l.length ≤ 1000000 → out.length + l.length + 10 ≤ k →
    words_Split.l0 (k + n + 1) ((out.map w38).reverse) (l.map p93) = some (((l.map wordL).foldr pushL out).map w38) := by
  intro n
  induction n with
  | zero =>
    intro l out k h _ hk
    obtain rfl : l = [] := List.eq_nil_of_length_eq_zero h
    rw [words_Split.l0, if_pos (by simp), rev_told _ (by simp; omega) _ (by simp; omega), Option.bind_some, List.reverse_reverse]
    rfl
  | succ n ih =>
    intro l out k h hs hk
    obtain ⟨l', p, rfl⟩ : ∃ l' p, l = l' ++ [p] := ⟨l.dropLast, l.getLast (by intro z; rw [z] at h; simp at h), (List.dropLast_concat_getLast _).symm⟩
    have hl' : l'.length = n := by simpa using h
    rw [List.length_append, List.length_singleton] at hs hk
    have hm : ((l' ++ [p]).map p93).length = n + 1 := by rw [List.length_map, List.length_append, hl']; rfl
    have hx : wrap64 ((((l' ++ [p]).map p93).length : Int) - 1) = ((n : Nat) : Int) := by rw [hm]; exact last_of n (by omega)
    have hr : rd_T93 ((l' ++ [p]).map p93) ((n : Nat) : Int) = p93 p := by
      unfold rd_T93
      rw [Int.toNat_natCast, List.map_append, List.getD_eq_getElem?_getD, List.getElem?_append_right (by simp; omega)]
      simp [hl']
    have ht : ((l' ++ [p]).map p93).take ((n : Nat) : Int).toNat = l'.map p93 := by
      rw [Int.toNat_natCast, List.map_append, List.take_append_of_le_length (by simp; omega), List.take_of_length_le (by simp; omega)]
    have fold : (((l' ++ [p]).map wordL).foldr pushL out) = (l'.map wordL).foldr pushL (pushL (wordL p) out) := by simp
    have hlen : ((out.map w38).reverse).length = out.length := by simp
    have add : ¬ ((wordL p).1 = 6 ∧ aheadL out = false) → (if ((out.map w38).reverse).length < 5864062014805 then words_Split.l0 (k + n + 1) ((out.map w38).reverse ++ [(⟨(pr (wordL p)).1, (pr (wordL p)).2⟩ : S38)]) (l'.map p93) else none) = some ((((l' ++ [p]).map wordL).foldr pushL out).map w38) := by
      intro hp
      have e : (out.map w38).reverse ++ [(⟨(pr (wordL p)).1, (pr (wordL p)).2⟩ : S38)] = (((wordL p :: out)).map w38).reverse := by
        rw [List.map_cons, List.reverse_cons]; rfl
      rw [if_pos (by rw [hlen]; omega), e, ih l' (wordL p :: out) k hl' (by simp; omega) (by simp; omega), fold, push_add _ _ hp]
    have skip : (wordL p).1 = 6 → aheadL out = false → words_Split.l0 (k + n + 1) ((out.map w38).reverse) (l'.map p93) = some ((((l' ++ [p]).map wordL).foldr pushL out).map w38) := by
      intro h1 h2
      rw [ih l' out k hl' (by omega) (by omega), fold, push_skip _ _ h1 h2]
    rw [show k + (n + 1) + 1 = (k + n + 1) + 1 from by omega, words_Split.l0, if_neg (by rw [hm]; omega), hx, if_pos (by omega), if_pos (by rw [hm]; omega), hr, word_told p _ (by omega), Option.bind_some, if_pos (by rw [hm]; omega), ht, Option.bind_some]
    by_cases h6 : (pr (wordL p)).1 = 6
    · rw [if_pos h6]
      cases out with
      | nil =>
        rw [if_neg (by simp)]
        exact skip h6 rfl
      | cons o os =>
        have ho : (((o :: os).map w38).reverse).length = os.length + 1 := by simp
        have hy : wrap64 (((((o :: os).map w38).reverse).length : Int) - 1) = ((os.length : Nat) : Int) := by rw [ho]; exact last_of _ (by simp at hs; omega)
        have hz : rd_T38 (((o :: os).map w38).reverse) ((os.length : Nat) : Int) = w38 o := by
          unfold rd_T38
          rw [Int.toNat_natCast, List.map_cons, List.reverse_cons, List.getD_eq_getElem?_getD, List.getElem?_append_right (by simp)]
          simp
        rw [if_pos (by rw [ho]; omega), hy, if_pos (by omega), if_pos (by rw [ho]; omega), hz]
        by_cases a6 : (w38 o).f0 = 6
        · rw [if_pos a6]
          exact add (fun h => ((ahead_cons o os).1 h.2).1 a6)
        · rw [if_neg a6]
          by_cases a10 : (w38 o).f0 = 10
          · rw [if_pos a10]
            exact add (fun h => ((ahead_cons o os).1 h.2).2 a10)
          · rw [if_neg a10]
            exact skip h6 ((ahead_cons o os).2 ⟨a6, a10⟩)
    · rw [if_neg h6]
      exact add (fun h => h6 h.1)
theorem stepP_B (r : List Pt × Pt) (c : UInt8) (B : Nat) (h : ∀ p ∈ allP r, p.tx.length ≤ B) : (∀ p ∈ allP (stepP r c), p.tx.length ≤ B + 1) ∧ (allP (stepP r c)).length ≤ (allP r).length + 1 := by
  have h1 : ∀ p ∈ r.1, p.tx.length ≤ B := fun p hp => h p (List.mem_append_left _ hp)
  have h2 : r.2.tx.length ≤ B := h _ (List.mem_append_right _ (List.mem_singleton.2 rfl))
  unfold stepP allP
  split
  · refine ⟨?_, by simp⟩
    intro p hp
    simp only [List.mem_append, List.mem_singleton] at hp
    rcases hp with (hp | rfl) | rfl
    · have := h1 p hp; omega
    · omega
    · simp
  · split
    · refine ⟨?_, by simp⟩
      intro p hp
      simp only [List.mem_append, List.mem_singleton] at hp
      rcases hp with hp | rfl
      · have := h1 p hp; omega
      · simp; omega
    · refine ⟨?_, by simp⟩
      intro p hp
      simp only [List.mem_append, List.mem_singleton] at hp
      rcases hp with (hp | rfl) | rfl
      · have := h1 p hp; omega
      · simp; omega
      · simp
theorem runP_B : ∀ (l : List UInt8) (r : List Pt × Pt) (B : Nat), (∀ p ∈ allP r, p.tx.length ≤ B) → (∀ p ∈ allP (runP r l), p.tx.length ≤ B + l.length) ∧ (allP (runP r l)).length ≤ (allP r).length + l.length
  | [], _, _, h => ⟨fun p hp => h p hp, Nat.le_refl _⟩
  | c :: l, r, B, h => by
    have s := stepP_B r c B h
    have i := runP_B l (stepP r c) (B + 1) s.1
    refine ⟨fun p hp => ?_, ?_⟩
    · have := i.1 p hp
      rw [List.length_cons]; omega
    · have a := i.2
      have b := s.2
      rw [List.length_cons]
      show (allP (runP (stepP r c) l)).length ≤ _
      omega
theorem partsL_B (l : List UInt8) : (∀ p ∈ partsL l, p.tx.length ≤ l.length) ∧ (partsL l).length ≤ l.length + 1 := by
  have := runP_B l p0 0 (fun p hp => by obtain rfl := List.mem_singleton.1 hp; exact Nat.le_refl _)
  refine ⟨fun p hp => ?_, ?_⟩
  · have := this.1 p hp; omega
  · have := this.2
    have e : (allP p0).length = 1 := rfl
    unfold partsL; omega
theorem split_told (v : List UInt8) (hv : v.length ≤ 100000) (k : Nat) (hk : 3 * v.length + 40 ≤ k) : words_Split.f k (ts v) = some ((splitL v).map w38) := by
  have hB := partsL_B (v.map lowB)
  rw [List.length_map] at hB
  unfold words_Split.f
  rw [lower_told v (by omega), Option.bind_some, parts_told _ (by rw [List.length_map]; omega) k (by rw [List.length_map]; omega), Option.bind_some]
  have := split_loop (partsL (v.map lowB)).length (partsL (v.map lowB)) [] (k - (partsL (v.map lowB)).length - 1) rfl (by simp; omega) (by simp; omega)
  rw [show k - (partsL (v.map lowB)).length - 1 + (partsL (v.map lowB)).length + 1 = k from by omega] at this
  exact this
theorem pushL_len (w : Wl) (out : List Wl) : (pushL w out).length ≤ out.length + 1 := by
  unfold pushL; split <;> simp
theorem splitL_len (v : List UInt8) : (splitL v).length ≤ v.length + 1 := by
  have g : ∀ l : List Wl, (l.foldr pushL []).length ≤ l.length := by
    intro l
    induction l with
    | nil => simp
    | cons w l ih => rw [List.foldr_cons]; have := pushL_len w (l.foldr pushL []); rw [List.length_cons]; omega
  have := g ((partsL (v.map lowB)).map wordL)
  have hB := (partsL_B (v.map lowB)).2
  rw [List.length_map] at this hB
  unfold splitL outL
  omega
theorem umod (a : Int) (m : Nat) (hm : 0 < m ∧ m ≤ 1000000) : ∃ n : Nat, n < m ∧ wrap64 (Int.tmod (IntKind.u64.wrap a) (m : Int)) = (n : Int) := by
  have h0 : 0 ≤ IntKind.u64.wrap a := by rw [IntKind.wrap_u64]; omega
  have h1 := Int.tmod_nonneg (m : Int) h0
  have h2 := Int.tmod_lt_of_pos (IntKind.u64.wrap a) (show (0 : Int) < (m : Int) by omega)
  refine ⟨(Int.tmod (IntKind.u64.wrap a) (m : Int)).toNat, by omega, ?_⟩
  unfold wrap64
  omega
theorem digits_mono (n : Int) (r : ByteArray) (h : newelhelp_Digits.f 4 n = some r) : ∀ k, 4 ≤ k → newelhelp_Digits.f k n = some r := by
  intro k hk
  obtain ⟨j, rfl⟩ := Nat.exists_eq_add_of_le hk
  clear hk
  induction j with
  | zero => exact h
  | succ j ih => exact newelhelp_Digits.mono_l _ _ _ ih
theorem run_digits (d : List Pt) (a b : Bool) : ∀ (l t : List UInt8), (∀ c ∈ t, isD c = true) → (∀ c ∈ l, isD c = true) → runP (d, ⟨t, a, b⟩) l = (d, ⟨t ++ l, a, b⟩)
  | [], t, _, _ => by rw [List.append_nil]; rfl
  | c :: l, t, ht, hl => by
    have hc := hl c (List.mem_cons_self ..)
    have nc : ¬ (c = 46 ∨ c = 45) := by rintro (rfl | rfl) <;> exact absurd hc (by decide)
    have lk : likeP t c = true := by
      by_cases z : t = []
      · rw [z]; rfl
      · rw [like_last _ _ z, ht _ (List.getLast_mem z), hc]; rfl
    have e : stepP (d, ⟨t, a, b⟩) c = (d, ⟨t ++ [c], a, b⟩) := stepP_like _ c nc lk
    show runP (stepP _ c) l = _
    rw [e, run_digits d a b l (t ++ [c]) (fun x hx => by
      rcases List.mem_append.1 hx with hx | hx
      · exact ht x hx
      · obtain rfl := List.mem_singleton.1 hx; exact hc) (fun x hx => hl x (List.mem_cons_of_mem _ hx))]
    simp
theorem low_digits (l : List UInt8) (h : ∀ c ∈ l, isD c = true) : l.map lowB = l := by
  conv => rhs; rw [← List.map_id l]
  apply List.map_congr_left
  intro c hc
  have := h c hc
  unfold isD at this
  simp only [Bool.and_eq_true, decide_eq_true_eq] at this
  show lowB c = c
  unfold lowB
  rw [if_neg (by omega)]
def numD (d : List UInt8) : Bool := match d with
  | [] => false
  | c :: _ => c != 48 && d.all isD
theorem numD_all (d : List UInt8) (h : numD d = true) : d ≠ [] ∧ ∀ c ∈ d, isD c = true := by
  cases d with
  | nil => cases h
  | cons c d =>
    simp only [numD, Bool.and_eq_true] at h
    exact ⟨by simp, List.all_eq_true.1 h.2⟩
theorem numD_word (d : List UInt8) (h : numD d = true) (da nu : Bool) : wordL ⟨d, da, nu⟩ = (if da = true then 9 else 10, d) := by
  cases d with
  | nil => cases h
  | cons c d =>
    simp only [numD, Bool.and_eq_true, bne_iff_ne] at h
    have hd : (c :: d).dropWhile (· == 48) = c :: d := by rw [List.dropWhile_cons, if_neg (by simpa using h.1)]
    have hc : isD c = true := List.all_eq_true.1 h.2 c (List.mem_cons_self ..)
    unfold wordL
    rw [if_pos (show numb (c :: d) = true from hc)]
    unfold numL
    rw [hd, if_neg (List.cons_ne_nil c d)]
    cases da <;> rfl
theorem parts_one (x : List UInt8) (hx : numD x = true) : splitL x = [(10, x)] := by
  have xa := numD_all x hx
  unfold splitL
  rw [low_digits x xa.2]
  unfold partsL p0
  rw [run_digits [] false false x [] (fun c hc => by cases hc) xa.2, List.nil_append]
  show outL [⟨x, false, false⟩] = _
  unfold outL
  simp only [List.map_cons, List.map_nil, List.foldr_cons, List.foldr_nil, numD_word x hx]
  rw [push_add _ [] (by simp)]
  rfl
def cmpL (a b : List UInt8) : Int :=
  if a.length < b.length then -1 else if b.length < a.length then 1 else if Op.bytesLess a b = true then -1 else if Op.bytesLess b a = true then 1 else 0
theorem cmp_int (a b : Int) : cmp_Compare_int.f a b = some (if a < b then -1 else if a > b then 1 else 0) := by
  unfold cmp_Compare_int.f cmp_isNaN_int.f
  rw [Option.bind_some, Option.bind_some, if_neg (by simp), if_neg (by simp)]
  repeat' split
  all_goals rfl
theorem cmp_str (a b : List UInt8) : cmp_Compare_string.f (ts a) (ts b) = some (if Op.bytesLess a b = true then -1 else if Op.bytesLess b a = true then 1 else 0) := by
  unfold cmp_Compare_string.f cmp_isNaN_string.f
  rw [Option.bind_some, Option.bind_some, if_neg (by simp), if_neg (by simp), ts_toList, ts_toList]
  repeat' split
  all_goals rfl
theorem or_two (a b : Int) (k : Nat) (hk : 4 ≤ k) : cmp_Or_int.f k [a, b] = some (if a = 0 then b else a) := by
  obtain ⟨k, rfl⟩ : ∃ j, k = j + 1 + 1 + 1 := ⟨k - 3, by omega⟩
  unfold cmp_Or_int.f
  have r0 : rd [a, b] 0 = a := rfl
  have r1 : rd [a, b] 1 = b := rfl
  have w0 : wrap64 ((0 : Int) + 1) = 1 := by unfold wrap64; omega
  have w1 : wrap64 ((1 : Int) + 1) = 2 := by unfold wrap64; omega
  have l2 : (([a, b] : List Int).length : Int) = 2 := rfl
  rw [l2, cmp_Or_int.l0, if_pos (by decide), if_pos (by decide), l2, if_pos (by decide), r0, w0]
  by_cases h : a = 0
  · rw [if_pos h, if_pos h, cmp_Or_int.l0, if_pos (by decide), if_pos (by decide), l2, if_pos (by decide), r1, w1]
    by_cases g : b = 0
    · rw [if_pos g, cmp_Or_int.l0, if_neg (by decide), g]
    · rw [if_neg g]
  · rw [if_neg h, if_neg h]
theorem compare_told (x y a b : List UInt8) (hx : splitL x = [(10, a)]) (hy : splitL y = [(10, b)]) (lx : x.length ≤ 1000) (ly : y.length ≤ 1000) (la : a.length ≤ 1000) (lb : b.length ≤ 1000) (k : Nat) (hk : 4000 ≤ k) : order_Compare.f k (ts x) (ts y) = some (cmpL a b) := by
  obtain ⟨k, rfl⟩ : ∃ j, k = j + 1 + 1 := ⟨k - 2, by omega⟩
  unfold order_Compare.f
  rw [split_told x (by omega) _ (by omega), Option.bind_some, split_told y (by omega) _ (by omega), Option.bind_some, hx, hy]
  unfold order_Words.f
  have at0 : ∀ d : List UInt8, order_at.f ([((10, d) : Wl)].map w38) 0 = some (10, ts d) := fun d => rfl
  have w1 : wrap64 ((0 : Int) + 1) = 1 := by unfold wrap64; omega
  have sz : ∀ d : List UInt8, ((ts d).size : Int) = (d.length : Int) := fun d => by rw [ts_size]
  have word : order_word.f (k + 1) 10 (ts a) 10 (ts b) = some (cmpL a b) := by
    unfold order_word.f
    rw [cmp_int, if_neg (by decide), if_neg (by decide), Option.bind_some, if_pos rfl, if_neg (by decide), if_neg (by decide), order_word.j0, if_pos (by decide), sz, sz, cmp_int, Option.bind_some, cmp_str, Option.bind_some, or_two _ _ _ (by omega), Option.bind_some]
    unfold cmpL
    by_cases h1 : a.length < b.length
    · rw [if_pos (show (a.length : Int) < (b.length : Int) by omega), if_pos h1, if_neg (by decide)]
    · rw [if_neg (show ¬ (a.length : Int) < (b.length : Int) by omega), if_neg h1]
      by_cases h2 : b.length < a.length
      · rw [if_pos (show (a.length : Int) > (b.length : Int) by omega), if_pos h2, if_neg (by decide)]
      · rw [if_neg (show ¬ (a.length : Int) > (b.length : Int) by omega), if_neg h2, if_pos rfl]
  rw [order_Words.l0, at0, Option.bind_some, at0, Option.bind_some]
  dsimp only
  rw [word, Option.bind_some, w1]
  by_cases z : cmpL a b = 0
  · rw [if_pos z, if_neg (show ¬ (1 : Int) < mx ((([((10, a) : Wl)].map w38).length : Nat) : Int) ((([((10, b) : Wl)].map w38).length : Nat) : Int) by show ¬ (1 : Int) < mx 1 1; decide), Option.bind_some]
  · rw [if_neg z, Option.bind_some]
def dig (n : Nat) : List UInt8 := match newelhelp_Digits.f 4 (n : Int) with
  | some s => s.data.toList
  | none => []
theorem dig_all : (List.range 202).all (fun n => n == 0 || (newelhelp_Digits.f 4 (n : Int)).isSome && numD (dig n) && decide ((dig n).length ≤ 4)) = true := by kernel_rfl
theorem dig_told (n : Nat) (h0 : 1 ≤ n) (h : n < 202) : (∀ k, 4 ≤ k → newelhelp_Digits.f k (n : Int) = some (ts (dig n))) ∧ numD (dig n) = true ∧ (dig n).length ≤ 4 := by
  have := List.all_eq_true.1 dig_all n (by simp; omega)
  have hn : (n == 0) = false := by simp; omega
  rw [hn, Bool.false_or, Bool.and_eq_true, Bool.and_eq_true, decide_eq_true_iff] at this
  refine ⟨fun k hk => ?_, this.1.2, this.2⟩
  obtain ⟨s, hs⟩ := Option.isSome_iff_exists.1 this.1.1
  have e : dig n = s.data.toList := by unfold dig; rw [hs]
  rw [e, ts_data]
  exact digits_mono _ _ hs k hk
def Tot {α : Type} (f : Nat → Option α) (P : α → Prop) : Prop := ∃ k r, P r ∧ ∀ j, k ≤ j → f j = some r
theorem tot_lift {α : Type} {f : Nat → Option α} {P : α → Prop} (m : ∀ k, LeO (f k) (f (k + 1))) {k : Nat} {r : α} (h : f k = some r) (p : P r) : Tot f P := by
  refine ⟨k, r, p, fun j hj => ?_⟩
  obtain ⟨i, rfl⟩ := Nat.exists_eq_add_of_le hj
  clear hj
  induction i with
  | zero => exact h
  | succ i ih => exact m _ _ ih
theorem tot_get {α : Type} {f : Nat → Option α} {P : α → Prop} (h : Tot f P) : ∃ k r, P r ∧ ∀ j, k ≤ j → f j = some r := h
section
variable {α β : Type}
theorem tot_some {P : α → Prop} {r : α} (h : P r) : Tot (fun _ => some r) P := ⟨0, r, h, fun _ _ => rfl⟩
theorem tot_ge {f : Nat → Option α} {r : α} (n : Nat) (h : ∀ k, n ≤ k → f k = some r) : Tot f (fun x => x = r) := ⟨n, r, rfl, h⟩
theorem tot_imp {f : Nat → Option α} {P Q : α → Prop} (h : Tot f P) (i : ∀ r, P r → Q r) : Tot f Q := by
  obtain ⟨k, r, p, e⟩ := h
  exact ⟨k, r, i r p, e⟩
theorem tot_bind {g : Nat → Option α} {F : Nat → α → Option β} {Q : α → Prop} {P : β → Prop} (h : Tot g Q) (hF : ∀ r, Q r → Tot (fun k => F k r) P) : Tot (fun k => (g k).bind (F k)) P := by
  obtain ⟨k1, r, q, h1⟩ := h
  obtain ⟨k2, s, p, h2⟩ := hF r q
  exact ⟨k1 + k2, s, p, fun j hj => by show (g j).bind (F j) = _; rw [h1 j (by omega), Option.bind_some]; exact h2 j (by omega)⟩
theorem tot_if {c : Prop} [Decidable c] {f g : Nat → Option α} {P : α → Prop} (h1 : c → Tot f P) (h2 : ¬ c → Tot g P) : Tot (fun k => if c then f k else g k) P := by
  by_cases h : c
  · obtain ⟨k, r, p, e⟩ := h1 h; exact ⟨k, r, p, fun j hj => (if_pos h).trans (e j hj)⟩
  · obtain ⟨k, r, p, e⟩ := h2 h; exact ⟨k, r, p, fun j hj => (if_neg h).trans (e j hj)⟩
theorem tot_guard {c : Prop} [Decidable c] {f g : Nat → Option α} {P : α → Prop} (h : c) (h1 : Tot f P) : Tot (fun k => if c then f k else g k) P := tot_if (fun _ => h1) (fun n => absurd h n)
theorem tot_succ {f b : Nat → Option α} {P : α → Prop} (h : Tot b P) (e : ∀ k, f (k + 1) = b k) : Tot f P := by
  obtain ⟨k, r, p, h⟩ := h
  exact ⟨k + 1, r, p, fun j hj => by obtain ⟨i, rfl⟩ : ∃ i, j = i + 1 := ⟨j - 1, by omega⟩; rw [e]; exact h i (by omega)⟩
end
def Short (l : List S58) : Prop := ∀ s ∈ l, s.f0.size ≤ 1000 ∧ s.f1.size ≤ 1000
end Go.Proofs.YtgdjfcmmpjcaaaaDoor.Pure
namespace Go.Proofs.YtgdjfcmmpjcaaaaDoor.Pure
open Go Go.Proofs.YtgdjfcmmpjcaaaaDoorW.Px
set_option linter.unusedSimpArgs false
set_option linter.unusedVariables false
structure Ord3 {α : Type} (c : α → α → Int) : Prop where
  rng : ∀ a b, c a b = -1 ∨ c a b = 0 ∨ c a b = 1
  anti : ∀ a b, c b a = - c a b
  trans : ∀ a b d, c a b ≤ 0 → c b d ≤ 0 → c a d ≤ 0
section
variable {α β : Type}
theorem Ord3.self {c : α → α → Int} (h : Ord3 c) (a : α) : c a a = 0 := by have := h.anti a a; omega
theorem Ord3.eql {c : α → α → Int} (h : Ord3 c) {a b : α} (e : c a b = 0) (d : α) : c a d = c b d := by
  have h1 := h.trans b a d
  have h2 := h.trans a b d
  have h3 := h.trans d a b
  have h4 := h.trans d b a
  have e1 := h.anti a b
  have e2 := h.anti a d
  have e3 := h.anti b d
  rcases h.rng a d with r | r | r <;> rcases h.rng b d with q | q | q <;> omega
theorem Ord3.lex {c1 c2 : α → α → Int} (h1 : Ord3 c1) (h2 : Ord3 c2) : Ord3 (fun a b => if c1 a b = 0 then c2 a b else c1 a b) where
  rng a b := by
    show (if c1 a b = 0 then c2 a b else c1 a b) = -1 ∨ (if c1 a b = 0 then c2 a b else c1 a b) = 0 ∨ (if c1 a b = 0 then c2 a b else c1 a b) = 1
    split
    · exact h2.rng a b
    · exact h1.rng a b
  anti a b := by
    show (if c1 b a = 0 then c2 b a else c1 b a) = - (if c1 a b = 0 then c2 a b else c1 a b)
    have e1 := h1.anti a b
    have e2 := h2.anti a b
    by_cases z : c1 a b = 0
    · rw [if_pos z, if_pos (by omega)]; exact e2
    · rw [if_neg z, if_neg (by omega)]; exact e1
  trans a b d := by
    show (if c1 a b = 0 then c2 a b else c1 a b) ≤ 0 → (if c1 b d = 0 then c2 b d else c1 b d) ≤ 0 → (if c1 a d = 0 then c2 a d else c1 a d) ≤ 0
    intro p q
    by_cases z : c1 a b = 0
    · have e := h1.eql z d
      rw [if_pos z] at p
      by_cases y : c1 b d = 0
      · rw [if_pos y] at q
        rw [if_pos (by omega)]
        exact h2.trans a b d p q
      · rw [if_neg y] at q
        rw [if_neg (by omega)]
        omega
    · rw [if_neg z] at p
      have t := h1.trans a b d p
      have t2 := h1.trans d a b
      have t3 := h1.trans b d a
      have a1 := h1.anti a b
      have a2 := h1.anti a d
      have a3 := h1.anti b d
      have k : c1 b d ≤ 0 := by
        by_cases y : c1 b d = 0
        · omega
        · rw [if_neg y] at q; exact q
      have k2 := t k
      rw [if_neg (by omega)]
      exact k2
theorem Ord3.comap {c : β → β → Int} (h : Ord3 c) (f : α → β) : Ord3 (fun a b => c (f a) (f b)) where
  rng a b := h.rng (f a) (f b)
  anti a b := h.anti (f a) (f b)
  trans a b d := h.trans (f a) (f b) (f d)
theorem Ord3.zero : Ord3 (fun (_ _ : α) => (0 : Int)) where
  rng _ _ := Or.inr (Or.inl rfl)
  anti _ _ := rfl
  trans _ _ _ _ _ := Int.le_refl _
end
def cmpI (a b : Int) : Int := if a < b then -1 else if a > b then 1 else 0
theorem ord_int : Ord3 cmpI where
  rng a b := by unfold cmpI; split; · exact Or.inl rfl
                · split; · exact Or.inr (Or.inr rfl)
                  · exact Or.inr (Or.inl rfl)
  anti a b := by unfold cmpI; repeat' split
                 all_goals omega
  trans a b d := by unfold cmpI; intro p q; repeat' split
                    all_goals (repeat' split at p)
                    all_goals (repeat' split at q)
                    all_goals omega
theorem less_irr : ∀ a : List UInt8, Op.bytesLess a a = false
  | [] => rfl
  | a :: x => by
    have ih := less_irr x
    have h : decide (a < a) = false := decide_eq_false (fun g => by have := UInt8.lt_iff_toNat_lt.1 g; omega)
    simp only [Op.bytesLess, h, ih, Bool.and_false, Bool.or_false]
theorem less_trans : ∀ a b c : List UInt8, Op.bytesLess a b = true → Op.bytesLess b c = true → Op.bytesLess a c = true
  | [], [], _, h, _ => by simp [Op.bytesLess] at h
  | _ :: _, [], _, h, _ => by simp [Op.bytesLess] at h
  | _, _ :: _, [], _, h => by simp [Op.bytesLess] at h
  | [], _ :: _, _ :: _, _, _ => by simp [Op.bytesLess]
  | a :: x, b :: y, c :: z, h1, h2 => by
    have ih := less_trans x y z
    simp only [Op.bytesLess, Bool.or_eq_true, Bool.and_eq_true, decide_eq_true_eq, beq_iff_eq, UInt8.lt_iff_toNat_lt] at h1 h2 ⊢
    rcases h1 with h1 | ⟨rfl, h1⟩ <;> rcases h2 with h2 | ⟨rfl, h2⟩
    · exact Or.inl (by omega)
    · exact Or.inl h1
    · exact Or.inl h2
    · exact Or.inr ⟨rfl, ih h1 h2⟩
theorem less_tot : ∀ a b : List UInt8, Op.bytesLess a b = false → Op.bytesLess b a = false → a = b
  | [], [], _, _ => rfl
  | [], _ :: _, h, _ => by simp [Op.bytesLess] at h
  | _ :: _, [], _, h => by simp [Op.bytesLess] at h
  | a :: x, b :: y, h1, h2 => by
    have ih := less_tot x y
    simp only [Op.bytesLess, Bool.or_eq_false_iff, decide_eq_false_iff_not, UInt8.lt_iff_toNat_lt] at h1 h2
    obtain rfl : a = b := UInt8.toNat_inj.1 (by omega)
    simp only [beq_self_eq_true, Bool.true_and] at h1 h2
    rw [ih h1.2 h2.2]
theorem less_asym (a b : List UInt8) (h : Op.bytesLess a b = true) : Op.bytesLess b a = false := by
  rw [Bool.eq_false_iff]
  intro g
  have := less_trans a b a h g
  rw [less_irr] at this
  cases this
def cmpB (a b : List UInt8) : Int := if Op.bytesLess a b = true then -1 else if Op.bytesLess b a = true then 1 else 0
theorem cmpB_le (a b : List UInt8) : cmpB a b ≤ 0 ↔ Op.bytesLess b a = false := by
  unfold cmpB
  by_cases p : Op.bytesLess a b = true
  · rw [if_pos p]
    exact ⟨fun _ => less_asym a b p, fun _ => by omega⟩
  · rw [if_neg p]
    by_cases q : Op.bytesLess b a = true
    · rw [if_pos q, q]; simp
    · rw [if_neg q, Bool.eq_false_iff.2 q]; simp
theorem ord_bytes : Ord3 cmpB where
  rng a b := by unfold cmpB; split; · exact Or.inl rfl
                · split; · exact Or.inr (Or.inr rfl)
                  · exact Or.inr (Or.inl rfl)
  anti a b := by
    unfold cmpB
    by_cases p : Op.bytesLess a b = true
    · rw [if_pos p, less_asym a b p, if_pos p]; simp
    · rw [if_neg p]
      by_cases q : Op.bytesLess b a = true
      · simp [q, p]
      · simp [q, p]
  trans a b d := by
    rw [cmpB_le, cmpB_le, cmpB_le]
    intro p q
    rw [Bool.eq_false_iff]
    intro g
    by_cases h : Op.bytesLess a b = true
    · rw [less_trans d a b g h] at q; cases q
    · obtain rfl := less_tot a b (Bool.eq_false_iff.2 h) p
      rw [g] at q; cases q
def cmpW (a b : Wl) : Int :=
  if a.1 < b.1 then -1 else if a.1 > b.1 then 1
  else if a.1 = 8 then cmpB a.2 b.2
  else if a.1 = 9 ∨ a.1 = 10 then (if cmpI a.2.length b.2.length = 0 then cmpB a.2 b.2 else cmpI a.2.length b.2.length)
  else 0
def keyN (a : Wl) : Int := if a.1 = 9 ∨ a.1 = 10 then a.2.length else 0
def keyB (a : Wl) : List UInt8 := if a.1 = 8 ∨ a.1 = 9 ∨ a.1 = 10 then a.2 else []
theorem cmpB_nil : cmpB [] [] = 0 := by decide
theorem cmpW_key (a b : Wl) : cmpW a b = if cmpI a.1 b.1 = 0 then (if cmpI (keyN a) (keyN b) = 0 then cmpB (keyB a) (keyB b) else cmpI (keyN a) (keyN b)) else cmpI a.1 b.1 := by
  unfold cmpW
  have ci : cmpI a.1 b.1 = if a.1 < b.1 then -1 else if a.1 > b.1 then 1 else 0 := rfl
  by_cases p : a.1 < b.1
  · rw [if_pos p] at ci
    rw [if_pos p, ci]; rfl
  · by_cases q : a.1 > b.1
    · rw [if_neg p, if_pos q] at ci
      rw [if_neg p, if_pos q, ci]; rfl
    · have e : a.1 = b.1 := by omega
      rw [if_neg p, if_neg q] at ci
      rw [if_neg p, if_neg q, ci, if_pos rfl]
      unfold keyN keyB
      rw [← e]
      have z0 : cmpI 0 0 = 0 := rfl
      by_cases h8 : a.1 = 8
      · have n9 : ¬ (a.1 = 9 ∨ a.1 = 10) := by omega
        have k : a.1 = 8 ∨ a.1 = 9 ∨ a.1 = 10 := Or.inl h8
        simp only [if_pos h8, if_neg n9, if_pos k, if_pos z0]
      · by_cases h9 : a.1 = 9 ∨ a.1 = 10
        · have k : a.1 = 8 ∨ a.1 = 9 ∨ a.1 = 10 := Or.inr h9
          simp only [if_neg h8, if_pos h9, if_pos k]
        · have k : ¬ (a.1 = 8 ∨ a.1 = 9 ∨ a.1 = 10) := by omega
          simp only [if_neg h8, if_neg h9, if_neg k, if_pos z0, cmpB_nil]
theorem ord_word : Ord3 cmpW := by
  have h := (ord_int.comap (fun a : Wl => a.1)).lex ((ord_int.comap keyN).lex (ord_bytes.comap keyB))
  have e : cmpW = fun a b => if cmpI a.1 b.1 = 0 then (if cmpI (keyN a) (keyN b) = 0 then cmpB (keyB a) (keyB b) else cmpI (keyN a) (keyN b)) else cmpI a.1 b.1 := by
    funext a b; exact cmpW_key a b
  rw [e]
  exact h
def hdW : List Wl → Wl
  | [] => (6, [])
  | w :: _ => w
def cmpN : Nat → List Wl → List Wl → Int
  | 0, _, _ => 0
  | n + 1, x, y => if cmpW (hdW x) (hdW y) = 0 then cmpN n x.tail y.tail else cmpW (hdW x) (hdW y)
theorem ord_words : ∀ n, Ord3 (cmpN n)
  | 0 => Ord3.zero
  | n + 1 => (ord_word.comap hdW).lex ((ord_words n).comap List.tail)
theorem cmpN_succ (n : Nat) (x y : List Wl) : cmpN (n + 1) x y = if cmpW (hdW x) (hdW y) = 0 then cmpN n x.tail y.tail else cmpW (hdW x) (hdW y) := rfl
theorem cmpN_nil : ∀ n, cmpN n [] [] = 0
  | 0 => rfl
  | n + 1 => by
    have e : cmpW (hdW []) (hdW []) = 0 := ord_word.self _
    rw [cmpN, if_pos e]
    exact cmpN_nil n
def mostN : Nat := 100100
def cmpV (a b : List UInt8) : Int := cmpN mostN (splitL a) (splitL b)
theorem ord_vers : Ord3 cmpV := (ord_words mostN).comap splitL
def cmpA (a b : List UInt8) : Int := if cmpV a b = 0 then cmpB a b else cmpV a b
theorem ord_whole : Ord3 cmpA := ord_vers.lex ord_bytes
end Go.Proofs.YtgdjfcmmpjcaaaaDoor.Pure
namespace Go.Proofs.YtgdjfcmmpjcaaaaDoor.Pure
open Go Go.RowKit Go.Proofs.YtgdjfcmmpjcaaaaDoor.Q Go.Proofs.YtgdjfcmmpjcaaaaDoorW.PrintWords Go.Proofs.YtgdjfcmmpjcaaaaDoorW.PrintLast Go.Proofs.YtgdjfcmmpjcaaaaDoorW.Own Go.Proofs.YtgdjfcmmpjcaaaaDoorW.PrintMore Go.Proofs.YtgdjfcmmpjcaaaaDoorW.Px
set_option linter.unusedSimpArgs false
set_option linter.unusedVariables false
theorem cmp_told3 (a b : List UInt8) : cmp_Compare_string.f (ts a) (ts b) = some (cmpB a b) := cmp_str a b
theorem word_cmp (x y : Wl) (k : Nat) (hk : 10 ≤ k) : order_word.f k x.1 (ts x.2) y.1 (ts y.2) = some (cmpW x y) := by
  have len : ∀ k, 9 ≤ k → order_word.j0 (k + 1) true x.1 (ts x.2) y.1 (ts y.2) = some (if cmpI x.2.length y.2.length = 0 then cmpB x.2 y.2 else cmpI x.2.length y.2.length) := by
    intro k hk
    rw [order_word.j0, if_pos rfl, cmp_int, Option.bind_some, cmp_told3, Option.bind_some, or_two _ _ _ (by omega), Option.bind_some, ts_size, ts_size]
    rfl
  unfold order_word.f cmpW
  rw [cmp_int, Option.bind_some]
  by_cases p : x.1 < y.1
  · rw [if_pos p, if_pos p, if_neg (by decide)]
  · by_cases q : x.1 > y.1
    · rw [if_neg p, if_pos q, if_neg p, if_pos q, if_neg (by decide)]
    · rw [if_neg p, if_neg q, if_neg p, if_neg q, if_pos rfl]
      by_cases e8 : x.1 = 8
      · rw [if_pos e8, if_pos e8, cmp_told3, Option.bind_some]
      · rw [if_neg e8, if_neg e8]
        obtain ⟨k, rfl⟩ : ∃ i, k = i + 1 := ⟨k - 1, by omega⟩
        by_cases e9 : x.1 = 9
        · rw [if_pos e9, show (x.1 == 9) = true from beq_iff_eq.2 e9, len k (by omega), if_pos (Or.inl e9)]
        · rw [if_neg e9]
          by_cases e10 : x.1 = 10
          · rw [show (x.1 == 10) = true from beq_iff_eq.2 e10, len k (by omega), if_pos (Or.inr e10)]
          · rw [show (x.1 == 10) = false from beq_eq_false_iff_ne.2 e10, order_word.j0, if_neg (by decide), if_neg (by rintro (h | h) <;> omega)]
theorem at_cmp (l : List Wl) (i : Nat) : order_at.f (l.map w38) (i : Int) = some (pr (hdW (l.drop i))) := by
  unfold order_at.f
  rw [List.length_map]
  by_cases h : (i : Int) < (l.length : Int)
  · have hi : i < l.length := by omega
    rw [if_pos h, if_pos (by omega), List.drop_eq_getElem_cons hi]
    unfold rd_T38
    rw [Int.toNat_natCast, List.getD_eq_getElem?_getD, List.getElem?_map, List.getElem?_eq_getElem hi]
    rfl
  · rw [if_neg h, List.drop_eq_nil_of_le (by omega)]
    rfl
theorem tail_drop (l : List Wl) (i : Nat) : (l.drop i).tail = l.drop (i + 1) := by rw [List.tail_drop]
theorem words_cmp (x y : List Wl) (hx : x.length ≤ 100100) (hy : y.length ≤ 100100) : ∀ (d i : Nat), i ≤ 100100 → x.length ≤ i + d → y.length ≤ i + d →
    Tot (fun k => order_Words.l0 k (x.map w38) (y.map w38) (i : Int)) (fun r => r = cmpN (d + 1) (x.drop i) (y.drop i)) := by
  have hm : ∀ i : Nat, (i : Int) < mx (x.length : Int) (y.length : Int) ↔ i < x.length ∨ i < y.length := by
    intro i
    unfold mx
    split <;> omega
  intro d
  induction d with
  | zero =>
    intro i hi h1 h2
    refine tot_succ ?_ (fun k => by rw [order_Words.l0])
    rw [at_cmp, at_cmp]
    simp only [Option.bind_some, pr]
    refine tot_bind (tot_ge 10 (fun k hk => word_cmp (hdW (x.drop i)) (hdW (y.drop i)) k hk)) (fun r hr => ?_)
    subst hr
    have nb : ¬ wrap64 ((i : Int) + 1) < mx ((x.map w38).length : Int) ((y.map w38).length : Int) := by
      rw [List.length_map, List.length_map, next_of i (by omega), hm]; omega
    refine tot_if (fun z => tot_if (fun h => absurd h nb) (fun _ => tot_some ?_)) (fun z => tot_some ?_)
    · rw [cmpN_succ, if_pos z, z]; rfl
    · rw [cmpN_succ, if_neg z]
  | succ d ih =>
    intro i hi h1 h2
    refine tot_succ ?_ (fun k => by rw [order_Words.l0])
    rw [at_cmp, at_cmp]
    simp only [Option.bind_some, pr]
    refine tot_bind (tot_ge 10 (fun k hk => word_cmp (hdW (x.drop i)) (hdW (y.drop i)) k hk)) (fun r hr => ?_)
    subst hr
    rw [List.length_map, List.length_map, next_of i (by omega)]
    refine tot_if (fun z => tot_if (fun h => ?_) (fun h => tot_some ?_)) (fun z => tot_some ?_)
    · have hb := (hm _).1 h
      refine tot_imp (ih (i + 1) (by omega) (by omega) (by omega)) (fun r hr => ?_)
      rw [hr, cmpN_succ (d + 1), if_pos z, tail_drop, tail_drop]
    · rw [hm] at h
      rw [cmpN_succ (d + 1), if_pos z, tail_drop, tail_drop, List.drop_eq_nil_of_le (show x.length ≤ i + 1 by omega), List.drop_eq_nil_of_le (show y.length ≤ i + 1 by omega), cmpN_nil, z]
    · rw [cmpN_succ (d + 1), if_neg z]
theorem compare_cmp (a b : List UInt8) (ha : a.length ≤ 100000) (hb : b.length ≤ 100000) : Tot (fun k => order_Compare.f k (ts a) (ts b)) (fun r => r = cmpV a b) := by
  have sa := splitL_len a
  have sb := splitL_len b
  unfold order_Compare.f order_Words.f
  refine tot_bind (tot_ge 400000 (fun k hk => split_told a ha k (by omega))) (fun x hx => ?_)
  subst hx
  refine tot_bind (tot_ge 400000 (fun k hk => split_told b hb k (by omega))) (fun y hy => ?_)
  subst hy
  refine tot_bind (words_cmp (splitL a) (splitL b) (by omega) (by omega) 100099 0 (by omega) (by omega) (by omega)) (fun r hr => tot_some ?_)
  rw [hr, List.drop_zero, List.drop_zero]
  rfl
abbrev lo8 (s : S58) : List UInt8 := s.f0.data.toList
abbrev hi8 (s : S58) : List UInt8 := s.f1.data.toList
def boundB (v : List UInt8) (i : Bool) : Bool := if rightB v = true then true else if v = [] then !i else false
def mayB (lo hi : List UInt8) (il ih : Bool) : Bool :=
  if boundB lo il = true then (if boundB hi ih = true then (if lo = [] then true else if hi = [] then true else if cmpV lo hi < 0 then true else if cmpV lo hi = 0 then (if il = true then ih else false) else false) else false) else false
def mayS (s : S58) : Bool := mayB (lo8 s) (hi8 s) s.f2 s.f3
def behindB (ah bl : List UInt8) (aih bil : Bool) : Bool := if ah = [] then false else if bl = [] then false else if cmpV ah bl < 0 then true else if cmpV ah bl = 0 then (if aih = true then !bil else true) else false
def lowB2 (lo : List UInt8) (il : Bool) (v : List UInt8) : Bool := if lo = [] then true else if cmpV v lo < 0 then false else if cmpV v lo = 0 then il else true
def highB (hi : List UInt8) (ih : Bool) (v : List UInt8) : Bool := if hi = [] then true else if cmpV v hi > 0 then false else if cmpV v hi = 0 then ih else true
def holdsS (s : S58) (v : List UInt8) : Bool := lowB2 (lo8 s) s.f2 v && highB (hi8 s) s.f3 v
def rangeB (l : List S58) (v : List UInt8) : Bool := l.any fun s => holdsS s v
theorem bound_cmp (v : List UInt8) (i : Bool) : Tot (fun k => span_bound.f k (ts v) i) (fun r => r = boundB v i) := by
  unfold span_bound.f boundB
  refine tot_bind (tot_ge 101 (fun k hk => right_told (ts v) k hk)) (fun r hr => ?_)
  subst hr
  rw [ts_list, ts_toList]
  refine tot_if (fun h => tot_some (by rw [if_pos h])) (fun h => tot_if (fun e => tot_some (by rw [if_neg h, if_pos e])) (fun e => tot_some (by rw [if_neg h, if_neg e])))
theorem may_cmp (lo hi : List UInt8) (il ih : Bool) (hl : lo.length ≤ 100000) (hh : hi.length ≤ 100000) : Tot (fun k => span_may.f k (ts lo) (ts hi) il ih) (fun r => r = mayB lo hi il ih) := by
  have j : ∀ b : Bool, Tot (fun k => span_may.j0 k b (ts lo) (ts hi) il ih) (fun r => r = if b = true then false else if lo = [] then true else if hi = [] then true else if cmpV lo hi < 0 then true else if cmpV lo hi = 0 then (if il = true then ih else false) else false) := by
    intro b
    refine tot_succ ?_ (fun k => by rw [span_may.j0])
    rw [ts_toList, ts_toList]
    refine tot_if (fun h => tot_some (by rw [if_pos h])) (fun h => tot_if (fun e => tot_some (by rw [if_neg h, if_pos e])) (fun e => tot_if (fun g => tot_some (by rw [if_neg h, if_neg e, if_pos g])) (fun g => tot_bind (compare_cmp lo hi hl hh) (fun c hc => ?_))))
    subst hc
    rw [if_neg h, if_neg e, if_neg g]
    refine tot_if (fun a => tot_some (by rw [if_pos a])) (fun a => tot_if (fun z => tot_if (fun y => tot_some (by rw [if_neg a, if_pos z, if_pos y])) (fun y => tot_some (by rw [if_neg a, if_pos z, if_neg y]))) (fun z => tot_some (by rw [if_neg a, if_neg z])))
  unfold span_may.f mayB
  refine tot_bind (bound_cmp lo il) (fun r hr => ?_)
  subst hr
  refine tot_if (fun h => tot_bind (bound_cmp hi ih) (fun r hr => ?_)) (fun h => tot_imp (j true) (fun r hr => by rw [hr, if_pos rfl, if_neg h]))
  subst hr
  refine tot_imp (j _) (fun r hr => ?_)
  rw [hr, if_pos h]
  by_cases y : boundB hi ih = true
  · rw [if_pos y, y, if_neg (by decide)]
  · rw [if_neg y, Bool.eq_false_iff.2 y, if_pos (by decide)]
theorem behind_cmp (a ah bl b : List UInt8) (p aih bil s : Bool) (hb : ah.length ≤ 100000) (hc : bl.length ≤ 100000) : Tot (fun k => span_behind.f k (ts a) (ts ah) p aih (ts bl) (ts b) bil s) (fun r => r = behindB ah bl aih bil) := by
  unfold span_behind.f behindB
  rw [ts_toList, ts_toList]
  refine tot_if (fun e => tot_some (by rw [if_pos e])) (fun e => tot_if (fun g => tot_some (by rw [if_neg e, if_pos g])) (fun g => tot_bind (compare_cmp ah bl hb hc) (fun c hc => ?_)))
  subst hc
  rw [if_neg e, if_neg g]
  refine tot_if (fun a => tot_some (by rw [if_pos a])) (fun a => tot_if (fun z => tot_if (fun y => tot_some (by rw [if_neg a, if_pos z, if_pos y])) (fun y => tot_some (by rw [if_neg a, if_pos z, if_neg y]; rfl))) (fun z => tot_some (by rw [if_neg a, if_neg z])))
theorem holds_cmp (s : S58) (v : List UInt8) (hl : (lo8 s).length ≤ 100000) (hh : (hi8 s).length ≤ 100000) (hv : v.length ≤ 100000) : Tot (fun k => span_holds.f k s.f0 s.f1 s.f2 s.f3 (ts v)) (fun r => r = holdsS s v) := by
  obtain ⟨f0, f1, il, ih⟩ := s
  unfold holdsS lowB2 highB
  unfold lo8 at hl ⊢
  unfold hi8 at hh ⊢
  dsimp only at hl hh ⊢
  obtain ⟨lo, rfl⟩ : ∃ l, f0 = ts l := ⟨_, (ts_data f0).symm⟩
  obtain ⟨hi, rfl⟩ : ∃ l, f1 = ts l := ⟨_, (ts_data f1).symm⟩
  rw [ts_list] at hl hh ⊢
  rw [ts_list]
  have j : Tot (fun k => span_holds.j0 k (ts v) (ts lo) (ts hi) il ih) (fun r => r = if hi = [] then true else if cmpV v hi > 0 then false else if cmpV v hi = 0 then ih else true) := by
    refine tot_succ ?_ (fun k => by rw [span_holds.j0])
    rw [ts_toList]
    refine tot_if (fun e => tot_some (by rw [if_pos e])) (fun e => tot_bind (compare_cmp v hi hv hh) (fun c hc => ?_))
    subst hc
    rw [if_neg e]
    refine tot_if (fun a => tot_some (by rw [if_pos a])) (fun a => tot_if (fun z => tot_if (fun y => tot_some (by rw [if_neg a, if_pos z, y])) (fun y => tot_some (by rw [if_neg a, if_pos z, Bool.eq_false_iff.2 y]))) (fun z => tot_some (by rw [if_neg a, if_neg z])))
  unfold span_holds.f
  rw [ts_toList]
  refine tot_if (fun e => tot_imp j (fun r hr => by rw [hr, if_pos e, Bool.true_and])) (fun e => tot_bind (compare_cmp v lo hv hl) (fun c hc => ?_))
  subst hc
  rw [if_neg e]
  refine tot_if (fun a => tot_some (by rw [if_pos a, Bool.false_and])) (fun a => tot_if (fun z => tot_if (fun y => tot_imp j (fun r hr => by rw [hr, if_neg a, if_pos z, y, Bool.true_and])) (fun y => tot_some (by rw [if_neg a, if_pos z, Bool.eq_false_iff.2 y, Bool.false_and]))) (fun z => tot_imp j (fun r hr => by rw [hr, if_neg a, if_neg z, Bool.true_and])))
def Mid (l : List S58) : Prop := ∀ s ∈ l, s.f0.size ≤ 100000 ∧ s.f1.size ≤ 100000
theorem rd_span (l : List S58) (i : Nat) (h : i < l.length) : rd_T58 l (i : Int) = l[i] := by
  unfold rd_T58
  rw [Int.toNat_natCast, List.getD_eq_getElem?_getD, List.getElem?_eq_getElem h]; rfl
theorem range_cmp (l : List S58) (v : List UInt8) (hm : Mid l) (hn : l.length ≤ 100000) (hv : v.length ≤ 100000) : Tot (fun k => span_Holds.f k l (ts v)) (fun r => r = rangeB l v) := by
  have loop : ∀ (d i : Nat), i + d = l.length → Tot (fun k => span_Holds.l0 k l (ts v) (i : Int)) (fun r => decide (r ≥ 0) = rangeB (l.drop i) v) := by
    intro d
    induction d with
    | zero =>
      intro i h
      refine tot_succ ?_ (fun k => by rw [span_Holds.l0])
      refine tot_if (fun g => by omega) (fun _ => tot_some ?_)
      rw [List.drop_eq_nil_of_le (by omega)]; rfl
    | succ d ihd =>
      intro i h
      have hi : i < l.length := by omega
      have sh := hm l[i] (List.getElem_mem hi)
      rw [ba_size, ba_size] at sh
      refine tot_succ ?_ (fun k => by rw [span_Holds.l0])
      refine tot_if (fun _ => tot_guard (by omega) ?_) (fun g => by omega)
      rw [rd_span l i hi, next_of i (by omega)]
      unfold span_Holds.one
      have e : rangeB (l.drop i) v = (holdsS l[i] v || rangeB (l.drop (i + 1)) v) := by
        rw [List.drop_eq_getElem_cons hi]; rfl
      refine tot_bind (holds_cmp l[i] v sh.1 sh.2 hv) (fun r hr => ?_)
      subst hr
      refine tot_if (fun h => tot_some ?_) (fun h => tot_imp (ihd (i + 1) (by omega)) (fun r hr => ?_))
      · rw [e, h, Bool.true_or, decide_eq_true (by omega)]
      · rw [hr, e, Bool.eq_false_iff.2 h, Bool.false_or]
  unfold span_Holds.f
  refine tot_bind (loop l.length 0 (by omega)) (fun r hr => tot_some ?_)
  rw [hr, List.drop_zero]
theorem ref_parts_loop (v : List UInt8) (hv : v.length ≤ 1000000) : ∀ (d i k : Nat) (r : List Pt × Pt), i + d = v.length → r.1.length ≤ i → r.2.tx.length ≤ i →
    newelref05_parts.l0 (k + d + 1) (ts v) ((allP r).map p98) (i : Int) = some ((allP (runP r (v.drop i))).map p98) := by
  intro d
  induction d with
  | zero =>
    intro i k r h _ _
    rw [newelref05_parts.l0, if_neg (by rw [ts_size]; omega), List.drop_eq_nil_of_le (by omega)]
    rfl
  | succ d ih =>
    intro i k r h h1 h2
    have hi : i < v.length := by omega
    have q0 : (i : Int) < ((ts v).size : Int) := by rw [ts_size]; omega
    have hl := all_len p98 r
    have hx : wrap64 ((((allP r).map p98).length : Int) - 1) = (r.1.length : Int) := by rw [hl]; exact last_of _ (by omega)
    have q1 : (0 : Int) ≤ (r.1.length : Int) := by omega
    have q2 : (r.1.length : Int) < (((allP r).map p98).length : Int) := by rw [hl]; omega
    have q3 : (0 : Int) ≤ (i : Int) := by omega
    have q4 : ((allP r).map p98).length < 5864062014805 := by rw [hl]; omega
    have q5 : (i : Int) ≤ ((i + 1 : Nat) : Int) := by omega
    have q6 : ((i + 1 : Nat) : Int) ≤ ((ts v).size : Int) := by rw [ts_size]; omega
    have hn := next_of i (by omega)
    have hr : rd_T98 ((allP r).map p98) (r.1.length : Int) = p98 r.2 := all_getD p98 r _
    have hb := bt_nat v i hi
    have step : ∀ r', stepP r v[i] = r' → r'.1.length ≤ i + 1 → r'.2.tx.length ≤ i + 1 → newelref05_parts.l0 (k + d + 1) (ts v) ((allP r').map p98) ((i + 1 : Nat) : Int) = some ((allP (runP r (v.drop i))).map p98) := by
      intro r' e a b
      rw [ih (i + 1) k r' (by omega) a b, runP_drop r v i hi, e]
    rw [show k + (d + 1) + 1 = (k + d + 1) + 1 from by omega, newelref05_parts.l0, if_pos q0, hx, if_pos q1, if_pos q2, if_pos q3, hr, hb, hn]
    generalize hc : v[i] = c at *
    by_cases c1 : c = 46
    · rw [if_pos (by rw [c1]; rfl), if_pos q4, all_add p98 r ⟨[], c == 45, false⟩ _ (by rw [c1]; rfl)]
      exact step _ (stepP_sep r c (Or.inl c1)) (by simp; omega) (by simp)
    · rw [if_neg (by rw [show (46 : Int) = ((46 : Nat) : Int) from rfl, beq_toNat c 46 (by omega)]; exact c1)]
      by_cases c2 : c = 45
      · rw [if_pos (by rw [c2]; rfl), if_pos q4, all_add p98 r ⟨[], c == 45, false⟩ _ (by rw [c2]; rfl)]
        exact step _ (stepP_sep r c (Or.inr c2)) (by simp; omega) (by simp)
      · rw [if_neg (by rw [show (45 : Int) = ((45 : Nat) : Int) from rfl, beq_toNat c 45 (by omega)]; exact c2)]
        have nc : ¬ (c = 46 ∨ c = 45) := by rintro (h | h); exact c1 h; exact c2 h
        have e1 : (ts v).extract ((i : Nat) : Int).toNat ((i + 1 : Nat) : Int).toNat = ts [c] := by rw [byte_at v i hi, hc]
        have q7 : (p98 r.2).f0.size + (ts [c]).size ≤ 9223372036854775807 := by show (ts r.2.tx).size + (ts [c]).size ≤ _; rw [ts_size, ts_size]; simp; omega
        have same : likeP r.2.tx c = true → (if (p98 r.2).f0.size + ((ts v).extract ((i : Nat) : Int).toNat ((i + 1 : Nat) : Int).toNat).size ≤ 9223372036854775807 then (newelref05_parts.l0 (k + d + 1) (ts v) (((allP r).map p98).set ((r.1.length : Int)).toNat (⟨(p98 r.2).f0 ++ ((ts v).extract ((i : Nat) : Int).toNat ((i + 1 : Nat) : Int).toNat), (p98 r.2).f1, (p98 r.2).f2⟩ : S98)) ((i + 1 : Nat) : Int)) else none) = some ((allP (runP r (v.drop i))).map p98) := by
          intro lk
          rw [e1, if_pos q7, all_put p98 r ⟨r.2.tx ++ [c], r.2.da, r.2.nu⟩ _ (by unfold p98; rw [ts_append])]
          exact step _ (stepP_like r c nc lk) (by simp; omega) (by simp; omega)
        by_cases z : r.2.tx = []
        · have z' : (p98 r.2).f0.toList = ([] : List UInt8) := by show (ts r.2.tx).toList = []; rw [ts_toList]; exact z
          rw [if_pos z', if_pos q5, if_pos q6]
          exact same (by rw [z]; rfl)
        · have z' : ¬ (p98 r.2).f0.toList = ([] : List UInt8) := by show ¬ (ts r.2.tx).toList = []; rw [ts_toList]; exact z
          have zl : 0 < r.2.tx.length := List.length_pos_iff.2 z
          obtain ⟨n, hn'⟩ : ∃ n, r.2.tx.length = n + 1 := ⟨r.2.tx.length - 1, by omega⟩
          have hs : ((p98 r.2).f0.size : Int) = ((n + 1 : Nat) : Int) := by show ((ts r.2.tx).size : Int) = _; rw [ts_size, hn']
          have ht : bt (p98 r.2).f0 ((n : Nat) : Int) = (((r.2.tx.getLast z).toNat : Nat) : Int) := by
            show bt (ts r.2.tx) _ = _
            rw [bt_nat _ n (by omega), List.getLast_eq_getElem]
            congr 3
            omega
          rw [if_neg z', hs, last_of n (by omega), if_pos (by omega), if_pos (by omega), ht, digit_ref, Option.bind_some, digit_ref, Option.bind_some]
          by_cases e : isD (r.2.tx.getLast z) = isD c
          · rw [if_neg (by rw [e]; simp), if_pos q5, if_pos q6]
            exact same (by rw [like_last _ _ z, e]; simp)
          · rw [if_pos (by simpa using e), Option.bind_some, Option.bind_some]
            have ea : ((allP r).map p98).set ((r.1.length : Int)).toNat (⟨(p98 r.2).f0, (p98 r.2).f1, isD c⟩ : S98) = (allP (r.1, ⟨r.2.tx, r.2.da, isD c⟩)).map p98 := all_put p98 r _ _ rfl
            rw [ea]
            have la := all_len p98 (r.1, ⟨r.2.tx, r.2.da, isD c⟩)
            have q8 : ((allP (r.1, ⟨r.2.tx, r.2.da, isD c⟩)).map p98).length < 5864062014805 := by rw [la]; simp; omega
            rw [if_pos q8, Option.bind_some, all_add p98 (r.1, ⟨r.2.tx, r.2.da, isD c⟩) ⟨[], true, false⟩ (⟨(⟨#[]⟩ : ByteArray), true, false⟩ : S98) rfl]
            generalize hR : ((r.1 ++ [(⟨r.2.tx, r.2.da, isD c⟩ : Pt)], (⟨[], true, false⟩ : Pt)) : List Pt × Pt) = R
            have R1 : R.1 = r.1 ++ [(⟨r.2.tx, r.2.da, isD c⟩ : Pt)] := by rw [← hR]
            have R2 : R.2 = ⟨[], true, false⟩ := by rw [← hR]
            have Rl : R.1.length = r.1.length + 1 := by rw [R1]; simp
            have lR := all_len p98 R
            have hxR : wrap64 ((((allP R).map p98).length : Int) - 1) = (R.1.length : Int) := by rw [lR]; exact last_of _ (by omega)
            have hrR : rd_T98 ((allP R).map p98) (R.1.length : Int) = p98 R.2 := all_getD p98 R _
            rw [hxR, if_pos (by omega), if_pos (by rw [lR]; omega), if_pos q5, if_pos q6, hrR, e1]
            have q9 : (p98 R.2).f0.size + (ts [c]).size ≤ 9223372036854775807 := by rw [R2]; show (ts []).size + (ts [c]).size ≤ _; rw [ts_size, ts_size]; simp
            rw [if_pos q9, all_put p98 R ⟨[c], true, false⟩ _ (by rw [R2]; unfold p98; rw [ts_append]; rfl)]
            exact step (R.1, ⟨[c], true, false⟩) (by rw [stepP_new r c nc (by rw [like_last _ _ z]; simpa using e), R1]) (by simp; omega) (by simp)
theorem ref_parts_told (v : List UInt8) (hv : v.length ≤ 1000000) (k : Nat) (hk : v.length + 1 ≤ k) : newelref05_parts.f k (ts v) = some ((partsL v).map p98) := by
  have := ref_parts_loop v hv v.length 0 (k - v.length - 1) p0 (by omega) (by simp [p0]) (by simp [p0])
  rw [show k - v.length - 1 + v.length + 1 = k from by omega] at this
  exact this
theorem number_loop (da nu : Bool) (o : ByteArray) : ∀ (t : List UInt8) (k : Nat), newelref05_number.l0 (k + t.length + 2) (ts t) o da nu = some (pr (numL t da)) := by
  have e : ∀ (t : List UInt8) (k : Nat), newelref05_number.j1 (k + 1) (ts t) o da nu = if t = [] then some (pr (6, [])) else if da = true then some (pr (9, t)) else some (pr (10, t)) := by
    intro t k
    rw [newelref05_number.j1, ts_toList]; rfl
  intro t
  induction t with
  | nil => intro k; rw [show k + ([] : List UInt8).length + 2 = k + 1 + 1 from rfl, newelref05_number.l0, if_neg (by decide), e, if_pos rfl]; rfl
  | cons c t ih =>
    intro k
    have hb : bt (ts (c :: t)) 0 = (c.toNat : Int) := bt_nat (c :: t) 0 (by simp)
    have hz : ((ts (c :: t)).size : Int) > 0 := by rw [ts_size, List.length_cons]; omega
    rw [show k + (c :: t).length + 2 = (k + t.length + 2) + 1 from by simp; omega, newelref05_number.l0, if_pos hz, if_pos hz, hb]
    by_cases h : c = 48
    · rw [if_pos (by rw [h]; rfl), if_pos (by omega)]
      have : (ts (c :: t)).extract 1 (ts (c :: t)).size = ts t := by
        apply ba_ext
        rw [ba_extract, ts_list, ts_list, ts_size, List.take_length]; rfl
      rw [this, ih]
      have hd : (c :: t).dropWhile (· == 48) = t.dropWhile (· == 48) := by rw [List.dropWhile_cons, if_pos (by rw [h]; rfl)]
      unfold numL
      rw [hd]
    · rw [if_neg (by rw [show (48 : Int) = ((48 : Nat) : Int) from rfl, beq_toNat c 48 (by omega)]; exact h), e, if_neg (List.cons_ne_nil c t)]
      unfold numL
      have hd : (c :: t).dropWhile (· == 48) = c :: t := by rw [List.dropWhile_cons, if_neg (by simpa using h)]
      rw [hd, if_neg (List.cons_ne_nil c t)]
      by_cases d : da = true
      · rw [if_pos d, if_pos d]
      · rw [if_neg d, if_neg d]
theorem ref_word_told (p : Pt) (k : Nat) (hk : p.tx.length + 10 ≤ k) : newelref05_word.f k (p98 p).f0 (p98 p).f1 (p98 p).f2 = some (pr (wordL p)) := by
  obtain ⟨t, da, nu⟩ := p
  obtain ⟨j, rfl⟩ : ∃ j, k = j + 1 + 1 + 1 + 1 := ⟨k - 4, by omega⟩
  show newelref05_word.f (j + 1 + 1 + 1 + 1) (ts t) da nu = _
  have nums : newelref05_word.j0 (j + 1 + 1 + 1 + 1) true (ts t) da nu = some (pr (numL t da)) := by
    have := number_loop da nu (ts t) t (j + 1 + 1 + 1 - (t.length + 2))
    rw [show j + 1 + 1 + 1 - (t.length + 2) + t.length + 2 = j + 1 + 1 + 1 from by dsimp only at hk; omega] at this
    rw [newelref05_word.j0, if_pos rfl]
    unfold newelref05_number.f
    rw [this]; rfl
  have j3 : ∀ (i : Nat) (n : Int), newelref05_word.j3 (i + 1) n (ts t) da nu = some (pr (if nu = true ∧ t = [97] then (1, []) else if nu = true ∧ t = [98] then (2, []) else if nu = true ∧ t = [109] then (3, []) else if n = 8 then (n, t) else (n, []))) := by
    intro i n
    rw [newelref05_word.j3, ts_toList]
    by_cases hn : nu = true
    · rw [if_pos hn]
      simp only [hn, true_and]
      by_cases h1 : t = [97]
      · rw [if_pos h1, if_pos h1]; rfl
      · rw [if_neg h1, if_neg h1]
        by_cases h2 : t = [98]
        · rw [if_pos h2, if_pos h2]; rfl
        · rw [if_neg h2, if_neg h2]
          by_cases h3 : t = [109]
          · rw [if_pos h3, if_pos h3]; rfl
          · rw [if_neg h3, if_neg h3]
            by_cases h8 : n = 8
            · rw [if_pos h8, if_pos h8]; rfl
            · rw [if_neg h8, if_neg h8]; rfl
    · have na : ∀ c, ¬ (nu = true ∧ t = c) := fun c h => hn h.1
      rw [if_neg hn, if_neg (na [97]), if_neg (na [98]), if_neg (na [109])]
      by_cases h8 : n = 8
      · rw [if_pos h8, if_pos h8]; rfl
      · rw [if_neg h8, if_neg h8]; rfl
  have lets : newelref05_word.j0 (j + 1 + 1 + 1 + 1) false (ts t) da nu = some (pr (letL t nu)) := by
    by_cases hx : nu = true ∧ (t = [97] ∨ t = [98] ∨ t = [109])
    · obtain ⟨hn, hx⟩ := hx
      subst hn
      rw [newelref05_word.j0, ts_toList, if_neg (by simp)]
      rcases hx with rfl | rfl | rfl
      · rw [if_neg (by decide), if_neg (by decide), if_neg (by decide), if_neg (by decide), newelref05_word.j1, ts_toList, if_neg (by decide), if_neg (by decide), if_neg (by decide), if_neg (by decide), newelref05_word.j2, ts_toList, if_neg (by decide), if_neg (by decide), j3]; rfl
      · rw [if_neg (by decide), if_neg (by decide), if_neg (by decide), if_neg (by decide), newelref05_word.j1, ts_toList, if_neg (by decide), if_neg (by decide), if_neg (by decide), if_neg (by decide), newelref05_word.j2, ts_toList, if_neg (by decide), if_neg (by decide), j3]; rfl
      · rw [if_neg (by decide), if_neg (by decide), if_neg (by decide), if_neg (by decide), newelref05_word.j1, ts_toList, if_neg (by decide), if_neg (by decide), if_neg (by decide), if_neg (by decide), newelref05_word.j2, ts_toList, if_neg (by decide), if_neg (by decide), j3]; rfl
    · have ka : ∀ c, (c = [97] ∨ c = [98] ∨ c = [109]) → (nu = true ∧ t = c) = False := by
        intro c hc
        apply eq_false
        rintro ⟨h1, h2⟩
        exact hx ⟨h1, h2 ▸ hc⟩
      simp only [ka [97] (by simp), ka [98] (by simp), ka [109] (by simp), if_false] at j3
      unfold letL
      rw [kindL_plain t nu ka, newelref05_word.j0, ts_toList, if_neg (by simp)]
      by_cases h1 : t = tA
      · rw [if_pos h1, if_pos h1, j3]; rfl
      · rw [if_neg h1, if_neg h1]
        by_cases h2 : t = tB
        · rw [if_pos h2, if_pos h2, j3]; rfl
        · rw [if_neg h2, if_neg h2]
          by_cases h3 : t = tM
          · rw [if_pos h3, if_pos h3, j3]; rfl
          · rw [if_neg h3, if_neg h3]
            have j2 : ∀ b, (¬ b = true → ¬ (t = tGa ∨ t = tFi ∨ t = tRe)) → (b = true → (t = tGa ∨ t = tFi ∨ t = tRe)) → newelref05_word.j2 (j + 1 + 1) 8 (ts t) b (ts t) da nu = some (pr (if (if t = tGa ∨ t = tFi ∨ t = tRe then (6 : Int) else if t = tSp then 7 else 8) = 8 then (8, t) else ((if t = tGa ∨ t = tFi ∨ t = tRe then (6 : Int) else if t = tSp then 7 else 8), []))) := by
              intro b hb1 hb2
              rw [newelref05_word.j2, ts_toList]
              by_cases hb : b = true
              · rw [if_pos hb, if_pos (hb2 hb), j3]; rfl
              · rw [if_neg hb, if_neg (hb1 hb)]
                by_cases h7 : t = tSp
                · rw [if_pos h7, if_pos h7, j3]; rfl
                · rw [if_neg h7, if_neg h7, j3]
            have j1 : ∀ b, (¬ b = true → ¬ (t = tRc ∨ t = tCr)) → (b = true → (t = tRc ∨ t = tCr)) → newelref05_word.j1 (j + 1 + 1 + 1) 8 (ts t) b (ts t) da nu = some (pr (if (if t = tRc ∨ t = tCr then (4 : Int) else if t = tS then 5 else if t = tGa ∨ t = tFi ∨ t = tRe then (6 : Int) else if t = tSp then 7 else 8) = 8 then (8, t) else ((if t = tRc ∨ t = tCr then (4 : Int) else if t = tS then 5 else if t = tGa ∨ t = tFi ∨ t = tRe then (6 : Int) else if t = tSp then 7 else 8), []))) := by
              intro b hb1 hb2
              rw [newelref05_word.j1, ts_toList]
              by_cases hb : b = true
              · rw [if_pos hb, if_pos (hb2 hb), j3]; rfl
              · rw [if_neg hb, if_neg (hb1 hb)]
                by_cases h5 : t = tS
                · rw [if_pos h5, if_pos h5, j3]; rfl
                · rw [if_neg h5, if_neg h5]
                  by_cases h6 : t = tGa
                  · rw [if_pos h6]; exact j2 _ (fun h => absurd (by rw [show t = [103, 97] from h6]; rfl) h) (fun _ => Or.inl h6)
                  · rw [if_neg h6]
                    by_cases h8 : t = tFi
                    · rw [if_pos h8]; exact j2 _ (fun h => absurd (by rw [show t = [102, 105, 110, 97, 108] from h8]; rfl) h) (fun _ => Or.inr (Or.inl h8))
                    · rw [if_neg h8]
                      refine j2 _ ?_ ?_
                      · rintro h (g | g | g)
                        · exact h6 g
                        · exact h8 g
                        · exact h (by rw [show t = [114, 101, 108, 101, 97, 115, 101] from g]; rfl)
                      · intro h; exact Or.inr (Or.inr (beq_iff_eq.1 h))
            by_cases h4 : t = tRc
            · rw [if_pos h4]; exact j1 _ (fun h => absurd (by rw [show t = [114, 99] from h4]; rfl) h) (fun _ => Or.inl h4)
            · rw [if_neg h4]
              refine j1 _ ?_ ?_
              · rintro h (g | g)
                · exact h4 g
                · exact h (by rw [show t = [99, 114] from g]; rfl)
              · intro h; exact Or.inr (beq_iff_eq.1 h)
  unfold newelref05_word.f wordL
  rw [ts_toList]
  cases t with
  | nil => rw [if_pos rfl, nums]; rfl
  | cons c t =>
    have hb : bt (ts (c :: t)) 0 = (c.toNat : Int) := bt_nat (c :: t) 0 (by simp)
    rw [if_neg (by simp), if_pos (by rw [ts_size, List.length_cons]; omega), hb, digit_ref, Option.bind_some]
    show _ = some (pr (if isD c = true then numL (c :: t) da else letL (c :: t) nu))
    by_cases d : isD c = true
    · rw [if_pos d, d]; exact nums
    · rw [if_neg d, Bool.eq_false_iff.2 d]; exact lets
theorem lower_loop (v : List UInt8) (hv : v.length ≤ 1000000) : ∀ (d i k : Nat), i + d = v.length → newelref01_Lower.l0 (k + d + 1) (ts v) ((v.take i).map fun c => toN (lowB c)) (i : Int) = some (ts (v.map lowB)) := by
  intro d
  induction d with
  | zero =>
    intro i k h
    rw [newelref01_Lower.l0, if_neg (by rw [ts_size]; omega), List.take_of_length_le (by omega), ← nums_ts, List.map_map]
    rfl
  | succ d ih =>
    intro i k h
    have hi : i < v.length := by omega
    have q0 : (i : Int) < ((ts v).size : Int) := by rw [ts_size]; omega
    have q1 : (0 : Int) ≤ (i : Int) := by omega
    have q2 : ((v.take i).map fun c => toN (lowB c)).length < 140737488355328 := by rw [List.length_map, List.length_take]; omega
    have hb := bt_nat v i hi
    have hn := next_of i (by omega)
    have step : newelref01_Lower.l0 (k + d + 1) (ts v) (((v.take i).map fun c => toN (lowB c)) ++ [toN (lowB v[i])]) ((i + 1 : Nat) : Int) = some (ts (v.map lowB)) := by
      have := ih (i + 1) k (by omega)
      rw [List.take_succ_eq_append_getElem hi, List.map_append] at this
      exact this
    have ln := low_num v[i]
    have lt := (v[i]).toNat_lt
    rw [show k + (d + 1) + 1 = (k + d + 1) + 1 from by omega, newelref01_Lower.l0, if_pos q0, if_pos q1, hb, hn]
    by_cases a : ((v[i].toNat : Nat) : Int) ≥ 65
    · rw [if_pos a]
      by_cases b : ((v[i].toNat : Nat) : Int) ≤ 90
      · rw [if_pos b, if_pos q2]
        rw [if_pos ⟨a, b⟩] at ln
        rw [show (((v[i].toNat : Nat) : Int) + 32) % 256 = ((v[i].toNat : Nat) : Int) + 32 from by omega, ln]
        exact step
      · rw [if_neg b, if_pos q2]
        rw [if_neg (fun h => b h.2)] at ln
        rw [ln]; exact step
    · rw [if_neg a, if_pos q2]
      rw [if_neg (fun h => a h.1)] at ln
      rw [ln]; exact step
theorem ref_lower_told (v : List UInt8) (hv : v.length ≤ 1000000) (k : Nat) (hk : v.length + 1 ≤ k) : newelref01_Lower.f k (ts v) = some (ts (v.map lowB)) := by
  have := lower_loop v hv v.length 0 (k - v.length - 1) (by omega)
  rw [show k - v.length - 1 + v.length + 1 = k from by omega] at this
  exact this
theorem ref_split_loop (l : List Pt) (M : Nat) (hM : ∀ p ∈ l, p.tx.length ≤ M) (hl : l.length ≤ 1000000) : ∀ (n : Nat) (out : List Wl) (k : Nat), n ≤ l.length → out.length + n ≤ 1000000 → M + 10 ≤ k →
    newelref05_Split.l0 (k + n + 1) (l.map p98) (out.map w38) ((n : Int) - 1) = some ((((l.take n).map wordL).foldr pushL out).map w38) := by
  intro n
  induction n with
  | zero =>
    intro out k _ _ _
    rw [newelref05_Split.l0, if_neg (by omega)]
    rfl
  | succ n ih =>
    intro out k h hs hk
    have hn : n < l.length := by omega
    have hx : (((n + 1 : Nat) : Int) - 1) = (n : Int) := by omega
    have hy : wrap64 ((n : Int) - 1) = (n : Int) - 1 := by unfold wrap64; omega
    have hm : (l.map p98).length = l.length := by simp
    have hr : rd_T98 (l.map p98) (n : Int) = p98 l[n] := by
      unfold rd_T98
      rw [Int.toNat_natCast, List.getD_eq_getElem?_getD, List.getElem?_map, List.getElem?_eq_getElem hn]
      rfl
    have fold : (((l.take (n + 1)).map wordL).foldr pushL out) = ((l.take n).map wordL).foldr pushL (pushL (wordL l[n]) out) := by
      rw [List.take_succ_eq_append_getElem hn, List.map_append, List.foldr_append]; rfl
    have hlen : (out.map w38).length = out.length := by simp
    have add : ¬ ((wordL l[n]).1 = 6 ∧ aheadL out = false) → ((some (([(⟨(pr (wordL l[n])).1, (pr (wordL l[n])).2⟩ : S38)] : List (S38)) : List (S38))).bind fun y => (if y.length + (out.map w38).length < 5864062014805 then (newelref05_Split.l0 (k + n + 1) (l.map p98) (y ++ out.map w38) ((n : Int) - 1)) else (none))) = some ((((l.take (n + 1)).map wordL).foldr pushL out).map w38) := by
      intro hp
      rw [Option.bind_some, if_pos (by rw [hlen]; simp; omega)]
      have := ih (wordL l[n] :: out) k (by omega) (by simp; omega) hk
      rw [fold, push_add _ _ hp, ← this]
      rfl
    have skip : (wordL l[n]).1 = 6 → aheadL out = false → newelref05_Split.l0 (k + n + 1) (l.map p98) (out.map w38) ((n : Int) - 1) = some ((((l.take (n + 1)).map wordL).foldr pushL out).map w38) := by
      intro h1 h2
      rw [ih out k (by omega) (by omega) hk, fold, push_skip _ _ h1 h2]
    rw [show k + (n + 1) + 1 = (k + n + 1) + 1 from by omega, newelref05_Split.l0, hx, if_pos (by omega), if_pos (by omega), if_pos (by rw [hm]; omega), hr, ref_word_told l[n] _ (by have := hM l[n] (List.getElem_mem hn); omega), Option.bind_some, hy]
    cases out with
    | nil =>
      rw [if_neg (by simp)]
      by_cases h6 : (pr (wordL l[n])).1 = 6
      · rw [if_pos h6]; exact skip h6 rfl
      · rw [if_neg h6]; exact add (fun h => h6 h.1)
    | cons o os =>
      have ho : ((o :: os).map w38).length = os.length + 1 := by simp
      have hz : rd_T38 ((o :: os).map w38) 0 = w38 o := rfl
      rw [if_pos (by rw [ho]; omega), if_pos (by rw [ho]; omega), hz]
      by_cases a6 : (w38 o).f0 = 6
      · rw [if_pos a6]
        have := add (fun h => ((ahead_cons o os).1 h.2).1 a6)
        by_cases h6 : (pr (wordL l[n])).1 = 6
        · rw [if_pos h6]; exact this
        · rw [if_neg h6]; exact this
      · rw [if_neg a6]
        by_cases h6 : (pr (wordL l[n])).1 = 6
        · rw [if_pos h6]
          by_cases a10 : (w38 o).f0 = 10
          · rw [if_pos a10]; exact add (fun h => ((ahead_cons o os).1 h.2).2 a10)
          · rw [if_neg a10]; exact skip h6 ((ahead_cons o os).2 ⟨a6, a10⟩)
        · rw [if_neg h6]; exact add (fun h => h6 h.1)
theorem ref_split_told (v : List UInt8) (hv : v.length ≤ 100000) (k : Nat) (hk : 3 * v.length + 40 ≤ k) : newelref05_Split.f k (ts v) = some ((splitL v).map w38) := by
  have hB := partsL_B (v.map lowB)
  rw [List.length_map] at hB
  unfold newelref05_Split.f
  rw [ref_lower_told v (by omega) k (by omega), Option.bind_some, ref_parts_told _ (by rw [List.length_map]; omega) k (by rw [List.length_map]; omega), Option.bind_some]
  have := ref_split_loop (partsL (v.map lowB)) v.length hB.1 (by omega) (partsL (v.map lowB)).length [] (k - (partsL (v.map lowB)).length - 1) (Nat.le_refl _) (by simp; omega) (by omega)
  rw [show k - (partsL (v.map lowB)).length - 1 + (partsL (v.map lowB)).length + 1 = k from by omega, List.take_length] at this
  rw [List.length_map, show wrap64 (((partsL (v.map lowB)).length : Int) - 1) = ((partsL (v.map lowB)).length : Int) - 1 from by unfold wrap64; omega]
  exact this
theorem ref_text_cmp (a b : List UInt8) : newelref05_text.f (ts a) (ts b) = some (cmpB a b) := by
  unfold newelref05_text.f cmpB
  rw [ts_toList, ts_toList]
  by_cases p : Op.bytesLess a b = true
  · rw [if_pos p, if_pos p]
  · rw [if_neg p, if_neg p]
    by_cases q : Op.bytesLess b a = true
    · rw [if_pos q, if_pos q]
    · rw [if_neg q, if_neg q]
theorem ref_one_cmp (x y : Wl) : Tot (fun k => newelref05_one.f k x.1 (ts x.2) y.1 (ts y.2)) (fun r => r = cmpW x y) := by
  have len : Tot (fun k => newelref05_one.j0 k true x.1 (ts x.2) y.1 (ts y.2)) (fun r => r = if cmpI x.2.length y.2.length = 0 then cmpB x.2 y.2 else cmpI x.2.length y.2.length) := by
    refine tot_succ ?_ (fun k => by rw [newelref05_one.j0])
    rw [ref_text_cmp, ts_size, ts_size]
    simp only [Option.bind_some]
    unfold cmpI
    refine tot_guard (by trivial) (tot_if (fun e => tot_some ?_) (fun e => tot_if (fun l => tot_some ?_) (fun l => tot_some ?_)))
    · rw [if_neg (show ¬ (x.2.length : Int) < y.2.length by omega), if_neg (show ¬ (x.2.length : Int) > y.2.length by omega), if_pos rfl]
    · rw [if_pos l, if_neg (by decide)]
    · rw [if_neg l, if_pos (show (x.2.length : Int) > y.2.length by omega), if_neg (by decide)]
  unfold newelref05_one.f cmpW
  rw [ref_text_cmp]
  simp only [Option.bind_some]
  refine tot_if (fun p => tot_some (by rw [if_pos p])) (fun p => tot_if (fun q => tot_some (by rw [if_neg p, if_pos q])) (fun q => tot_if (fun e => tot_some (by rw [if_neg p, if_neg q, if_pos e])) (fun e => ?_)))
  rw [if_neg p, if_neg q, if_neg e]
  refine tot_if (fun g => ?_) (fun g => ?_)
  · rw [if_pos (Or.inl g)]; exact len
  · by_cases h : x.1 = 10
    · rw [show (x.1 == 10) = true from beq_iff_eq.2 h, if_pos (Or.inr h)]; exact len
    · rw [show (x.1 == 10) = false from beq_eq_false_iff_ne.2 h, if_neg (by rintro (z | z) <;> omega)]
      refine tot_succ ?_ (fun k => by rw [newelref05_one.j0])
      exact tot_if (fun b => by cases b) (fun _ => tot_some rfl)
theorem hd_drop (l : List Wl) (i : Nat) (h : i < l.length) : hdW (l.drop i) = l[i] := by rw [List.drop_eq_getElem_cons h]; rfl
theorem hd_none (l : List Wl) (i : Nat) (h : ¬ i < l.length) : hdW (l.drop i) = (6, []) := by rw [List.drop_eq_nil_of_le (by omega)]; rfl
theorem rd_word (l : List Wl) (i : Nat) (h : i < l.length) : rd_T38 (l.map w38) (i : Int) = w38 l[i] := by
  unfold rd_T38
  rw [Int.toNat_natCast, List.getD_eq_getElem?_getD, List.getElem?_map, List.getElem?_eq_getElem h]; rfl
theorem ref_words_cmp (x y : List Wl) (hx : x.length ≤ 100100) (hy : y.length ≤ 100100) : ∀ (d i : Nat), i ≤ 100100 → x.length ≤ i + d → y.length ≤ i + d →
    Tot (fun k => newelref05_Words.l0 k (x.map w38) (y.map w38) (i : Int)) (fun r => r = cmpN d (x.drop i) (y.drop i)) := by
  have j2 : ∀ (i : Nat) (a : Wl) (T : Int), i ≤ 100100 → Tot (fun k => newelref05_Words.l0 k (x.map w38) (y.map w38) ((i + 1 : Nat) : Int)) (fun r => r = T) →
      Tot (fun k => newelref05_Words.j2 k (x.map w38) (y.map w38) (i : Int) a.1 (ts a.2) 6 (⟨#[]⟩ : ByteArray)) (fun r => r = if cmpW a (hdW (y.drop i)) = 0 then T else cmpW a (hdW (y.drop i))) := by
    intro i a T hi next
    refine tot_succ ?_ (fun k => by rw [newelref05_Words.j2])
    rw [List.length_map, next_of i (by omega)]
    refine tot_if (fun h => tot_guard (by omega) ?_) (fun h => ?_)
    · rw [rd_word y i (by omega), hd_drop y i (by omega)]
      refine tot_bind (ref_one_cmp a y[i]) (fun r hr => ?_)
      subst hr
      exact tot_if (fun z => by rw [if_pos z]; exact next) (fun z => tot_some (by rw [if_neg z]))
    · rw [hd_none y i (by omega)]
      refine tot_bind (ref_one_cmp a (6, [])) (fun r hr => ?_)
      subst hr
      exact tot_if (fun z => by rw [if_pos z]; exact next) (fun z => tot_some (by rw [if_neg z]))
  have j1 : ∀ (i : Nat) (T : Int), i ≤ 100100 → Tot (fun k => newelref05_Words.l0 k (x.map w38) (y.map w38) ((i + 1 : Nat) : Int)) (fun r => r = T) →
      Tot (fun k => newelref05_Words.j1 k (x.map w38) (y.map w38) (i : Int) true) (fun r => r = if cmpW (hdW (x.drop i)) (hdW (y.drop i)) = 0 then T else cmpW (hdW (x.drop i)) (hdW (y.drop i))) := by
    intro i T hi next
    refine tot_succ ?_ (fun k => by rw [newelref05_Words.j1])
    rw [List.length_map]
    refine tot_guard rfl (tot_if (fun h => tot_guard (by omega) ?_) (fun h => ?_))
    · rw [rd_word x i (by omega), hd_drop x i (by omega)]
      exact j2 i x[i] T hi next
    · rw [hd_none x i (by omega)]
      exact j2 i (6, []) T hi next
  have over : ∀ (i n : Nat), x.length ≤ i → y.length ≤ i → Tot (fun k => newelref05_Words.l0 k (x.map w38) (y.map w38) (i : Int)) (fun r => r = cmpN n (x.drop i) (y.drop i)) := by
    intro i n h1 h2
    refine tot_succ ?_ (fun k => by rw [newelref05_Words.l0])
    rw [List.length_map, List.length_map]
    refine tot_if (fun h => by omega) (fun h => ?_)
    rw [decide_eq_false (by omega)]
    refine tot_succ ?_ (fun k => by rw [newelref05_Words.j1])
    refine tot_if (fun b => by cases b) (fun _ => tot_some ?_)
    rw [List.drop_eq_nil_of_le h1, List.drop_eq_nil_of_le h2, cmpN_nil]
  intro d
  induction d with
  | zero => intro i hi h1 h2; exact over i 0 (by omega) (by omega)
  | succ d ih =>
    intro i hi h1 h2
    by_cases e : i < x.length ∨ i < y.length
    · have next := ih (i + 1) (by omega) (by omega) (by omega)
      have q := j1 i _ hi next
      rw [← tail_drop, ← tail_drop] at q
      refine tot_succ ?_ (fun k => by rw [newelref05_Words.l0])
      rw [List.length_map, List.length_map]
      refine tot_if (fun h => tot_imp q (fun r hr => hr)) (fun h => ?_)
      rw [decide_eq_true (by omega)]
      exact tot_imp q (fun r hr => hr)
    · exact over i (d + 1) (by omega) (by omega)
theorem ref_compare_cmp (a b : List UInt8) (ha : a.length ≤ 100000) (hb : b.length ≤ 100000) : Tot (fun k => newelref05_Compare.f k (ts a) (ts b)) (fun r => r = cmpV a b) := by
  have sa := splitL_len a
  have sb := splitL_len b
  unfold newelref05_Compare.f newelref05_Words.f
  refine tot_bind (tot_ge 400000 (fun k hk => ref_split_told a ha k (by omega))) (fun x hx => ?_)
  subst hx
  refine tot_bind (tot_ge 400000 (fun k hk => ref_split_told b hb k (by omega))) (fun y hy => ?_)
  subst hy
  refine tot_bind (ref_words_cmp (splitL a) (splitL b) (by omega) (by omega) 100100 0 (by omega) (by omega) (by omega)) (fun r hr => tot_some ?_)
  rw [hr, List.drop_zero, List.drop_zero]
  rfl
theorem right_nil : rightB [] = false := by decide
theorem cut_head {s sub : List UInt8} {c : UInt8} {j : Nat} (h : Lib.occAt s (c :: sub) j = true) : s[j]? = some c := by
  unfold Lib.occAt at h
  obtain ⟨t, ht⟩ := List.isPrefixOf_iff_prefix.1 h
  have : (s.drop j)[0]? = some c := by rw [← ht]; rfl
  simpa using this
theorem cut_there (t r sub : List UInt8) (c : UInt8) (h : ∀ x ∈ t, x ≠ c) : Lib.cut (t ++ ((c :: sub) ++ r)) (c :: sub) = (t, r, true) := by
  have e : Lib.index (t ++ ((c :: sub) ++ r)) (c :: sub) = (t.length : Int) := by
    refine Lib.index_first (by simp) ?_ ?_
    · unfold Lib.occAt
      rw [List.drop_left]
      exact List.isPrefixOf_iff_prefix.2 ⟨r, rfl⟩
    · intro j hj
      rw [Bool.eq_false_iff]
      intro ho
      have := cut_head ho
      rw [List.getElem?_append_left hj] at this
      exact h c (List.mem_of_getElem? this) rfl
  unfold Lib.cut
  rw [e, if_pos (by omega), Int.toNat_natCast, List.take_left, show t.length + (c :: sub).length = (t ++ (c :: sub)).length by simp, ← List.append_assoc, List.drop_left]
theorem trim_plain (l : List UInt8) (c : UInt8) (h : ∀ x ∈ l, x ≠ c) : Lib.trimB l c = l := by
  have g : ∀ l : List UInt8, (∀ x ∈ l, x ≠ c) → l.dropWhile (· == c) = l := by
    intro l h
    cases l with
    | nil => rfl
    | cons x l => rw [List.dropWhile_cons, if_neg (by simpa using h x (List.mem_cons_self ..))]
  unfold Lib.trimB Lib.trimRightB Lib.trimLeftB
  rw [g l.reverse (fun x hx => h x (List.mem_reverse.1 hx)), List.reverse_reverse, g l h]
theorem dig_ne (d : List UInt8) (h : numD d = true) (c : UInt8) (hc : isD c = false) : ∀ x ∈ d, x ≠ c := by
  intro x hx e
  rw [e] at hx
  have := (numD_all d h).2 c hx
  rw [hc] at this; cases this
theorem prefix_told (o : UInt8) (l : List UInt8) (p : UInt8) : strings_HasPrefix.f (ts (o :: l)) (ts [p]) = some (o == p) := by
  have s1 : ((ts [p]).size : Int) = 1 := by rw [ts_size]; rfl
  have s2 : ((ts (o :: l)).size : Int) = ((l.length + 1 : Nat) : Int) := by rw [ts_size]; rfl
  have e : ((ts (o :: l)).extract 0 (1 : Int).toNat).toList = [o] := by
    rw [ba_toList, ba_extract, ts_list]; rfl
  unfold strings_HasPrefix.f stringslite_HasPrefix.f
  rw [s1, s2, if_pos (by omega), if_pos (by omega), if_pos (by omega), e, Option.bind_some, ts_toList]
  congr 1
  rw [Bool.eq_iff_iff]; simp
theorem right_dig (d : List UInt8) (h : numD d = true) (l : d.length ≤ 100) (k : Nat) (hk : 101 ≤ k) : words_Right.f k (ts d) = some true := by
  rw [right_told _ _ hk, ts_list]
  congr 1
  have a := numD_all d h
  unfold rightB
  rw [decide_eq_true (show 1 ≤ d.length from List.length_pos_iff.2 a.1), decide_eq_true l, Bool.true_and, Bool.true_and, List.all_eq_true]
  intro c hc
  have := a.2 c hc
  unfold isD at this
  simp only [Bool.and_eq_true, decide_eq_true_eq] at this
  unfold sign8 sign
  rw [decide_eq_true (show (33 : Int) ≤ (c.toNat : Int) by omega), decide_eq_true (show (c.toNat : Int) ≤ 126 by omega), bne_iff_ne.2 (show (c.toNat : Int) ≠ 91 by omega), bne_iff_ne.2 (show (c.toNat : Int) ≠ 93 by omega), bne_iff_ne.2 (show (c.toNat : Int) ≠ 40 by omega), bne_iff_ne.2 (show (c.toNat : Int) ≠ 41 by omega), bne_iff_ne.2 (show (c.toNat : Int) ≠ 44 by omega)]
  rfl
theorem cmp_told (a b : List UInt8) (ha : numD a = true) (hb : numD b = true) (la : a.length ≤ 100) (lb : b.length ≤ 100) (k : Nat) (hk : 4000 ≤ k) : order_Compare.f k (ts a) (ts b) = some (cmpL a b) :=
  compare_told a b a b (parts_one a ha) (parts_one b hb) (by omega) (by omega) (by omega) (by omega) k hk
def isOp (o : UInt8) : Bool := o == 91 || o == 40
def clB (c : UInt8) : Bool := c == 93 || c == 41
def trimS (l : List UInt8) : List UInt8 := Lib.trimB l 32
def inn (t : List UInt8) : List UInt8 := t.takeWhile (fun c => !clB c)
def outt (t : List UInt8) : List UInt8 := t.dropWhile (fun c => !clB c)
def spanS (o c : UInt8) (w : List UInt8) : Option S58 :=
  if (Lib.cut w [44]).2.2 = true then some ⟨ts (trimS (Lib.cut w [44]).1), ts (trimS (Lib.cut w [44]).2.1), o == 91, c == 93⟩
  else if o = 91 ∧ c = 93 then some ⟨ts (trimS w), ts (trimS w), true, true⟩ else none
def oneS : List UInt8 → Option (S58 × List UInt8)
  | [] => none
  | o :: t => if isOp o = true then (match outt t with
    | [] => none
    | c :: rest => match spanS o c (inn t) with
      | none => none
      | some s => if mayS s = true then some (s, rest) else none) else none
theorem oneS_cons (o : UInt8) (t : List UInt8) : oneS (o :: t) = if isOp o = true then (match outt t with
    | [] => none
    | c :: rest => match spanS o c (inn t) with
      | none => none
      | some s => if mayS s = true then some (s, rest) else none) else none := rfl
def badS (acc : List S58) (s : S58) : Bool := if acc.length ≥ 20 then true else match acc.getLast? with
  | none => false
  | some p => !behindB (hi8 p) (lo8 s) p.f3 s.f2
def parseF : Nat → List UInt8 → List S58 → List S58 × Int
  | 0, _, _ => ([], 12)
  | n + 1, x, acc => match oneS x with
    | none => ([], 12)
    | some (s, rest) => if badS acc s = true then ([], 12) else match rest with
      | [] => (acc ++ [s], 0)
      | c :: y => if c = 44 then parseF n y (acc ++ [s]) else ([], 12)
theorem inn_out (t : List UInt8) : inn t ++ outt t = t := List.takeWhile_append_dropWhile
theorem trim_le (l : List UInt8) : (trimS l).length ≤ l.length := by
  have g : ∀ l : List UInt8, (l.dropWhile (· == 32)).length ≤ l.length := fun l => (List.dropWhile_sublist _).length_le
  unfold trimS Lib.trimB Lib.trimLeftB Lib.trimRightB
  have a := g (l.reverse.dropWhile (· == 32)).reverse
  have b := g l.reverse
  rw [List.length_reverse] at a b
  omega
theorem cut_le (w : List UInt8) : (Lib.cut w [44]).1.length ≤ w.length ∧ (Lib.cut w [44]).2.1.length ≤ w.length := by
  unfold Lib.cut
  split
  · exact ⟨by simp only [List.length_take]; omega, by simp only [List.length_drop]; omega⟩
  · exact ⟨Nat.le_refl _, Nat.zero_le _⟩
theorem spanS_le (o c : UInt8) (w : List UInt8) (s : S58) (h : spanS o c w = some s) : (lo8 s).length ≤ w.length ∧ (hi8 s).length ≤ w.length := by
  have q := cut_le w
  unfold spanS at h
  split at h
  · obtain rfl := Option.some.inj h
    exact ⟨Nat.le_trans (by show (trimS _).length ≤ _; exact trim_le _) q.1, Nat.le_trans (by show (trimS _).length ≤ _; exact trim_le _) q.2⟩
  · split at h
    · obtain rfl := Option.some.inj h
      exact ⟨by show (trimS _).length ≤ _; exact trim_le _, by show (trimS _).length ≤ _; exact trim_le _⟩
    · cases h
theorem oneS_le (x : List UInt8) (s : S58) (rest : List UInt8) (h : oneS x = some (s, rest)) : rest.length + 2 ≤ x.length ∧ (lo8 s).length ≤ x.length ∧ (hi8 s).length ≤ x.length ∧ mayS s = true := by
  cases x with
  | nil => cases h
  | cons o t =>
    rw [oneS_cons] at h
    by_cases io : isOp o = true
    · rw [if_pos io] at h
      have e := inn_out t
      cases ho : outt t with
      | nil => rw [ho] at h; cases h
      | cons c r =>
        rw [ho] at h e
        dsimp only at h
        cases hs : spanS o c (inn t) with
        | none => rw [hs] at h; cases h
        | some s' =>
          rw [hs] at h
          dsimp only at h
          by_cases m : mayS s' = true
          · rw [if_pos m] at h
            have z := Option.some.inj h
            injection z with z1 z2
            subst z1
            subst z2
            have l := spanS_le o c _ _ hs
            have el : (inn t).length + (r.length + 1) = t.length := by
              have := congrArg List.length e
              rw [List.length_append, List.length_cons] at this
              exact this
            rw [List.length_cons]
            exact ⟨by omega, by omega, by omega, m⟩
          · rw [if_neg m] at h; cases h
    · rw [if_neg io] at h; cases h
theorem is_op (o : UInt8) (l : List UInt8) : span_Is.f (ts (o :: l)) = some (isOp o) := by
  unfold span_Is.f isOp
  rw [show (⟨#[91]⟩ : ByteArray) = ts [91] from rfl, prefix_told, Option.bind_some]
  cases h : (o == 91) with
  | true => rw [if_pos rfl, Bool.true_or]
  | false => rw [if_neg (by decide), show (⟨#[40]⟩ : ByteArray) = ts [40] from rfl, prefix_told, Option.bind_some, Bool.false_or]
theorem is_nil2 : span_Is.f (ts []) = some false := by kernel_rfl
theorem op_open (o : UInt8) (h : isOp o = true) : o = 91 ∨ o = 40 := by
  unfold isOp at h
  simpa using h
theorem op_not (o : UInt8) (h : isOp o = true) : clB o = false := by
  rcases op_open o h with rfl | rfl <;> rfl
theorem any_close : ∀ (t : List UInt8), Lib.indexAny t [93, 41] = if outt t = [] then -1 else ((inn t).length : Int)
  | [] => rfl
  | b :: l => by
    have ih := any_close l
    have hc : ([93, 41] : List UInt8).contains b = clB b := by
      unfold clB
      simp only [List.contains_cons, List.contains_nil, Bool.or_false]
    show (if ([93, 41] : List UInt8).contains b then (0 : Int) else if Lib.indexAny l [93, 41] == -1 then -1 else Lib.indexAny l [93, 41] + 1) = _
    rw [hc, ih]
    unfold inn outt
    cases h : clB b with
    | true =>
      rw [if_pos rfl, List.dropWhile_cons, List.takeWhile_cons, h]
      simp
    | false =>
      rw [if_neg (by decide), List.dropWhile_cons, List.takeWhile_cons, h]
      simp only [Bool.not_false, if_true]
      by_cases e : List.dropWhile (fun c => !clB c) l = []
      · rw [if_pos e, if_pos e]
        try rfl
      · rw [if_neg e, if_neg e, if_neg (by first | (simp; done) | (simp; omega))]
        simp
def OneR (q : Option (S58 × List UInt8)) (r : ByteArray × ByteArray × Bool × Bool × ByteArray × Bool) : Prop := match q with
  | none => r.2.2.2.2.2 = false
  | some (s, rest) => r = (s.f0, s.f1, s.f2, s.f3, ts rest, true)
theorem trim_cmp (l : List UInt8) (h : l.length ≤ 100000) : strings_Trim.f (ts l) (⟨#[32]⟩ : ByteArray) = some (ts (trimS l)) := by
  unfold strings_Trim.f
  rw [if_pos ⟨rfl, by decide, by rw [ts_size]; omega⟩]
  rfl
theorem beq_byte (o : UInt8) (n : Nat) (h : n < 256) : (((o.toNat : Nat) : Int) == (n : Int)) = (o == UInt8.ofNat n) := by
  rw [Bool.eq_iff_iff, beq_iff_eq, beq_iff_eq]
  exact beq_toNat o n h
theorem one_cmp (x : List UInt8) (hx : x.length ≤ 50000) : Tot (fun k => span_one.f k (ts x)) (OneR (oneS x)) := by
  cases x with
  | nil =>
    unfold span_one.f
    rw [is_nil2]
    simp only [Option.bind_some]
    exact tot_if (fun h => by cases h) (fun _ => tot_some rfl)
  | cons o t =>
    have hx2 : t.length + 1 ≤ 50000 := hx
    have ia : strings_IndexAny.f (ts (o :: t)) (⟨#[93, 41]⟩ : ByteArray) = some (Lib.indexAny (o :: t) [93, 41]) := by
      unfold strings_IndexAny.f
      rw [if_pos ⟨by rw [ts_size]; omega, by decide, by decide, by decide⟩]
      rfl
    unfold span_one.f
    rw [is_op, ia]
    simp only [Option.bind_some]
    refine tot_if (fun io => ?_) (fun io => tot_some (by rw [oneS_cons, if_neg io]; rfl))
    have e := inn_out t
    have hn := op_not o io
    have ac : Lib.indexAny (o :: t) [93, 41] = if outt t = [] then -1 else (((inn t).length + 1 : Nat) : Int) := by
      rw [any_close]
      unfold inn outt
      rw [List.dropWhile_cons, List.takeWhile_cons, hn]
      simp only [Bool.not_false, if_true]
      rw [List.length_cons]
    rw [ac]
    have s0 : (ts (o :: t)).size = t.length + 1 := by rw [ts_size]; rfl
    cases ho : outt t with
    | nil =>
      rw [if_pos rfl]
      exact tot_if (fun _ => tot_some (by rw [oneS_cons, if_pos io, ho]; rfl)) (fun h => absurd (by decide) h)
    | cons c rest =>
      rw [if_neg (by simp)]
      rw [ho] at e
      obtain ⟨w, hw⟩ : ∃ w, inn t = w := ⟨_, rfl⟩
      rw [hw] at e ⊢
      have el : (w).length + (rest.length + 1) = t.length := by
        have := congrArg List.length e
        rw [List.length_append, List.length_cons] at this
        exact this
      have hl : (w).length < t.length := by omega
      have gc : (o :: t)[(w).length + 1]'(by rw [List.length_cons]; omega) = c := by
        rw [List.getElem_cons_succ]
        have : t[(w).length]? = some c := by
          conv => lhs; rw [← e]
          rw [List.getElem?_append_right (Nat.le_refl _), Nat.sub_self]; rfl
        rw [List.getElem?_eq_getElem hl] at this
        exact Option.some.inj this
      have b0 : bt (ts (o :: t)) 0 = ((o.toNat : Nat) : Int) := bt_nat (o :: t) 0 (by simp)
      have bc : bt (ts (o :: t)) (((w).length + 1 : Nat) : Int) = ((c.toNat : Nat) : Int) := by
        rw [bt_nat (o :: t) _ (by rw [List.length_cons]; omega), gc]
      have ex : (ts (o :: t)).extract 1 ((((w).length + 1 : Nat) : Int)).toNat = ts (w) := by
        apply ba_ext
        rw [ba_extract, ts_list, ts_list, Int.toNat_natCast, List.take_succ_cons, List.drop_succ_cons, List.drop_zero]
        conv => lhs; rw [← e]
        rw [List.take_left']
        rfl
      have ex2 : (ts (o :: t)).extract ((((w).length + 1 + 1 : Nat) : Int)).toNat (ts (o :: t)).size = ts rest := by
        apply ba_ext
        rw [ba_extract, ts_list, ts_list, Int.toNat_natCast, ts_size, List.take_length, List.drop_succ_cons]
        conv => lhs; rw [← e]
        rw [List.drop_append, List.drop_eq_nil_of_le (by omega), show (w).length + 1 - (w).length = 1 by omega]
        rfl
      refine tot_if (fun h => by omega) (fun _ => tot_guard (by omega) (tot_guard (by omega) (tot_guard (by omega) (tot_guard (by omega) (tot_guard (by omega) ?_)))))
      have cut : strings_Cut.f (ts (w)) (⟨#[44]⟩ : ByteArray) = some (ts (Lib.cut (w) [44]).1, ts (Lib.cut (w) [44]).2.1, (Lib.cut (w) [44]).2.2) := by
        unfold strings_Cut.f
        rw [if_pos (by rw [ts_size]; omega)]
        rfl
      have cl := cut_le (w)
      rw [ex, cut, b0, bc, show ((((o.toNat : Nat) : Int) == 91) = (o == 91)) from beq_byte o 91 (by omega), show ((((c.toNat : Nat) : Int) == 93) = (c == 93)) from beq_byte c 93 (by omega)]
      simp only [Option.bind_some]
      have spec : oneS (o :: t) = match spanS o c (w) with
        | none => none
        | some s => if mayS s = true then some (s, rest) else none := by
        rw [oneS_cons, if_pos io, ho, hw]
      rw [spec]
      have fin : ∀ (lo hi : List UInt8) (il ih : Bool), lo.length ≤ 100000 → hi.length ≤ 100000 → spanS o c (w) = some ⟨ts lo, ts hi, il, ih⟩ →
          Tot (fun k => (span_may.f k (ts lo) (ts hi) il ih).bind fun t620 => some (ts lo, ts hi, il, ih, ts rest, t620)) (OneR (match spanS o c (w) with
        | none => none
        | some s => if mayS s = true then some (s, rest) else none)) := by
        intro lo hi il ih h1 h2 hs
        rw [hs]
        dsimp only
        refine tot_bind (may_cmp lo hi il ih h1 h2) (fun r hr => tot_some ?_)
        have hm : mayS ⟨ts lo, ts hi, il, ih⟩ = r := hr.symm
        rw [hm]
        cases r with
        | true => rw [if_pos rfl]; rfl
        | false => rw [if_neg (by decide)]; rfl
      cases hf : (Lib.cut (w) [44]).2.2 with
      | true =>
        refine tot_guard (by trivial) (tot_succ ?_ (fun k => by rw [span_one.j0]))
        rw [trim_cmp _ (by omega), trim_cmp _ (by omega), next_of _ (by omega), ex2]
        simp only [Option.bind_some]
        refine tot_guard (by trivial) (tot_guard (by omega) (tot_guard (by omega) ?_))
        refine fin _ _ _ _ (Nat.le_trans (trim_le _) (by omega)) (Nat.le_trans (trim_le _) (by omega)) ?_
        unfold spanS
        rw [if_pos hf]
      | false =>
        refine tot_if (fun h => by cases h) (fun _ => ?_)
        have c1 : (Lib.cut (w) [44]).1 = w := by
          unfold Lib.cut at hf ⊢
          split
          · rename_i h; rw [if_pos h] at hf; cases hf
          · rfl
        refine tot_succ ?_ (fun k => by rw [span_one.j0])
        rw [c1, trim_cmp _ (by omega), next_of _ (by omega), ex2]
        simp only [Option.bind_some]
        refine tot_if (fun h => by cases h) (fun _ => ?_)
        have sn : spanS o c (w) = if o = 91 ∧ c = 93 then some ⟨ts (trimS (w)), ts (trimS (w)), true, true⟩ else none := by
          unfold spanS
          rw [hf, if_neg (by decide)]
        refine tot_if (fun h1 => tot_if (fun h2 => tot_guard (by omega) (tot_guard (by omega) ?_)) (fun h2 => tot_some ?_)) (fun h1 => tot_some ?_)
        · rw [h1, h2]
          refine fin _ _ _ _ (Nat.le_trans (trim_le _) (by omega)) (Nat.le_trans (trim_le _) (by omega)) ?_
          rw [sn, if_pos ⟨beq_iff_eq.1 h1, beq_iff_eq.1 h2⟩]
        · rw [sn, if_neg (fun q => h2 (beq_iff_eq.2 q.2))]; rfl
        · rw [sn, if_neg (fun q => h1 (beq_iff_eq.2 q.1))]; rfl
theorem last_at (l : List S58) (m : Nat) (h : l.length = m + 1) : l.getLast? = some (l[m]'(by omega)) := by
  rw [List.getLast?_eq_getElem?, show l.length - 1 = m by omega, List.getElem?_eq_getElem (by omega)]
theorem comma_cmp (o : UInt8) (l : List UInt8) (hl : l.length ≤ 100000) : strings_CutPrefix.f (ts (o :: l)) (⟨#[44]⟩ : ByteArray) = some (if o = 44 then (ts l, true) else (ts (o :: l), false)) := by
  have s1 : ((ts [44]).size : Int) = 1 := by rw [ts_size]; rfl
  have s2 : ((ts (o :: l)).size : Int) = ((l.length + 1 : Nat) : Int) := by rw [ts_size]; rfl
  have e : ((ts (o :: l)).extract 0 (1 : Int).toNat).toList = [o] := by rw [ba_toList, ba_extract, ts_list]; rfl
  have x : (ts (o :: l)).extract (1 : Int).toNat (ts (o :: l)).size = ts l := by
    apply ba_ext
    rw [ba_extract, ts_list, ts_list, ts_size, List.take_length]; rfl
  have z1 : ((l.length + 1 : Nat) : Int) ≥ 1 := by omega
  have z2 : (1 : Int) ≤ ((l.length + 1 : Nat) : Int) := by omega
  unfold strings_CutPrefix.f stringslite_CutPrefix.f stringslite_HasPrefix.f
  rw [show (⟨#[44]⟩ : ByteArray) = ts [44] from rfl, s1, s2, if_pos z1, if_pos (by decide), if_pos z2, e, Option.bind_some, if_pos z2, x, ts_toList]
  by_cases h : o = 44
  · subst h
    rw [if_pos rfl, if_pos (by decide), if_pos (by decide), Option.bind_some]
  · have : (([o] : List UInt8) == [44]) = false := by simpa using h
    rw [if_neg h, this, if_neg (by decide), Option.bind_some]
theorem parse_cmp : ∀ (n : Nat) (x : List UInt8) (acc : List S58), x.length ≤ n → x.length ≤ 50000 → Mid acc → acc.length + x.length ≤ 100000 → Tot (fun k => span_Parse.l0 k (ts x) acc) (fun r => r = parseF n x acc) := by
  have key : ∀ (n : Nat) (x : List UInt8) (acc : List S58), x.length ≤ n + 1 → x.length ≤ 50000 → Mid acc → acc.length + x.length ≤ 100000 →
      (∀ (y : List UInt8) (acc : List S58), y.length ≤ n → y.length + 2 ≤ x.length → Mid acc → acc.length + y.length ≤ 100000 → Tot (fun k => span_Parse.l0 k (ts y) acc) (fun r => r = parseF n y acc)) →
      Tot (fun k => span_Parse.l0 k (ts x) acc) (fun r => r = parseF (n + 1) x acc) := by
    intro n x acc hn hx hm hl ih
    refine tot_succ ?_ (fun k => by rw [span_Parse.l0])
    refine tot_bind (one_cmp x hx) (fun r hr => ?_)
    have no : ∀ (a : List S58) (b l h : ByteArray) (p q : Bool), Tot (fun k => span_Parse.j1 k a b true l h p q) (fun r => r = (([] : List S58), (12 : Int))) := by
      intro a b l h p q
      refine tot_succ ?_ (fun k => by rw [span_Parse.j1])
      exact tot_guard rfl (tot_some rfl)
    cases ho : oneS x with
    | none =>
      rw [ho] at hr
      have hr2 : r.2.2.2.2.2 = false := hr
      have sp : parseF (n + 1) x acc = ([], 12) := by unfold parseF; rw [ho]
      rw [sp, hr2]
      refine tot_if (fun h => by cases h) (fun _ => no _ _ _ _ _ _)
    | some sr =>
      obtain ⟨s, rest⟩ := sr
      rw [ho] at hr
      obtain rfl : r = (s.f0, s.f1, s.f2, s.f3, ts rest, true) := hr
      have le := oneS_le x s rest ho
      dsimp only
      have sp : parseF (n + 1) x acc = if badS acc s = true then ([], 12) else match rest with
        | [] => (acc ++ [s], 0)
        | c :: y => if c = 44 then parseF n y (acc ++ [s]) else ([], 12) := by
        conv => lhs; unfold parseF
        rw [ho]
      have hm2 : Mid (acc ++ [s]) := by
        intro y hy
        rcases List.mem_append.1 hy with q | q
        · exact hm y q
        · obtain rfl := List.mem_singleton.1 q
          exact ⟨by rw [ba_size]; exact Nat.le_trans le.2.1 (by omega), by rw [ba_size]; exact Nat.le_trans le.2.2.1 (by omega)⟩
      have j : ∀ b : Bool, b = badS acc s → Tot (fun k => span_Parse.j1 k acc (ts rest) b s.f0 s.f1 s.f2 s.f3) (fun r => r = parseF (n + 1) x acc) := by
        intro b hb
        rw [sp, ← hb]
        cases b with
        | true => rw [if_pos rfl]; exact no _ _ _ _ _ _
        | false =>
          rw [if_neg (by decide)]
          refine tot_succ ?_ (fun k => by rw [span_Parse.j1])
          refine tot_if (fun h => by cases h) (fun _ => tot_guard (by omega) ?_)
          rw [ts_toList]
          simp only [Option.bind_some]
          cases rest with
          | nil => exact tot_guard rfl (tot_some rfl)
          | cons c y =>
            have l2 := le.1
            rw [List.length_cons] at l2
            rw [comma_cmp c y (by omega)]
            simp only [Option.bind_some]
            refine tot_if (fun h => by cases h) (fun _ => ?_)
            by_cases h : c = 44
            · rw [if_pos h, if_pos h]
              exact tot_guard rfl (ih y _ (by omega) (by omega) hm2 (by rw [List.length_append]; show acc.length + 1 + y.length ≤ _; omega))
            · rw [if_neg h, if_neg h]
              exact tot_if (fun h => by cases h) (fun _ => tot_some rfl)
      refine tot_guard rfl (tot_if (fun h => ?_) (fun h => ?_))
      · refine j true ?_
        unfold badS
        rw [if_pos (by omega)]
      · refine tot_if (fun g => ?_) (fun g => ?_)
        · obtain ⟨m, em⟩ : ∃ m, acc.length = m + 1 := ⟨acc.length - 1, by omega⟩
          have w : wrap64 ((acc.length : Int) - 1) = (m : Int) := by rw [em]; exact last_of m (by omega)
          rw [w]
          refine tot_guard (by omega) (tot_guard (by omega) ?_)
          rw [rd_span acc m (by omega)]
          have bd : badS acc s = !behindB (hi8 acc[m]) (lo8 s) acc[m].f3 s.f2 := by
            unfold badS
            rw [if_neg (by omega), last_at acc m em]
          have mm := hm acc[m] (List.getElem_mem _)
          obtain ⟨p, hp⟩ : ∃ p, p = acc[m] := ⟨_, rfl⟩
          rw [← hp] at bd mm ⊢
          clear hp
          obtain ⟨p0, p1, p2, p3⟩ := p
          obtain ⟨s0, s1, s2, s3⟩ := s
          obtain ⟨a0, rfl⟩ : ∃ l, p0 = ts l := ⟨_, (ts_data p0).symm⟩
          obtain ⟨a1, rfl⟩ : ∃ l, p1 = ts l := ⟨_, (ts_data p1).symm⟩
          obtain ⟨b0, rfl⟩ : ∃ l, s0 = ts l := ⟨_, (ts_data s0).symm⟩
          obtain ⟨b1, rfl⟩ : ∃ l, s1 = ts l := ⟨_, (ts_data s1).symm⟩
          dsimp only at bd mm j ⊢
          rw [ts_size, ts_size] at mm
          refine tot_bind (behind_cmp a0 a1 b0 b1 p2 p3 s2 s3 mm.2 (Nat.le_trans le.2.1 (by omega))) (fun r hr => j _ ?_)
          rw [bd, hr]
          rfl
        · refine j false ?_
          have : acc = [] := List.eq_nil_of_length_eq_zero (by omega)
          subst this
          rfl
  intro n
  induction n with
  | zero =>
    intro x acc hn hx hm hl
    obtain rfl := List.eq_nil_of_length_eq_zero (Nat.le_zero.1 hn)
    exact tot_imp (key 0 [] acc (by simp) (by simp) hm hl (fun y acc _ h => by simp at h)) (fun r hr => hr)
  | succ n ih =>
    intro x acc hn hx hm hl
    exact key n x acc hn hx hm hl (fun y acc h1 h2 h3 h4 => ih y acc h1 (by omega) h3 h4)
theorem rd_str (l : List ByteArray) (i : Nat) (h : i < l.length) : rdOf ByteArray.empty l (i : Int) = l[i] := by
  unfold rdOf
  rw [Int.toNat_natCast, List.getD_eq_getElem?_getD, List.getElem?_eq_getElem h]; rfl
theorem whole_cmp (a b : ByteArray) (ha : a.size ≤ 100000) (hb : b.size ≤ 100000) : Tot (fun k => order_whole.f k a b) (fun r => r = cmpA a.data.toList b.data.toList) := by
  have c := compare_cmp a.data.toList b.data.toList (by rw [← ba_size]; exact ha) (by rw [← ba_size]; exact hb)
  have d := cmp_told3 a.data.toList b.data.toList
  rw [ts_data, ts_data] at c d
  unfold order_whole.f
  refine tot_bind c (fun r hr => ?_)
  subst hr
  rw [d]
  simp only [Option.bind_some]
  exact tot_bind (tot_ge 4 (fun k hk => or_two _ _ k hk)) (fun r hr => tot_some hr)
def isMax (l : List ByteArray) (m : ByteArray) : Prop := m ∈ l ∧ ∀ x ∈ l, cmpA x.data.toList m.data.toList ≤ 0
theorem max_cmp (l : List ByteArray) (hl : l.length ≤ 100000) (hs : ∀ s ∈ l, s.size ≤ 100000) : ∀ (d i : Nat) (m : ByteArray), i + d = l.length → m ∈ l → (∀ x ∈ l.take i, cmpA x.data.toList m.data.toList ≤ 0) → Tot (fun k => slices_MaxFunc_string_string.l0 k l m (i : Int)) (isMax l) := by
  intro d
  induction d with
  | zero =>
    intro i m h hm ht
    refine tot_succ ?_ (fun k => by rw [slices_MaxFunc_string_string.l0])
    refine tot_if (fun g => by omega) (fun _ => tot_some ⟨hm, ?_⟩)
    rw [List.take_of_length_le (by omega)] at ht
    exact ht
  | succ d ih =>
    intro i m h hm ht
    have hi : i < l.length := by omega
    refine tot_succ ?_ (fun k => by rw [slices_MaxFunc_string_string.l0])
    rw [rd_str l i hi, next_of i (by omega)]
    refine tot_if (fun _ => tot_guard (by omega) (tot_bind (whole_cmp l[i] m (hs _ (List.getElem_mem hi)) (hs _ hm)) (fun r hr => ?_))) (fun g => by omega)
    subst hr
    refine tot_if (fun g => ih (i + 1) l[i] (by omega) (List.getElem_mem hi) ?_) (fun g => ih (i + 1) m (by omega) hm ?_)
    · intro x hx
      rw [List.take_succ_eq_append_getElem hi] at hx
      rcases List.mem_append.1 hx with q | q
      · have a := ht x q
        have b := ord_whole.anti l[i].data.toList m.data.toList
        exact ord_whole.trans _ _ _ a (by omega)
      · obtain rfl := List.mem_singleton.1 q
        have := ord_whole.self l[i].data.toList
        omega
    · intro x hx
      rw [List.take_succ_eq_append_getElem hi] at hx
      rcases List.mem_append.1 hx with q | q
      · exact ht x q
      · obtain rfl := List.mem_singleton.1 q
        omega
def GreatR (l : List ByteArray) (r : ByteArray × Bool) : Prop := (l = [] ∧ r = (ts [], false)) ∨ (r.2 = true ∧ isMax l r.1)
theorem greatest_cmp (l : List ByteArray) (hl : l.length ≤ 100000) (hs : ∀ s ∈ l, s.size ≤ 100000) : Tot (fun k => order_Greatest.f k l) (GreatR l) := by
  unfold order_Greatest.f slices_MaxFunc_string_string.f
  refine tot_if (fun h => tot_some (Or.inl ⟨List.eq_nil_of_length_eq_zero (by omega), rfl⟩)) (fun h => ?_)
  have z : 0 < l.length := by omega
  refine tot_bind (Q := isMax l) (tot_if (fun g => by omega) (fun _ => tot_guard (by omega) ?_)) (fun r hr => tot_some (Or.inr ⟨rfl, hr⟩))
  have e0 : rdOf ByteArray.empty l 0 = l[0] := rd_str l 0 z
  rw [e0]
  refine max_cmp l hl hs (l.length - 1) 1 l[0] (by omega) (List.getElem_mem z) ?_
  intro x hx
  rw [show (1 : Nat) = 0 + 1 from rfl, List.take_succ_eq_append_getElem z] at hx
  rcases List.mem_append.1 hx with q | q
  · cases q
  · obtain rfl := List.mem_singleton.1 q
    have := ord_whole.self l[0].data.toList
    omega
def held (l : List ByteArray) (r : List S58) : List ByteArray := l.filter fun v => rangeB r v.data.toList
theorem highest_cmp (l : List ByteArray) (r : List S58) (hl : l.length ≤ 100000) (hs : ∀ s ∈ l, s.size ≤ 100000) (hr : Mid r) (hn : r.length ≤ 100000) : Tot (fun k => choose_Highest.f k l r) (GreatR (held l r)) := by
  have loop : ∀ (d i : Nat), i + d = l.length → Tot (fun k => choose_Highest.l0 k l r (held (l.take i) r) (i : Int)) (GreatR (held l r)) := by
    intro d
    induction d with
    | zero =>
      intro i h
      refine tot_succ ?_ (fun k => by rw [choose_Highest.l0])
      rw [List.take_of_length_le (by omega)]
      refine tot_if (fun g => by omega) (fun _ => tot_bind (greatest_cmp (held l r) ?_ ?_) (fun x hx => tot_some hx))
      · exact Nat.le_trans (List.length_filter_le _ _) hl
      · exact fun s hs' => hs s (List.mem_filter.1 hs').1
    | succ d ih =>
      intro i h
      have hi : i < l.length := by omega
      have rc := range_cmp r l[i].data.toList hr hn (by rw [← ba_size]; exact hs _ (List.getElem_mem hi))
      rw [ts_data] at rc
      have nx := ih (i + 1) (by omega)
      have e : held (l.take (i + 1)) r = if rangeB r l[i].data.toList = true then held (l.take i) r ++ [l[i]] else held (l.take i) r := by
        unfold held
        rw [List.take_succ_eq_append_getElem hi, List.filter_append]
        by_cases q : rangeB r l[i].data.toList = true
        · rw [if_pos q]; simp [q]
        · rw [if_neg q]; simp [q]
      rw [e] at nx
      have lim : (held (l.take i) r).length < 8796093022208 := by
        have a : (held (l.take i) r).length ≤ (l.take i).length := List.length_filter_le _ _
        rw [List.length_take] at a
        omega
      refine tot_succ ?_ (fun k => by rw [choose_Highest.l0])
      rw [rd_str l i hi, next_of i (by omega)]
      refine tot_if (fun _ => tot_guard (by omega) (tot_bind rc (fun x hx => ?_))) (fun g => by omega)
      subst hx
      refine tot_if (fun q => tot_guard lim ?_) (fun q => ?_)
      · rw [if_pos q] at nx; exact nx
      · rw [if_neg q] at nx; exact nx
  unfold choose_Highest.f
  exact loop l.length 0 (by omega)
theorem parseF_mid : ∀ (n : Nat) (x : List UInt8) (acc : List S58), x.length ≤ 50000 → Mid acc → acc.length + x.length ≤ 100000 → Mid (parseF n x acc).1 ∧ (parseF n x acc).1.length ≤ 100000 ∧ ((parseF n x acc).2 = 0 ∨ (parseF n x acc).2 = 12)
  | 0, x, acc, _, _, _ => ⟨(fun s hs => by cases hs), by simp [parseF], Or.inr rfl⟩
  | n + 1, x, acc, hx, hm, hl => by
    have no : Mid (([] : List S58), (12 : Int)).1 ∧ (([] : List S58), (12 : Int)).1.length ≤ 100000 ∧ ((([] : List S58), (12 : Int)).2 = 0 ∨ (([] : List S58), (12 : Int)).2 = 12) := ⟨(fun s hs => by cases hs), by simp, Or.inr rfl⟩
    cases ho : oneS x with
    | none =>
      have sp : parseF (n + 1) x acc = ([], 12) := by unfold parseF; rw [ho]
      rw [sp]; exact no
    | some sr =>
      obtain ⟨s, rest⟩ := sr
      have le := oneS_le x s rest ho
      have hm2 : Mid (acc ++ [s]) := by
        intro y hy
        rcases List.mem_append.1 hy with q | q
        · exact hm y q
        · obtain rfl := List.mem_singleton.1 q
          exact ⟨by rw [ba_size]; exact Nat.le_trans le.2.1 (by omega), by rw [ba_size]; exact Nat.le_trans le.2.2.1 (by omega)⟩
      have sp : parseF (n + 1) x acc = if badS acc s = true then ([], 12) else match rest with
        | [] => (acc ++ [s], 0)
        | c :: y => if c = 44 then parseF n y (acc ++ [s]) else ([], 12) := by
        conv => lhs; unfold parseF
        rw [ho]
        try rfl
      rw [sp]
      by_cases b : badS acc s = true
      · rw [if_pos b]; exact no
      · rw [if_neg b]
        have len : (acc ++ [s]).length = acc.length + 1 := by simp
        cases rest with
        | nil => exact ⟨hm2, by show (acc ++ [s]).length ≤ _; omega, Or.inl rfl⟩
        | cons c y =>
          have l2 := le.1
          rw [List.length_cons] at l2
          dsimp only
          by_cases h : c = 44
          · rw [if_pos h]
            exact parseF_mid n y (acc ++ [s]) (by omega) hm2 (by omega)
          · rw [if_neg h]; exact no
def opens (w : List UInt8) : Bool := match w with
  | [] => false
  | o :: _ => isOp o
theorem is_cmp (w : List UInt8) : span_Is.f (ts w) = some (opens w) := by
  cases w with
  | nil => exact is_nil2
  | cons o l => exact is_op o l
def ranges (w : List UInt8) : List S58 × Int := parseF w.length w []
def PickR (l : List ByteArray) (w : List UInt8) (r : ByteArray × Int) : Prop :=
  if opens w = true then (if (ranges w).2 = 0 then (held l (ranges w).1 = [] ∧ r = (ts [], 13)) ∨ (r.2 = 0 ∧ isMax (held l (ranges w).1) r.1) else r = (ts [], (ranges w).2))
  else if rightB w = true then r = (ts w, 0) else r = (ts [], 11)
theorem pick_cmp (l : List ByteArray) (w : List UInt8) (hl : l.length ≤ 100000) (hs : ∀ s ∈ l, s.size ≤ 100000) (hw : w.length ≤ 50000) : Tot (fun k => choose_Pick.f k l (ts w)) (PickR l w) := by
  unfold choose_Pick.f span_Parse.f
  rw [is_cmp]
  simp only [Option.bind_some]
  unfold PickR
  refine tot_if (fun h => ?_) (fun h => ?_)
  · simp only [if_pos h]
    have m := parseF_mid w.length w [] hw (fun s hs => by cases hs) (by simp; omega)
    refine tot_bind (parse_cmp w.length w [] (Nat.le_refl _) hw (fun s hs => by cases hs) (by simp; omega)) (fun r hr => ?_)
    subst hr
    show Tot _ (fun r => if (parseF w.length w []).2 = 0 then _ else _)
    refine tot_if (fun g => ?_) (fun g => tot_some ?_)
    · simp only [if_pos g]
      refine tot_bind (highest_cmp l _ hl hs m.1 m.2.1) (fun x hx => ?_)
      rcases hx with ⟨h1, rfl⟩ | ⟨h1, h2⟩
      · exact tot_if (fun h => by cases h) (fun _ => tot_some (Or.inl ⟨h1, rfl⟩))
      · exact tot_guard h1 (tot_some (Or.inr ⟨rfl, h2⟩))
    · simp only [if_neg g]; rfl
  · simp only [if_neg h]
    refine tot_bind (tot_ge 101 (fun k hk => right_told (ts w) k hk)) (fun r hr => ?_)
    subst hr
    rw [ts_list]
    exact tot_if (fun g => tot_some (by rw [if_pos g])) (fun g => tot_some (by rw [if_neg g]; rfl))
def sgn (x y : Nat) : Int := if x < y then -1 else if x = y then 0 else 1
theorem table : (List.range 112).all (fun x => x == 0 || (List.range 112).all (fun y => y == 0 || cmpL (dig x) (dig y) == sgn x y)) = true := by kernel_rfl
theorem cmp_dig (x y : Nat) (hx : 1 ≤ x) (hy : 1 ≤ y) (lx : x < 112) (ly : y < 112) : cmpL (dig x) (dig y) = sgn x y := by
  have a := List.all_eq_true.1 table x (by simp; omega)
  rw [show (x == 0) = false from by simp; omega, Bool.false_or] at a
  have b := List.all_eq_true.1 a y (by simp; omega)
  rw [show (y == 0) = false from by simp; omega, Bool.false_or] at b
  exact beq_iff_eq.1 b
theorem awake8_60m : newellaw08_awake.f 60 = some true := by kernel_rfl
theorem awake8m : Tot (fun k => newellaw08_awake.f k) (fun r => r = true) := tot_lift (fun k => newellaw08_awake.mono _) awake8_60m rfl
theorem cmpV_dig (x y : Nat) (hx : 1 ≤ x) (hy : 1 ≤ y) (lx : x < 112) (ly : y < 112) : cmpV (dig x) (dig y) = sgn x y := by
  have dx := dig_told x hx (by omega)
  have dy := dig_told y hy (by omega)
  obtain ⟨k, r, hr, h⟩ := tot_get (compare_cmp (dig x) (dig y) (by omega) (by omega))
  have a := h (k + 4000) (by omega)
  rw [cmp_told (dig x) (dig y) dx.2.1 dy.2.1 (by omega) (by omega) _ (by omega), cmp_dig x y hx hy lx ly] at a
  rw [← hr]
  exact (Option.some.inj a).symm
def isDig (s : ByteArray) : Prop := ∃ n : Nat, 1 ≤ n ∧ n ≤ 50 ∧ s = ts (dig n)
theorem isDig_size (s : ByteArray) (h : isDig s) : s.size ≤ 4 := by
  obtain ⟨n, h1, h2, rfl⟩ := h
  rw [ts_size]; exact (dig_told n h1 (by omega)).2.2
theorem num_dig (x : Int) : ∃ n : Nat, 1 ≤ n ∧ n ≤ 50 ∧ ∀ k, 4 ≤ k → newelhelp_Digits.f k (wrap64 (1 + (wrap64 (Int.tmod (IntKind.u64.wrap x) 50)))) = some (ts (dig n)) := by
  obtain ⟨n, hn, e⟩ := umod x 50 (by omega)
  refine ⟨n + 1, by omega, by omega, fun k hk => ?_⟩
  rw [show (50 : Int) = ((50 : Nat) : Int) from rfl, e, show wrap64 (1 + (n : Int)) = ((n + 1 : Nat) : Int) by unfold wrap64; omega]
  exact (dig_told (n + 1) (by omega) (by omega)).1 k hk
theorem no_close (d : List UInt8) (h : ∀ x ∈ d, x ≠ 93 ∧ x ≠ 41) (r : List UInt8) : inn (d ++ 44 :: 41 :: r) = d ++ [44] ∧ outt (d ++ 44 :: 41 :: r) = 41 :: r := by
  have p : ∀ x ∈ d ++ [44], (!clB x) = true := by
    intro x hx
    rcases List.mem_append.1 hx with q | q
    · have := h x q
      unfold clB
      simp [this.1, this.2]
    · obtain rfl := List.mem_singleton.1 q; rfl
  have e : d ++ 44 :: 41 :: r = (d ++ [44]) ++ 41 :: r := by simp
  unfold inn outt
  rw [e, List.takeWhile_append_of_pos p, List.dropWhile_append_of_pos p]
  exact ⟨by simp [clB], by simp [clB]⟩
theorem ranges_up (n : Nat) (h1 : 1 ≤ n) (h2 : n ≤ 50) : opens (91 :: (dig n ++ [44, 41])) = true ∧ ranges (91 :: (dig n ++ [44, 41])) = ([⟨ts (dig n), ts [], true, false⟩], 0) := by
  have dn := dig_told n h1 (by omega)
  have nc : ∀ c : UInt8, isD c = false → ∀ x ∈ dig n, x ≠ c := fun c hc => dig_ne (dig n) dn.2.1 c hc
  refine ⟨rfl, ?_⟩
  have io := no_close (dig n) (fun x hx => ⟨nc 93 rfl x hx, nc 41 rfl x hx⟩) []
  have cut : Lib.cut (dig n ++ [44]) [44] = (dig n, [], true) := cut_there (dig n) [] [] 44 (nc 44 rfl)
  have tr : trimS (dig n) = dig n := trim_plain (dig n) 32 (nc 32 rfl)
  have sp : spanS 91 41 (dig n ++ [44]) = some ⟨ts (dig n), ts [], true, false⟩ := by
    unfold spanS
    rw [cut, if_pos rfl]
    show some (⟨ts (trimS (dig n)), ts (trimS []), true, false⟩ : S58) = _
    rw [tr]; rfl
  have ri : rightB (dig n) = true := by
    have a := right_dig (dig n) dn.2.1 (by omega) 101 (Nat.le_refl _)
    rw [right_told _ 101 (Nat.le_refl _), ts_list] at a
    exact Option.some.inj a
  have my : mayS ⟨ts (dig n), ts [], true, false⟩ = true := by
    show mayB (dig n) [] true false = true
    have ne := (numD_all _ dn.2.1).1
    simp [mayB, boundB, ri, ne, right_nil]
  have one : oneS (91 :: (dig n ++ [44, 41])) = some (⟨ts (dig n), ts [], true, false⟩, []) := by
    rw [oneS_cons, if_pos (show isOp 91 = true from rfl), io.2, io.1]
    dsimp only
    rw [sp]
    show (if mayS ⟨ts (dig n), ts [], true, false⟩ = true then some ((⟨ts (dig n), ts [], true, false⟩ : S58), ([] : List UInt8)) else none) = _
    rw [if_pos my]
  unfold ranges
  show parseF ((dig n ++ [44, 41]).length + 1) _ _ = _
  unfold parseF
  rw [one]
  rfl
theorem pick_up (l : List ByteArray) (n : Nat) (h1 : 1 ≤ n) (h2 : n ≤ 50) (hl : l.length ≤ 100000) (hd : ∀ s ∈ l, isDig s) : Tot (fun k => choose_Pick.f k l (ts (91 :: (dig n ++ [44, 41])))) (fun r => (held l [⟨ts (dig n), ts [], true, false⟩] = [] ∧ r = (ts [], 13)) ∨ (r.2 = 0 ∧ isMax (held l [⟨ts (dig n), ts [], true, false⟩]) r.1)) := by
  have ru := ranges_up n h1 h2
  have dn := dig_told n h1 (by omega)
  refine tot_imp (pick_cmp l (91 :: (dig n ++ [44, 41])) hl (fun s hs => Nat.le_trans (isDig_size s (hd s hs)) (by omega)) (by simp; omega)) (fun r hr => ?_)
  unfold PickR at hr
  rw [if_pos ru.1, ru.2, if_pos rfl] at hr
  exact hr
theorem held_app (l m : List ByteArray) (r : List S58) : held (l ++ m) r = held l r ++ held m r := by unfold held; rw [List.filter_append]
theorem cmpV_leA (a b : List UInt8) (h : cmpA a b ≤ 0) : cmpV a b ≤ 0 := by
  unfold cmpA at h
  by_cases z : cmpV a b = 0
  · omega
  · rw [if_neg z] at h; exact h
theorem end_more (v : List ByteArray) (n : Nat) (h1 : 1 ≤ n) (h2 : n ≤ 50) (hl : v.length ≤ 20) (hd : ∀ s ∈ v, isDig s) (a b : ByteArray) (ha : isMax (held v [⟨ts (dig n), ts [], true, false⟩]) a) (m : List ByteArray) (hb : isMax (held (v ++ m) [⟨ts (dig n), ts [], true, false⟩]) b) (hm : ∀ s ∈ v ++ m, isDig s) :
    ∀ (d i : Nat) (acc : List ByteArray), i + d = v.length → acc.length ≤ i → (∀ s ∈ acc, s ∈ v ∧ s ≠ a) → Tot (fun k => newellaw08_ChooseMore.l1 k v (ts (91 :: (dig n ++ [44, 41]))) a b 0 acc (i : Int)) (fun r => r = true) := by
  have ma := List.mem_filter.1 ha.1
  have mb := List.mem_filter.1 hb.1
  have da := hd a ma.1
  have db := hm b mb.1
  have sa := isDig_size a da
  have sb := isDig_size b db
  have za := ba_size a
  have zb := ba_size b
  intro d
  induction d with
  | zero =>
    intro i acc h hc hacc
    refine tot_succ ?_ (fun k => by rw [newellaw08_ChooseMore.l1])
    refine tot_if (fun g => by omega) (fun _ => ?_)
    refine tot_bind (pick_up acc n h1 h2 (by omega) (fun s hs => hd s (hacc s hs).1)) (fun r hr => tot_guard rfl ?_)
    have cb := ref_compare_cmp b.data.toList a.data.toList (by omega) (by omega)
    rw [ts_data, ts_data] at cb
    have leab : cmpV a.data.toList b.data.toList ≤ 0 := cmpV_leA _ _ (hb.2 a (by rw [held_app]; exact List.mem_append_left _ ha.1))
    have an := ord_vers.anti a.data.toList b.data.toList
    refine tot_bind cb (fun c hc => ?_)
    subst hc
    refine tot_guard (by omega) ?_
    rcases hr with ⟨_, rfl⟩ | ⟨hr, hx⟩
    · exact tot_guard rfl (tot_some rfl)
    · rw [hr]
      refine tot_if (fun h => absurd h (by decide)) (fun _ => tot_guard rfl ?_)
      have mc := List.mem_filter.1 hx.1
      have inv := hacc r.1 mc.1
      have dc := hd r.1 inv.1
      have sc := isDig_size r.1 dc
      have zc := ba_size r.1
      have cc := ref_compare_cmp r.1.data.toList a.data.toList (by omega) (by omega)
      rw [ts_data, ts_data] at cc
      refine tot_bind cc (fun c hc => tot_some ?_)
      subst hc
      have hmem : r.1 ∈ held v [⟨ts (dig n), ts [], true, false⟩] := by unfold held; rw [List.mem_filter]; exact ⟨inv.1, mc.2⟩
      have le := cmpV_leA _ _ (ha.2 _ hmem)
      have ne : cmpV r.1.data.toList a.data.toList ≠ 0 := by
        intro z
        obtain ⟨x, x1, x2, ex⟩ := dc
        obtain ⟨y, y1, y2, ey⟩ := da
        rw [ex, ey, ts_list, ts_list, cmpV_dig x y x1 y1 (by omega) (by omega)] at z
        unfold sgn at z
        have : x = y := by
          by_cases p : x < y
          · rw [if_pos p] at z; omega
          · rw [if_neg p] at z
            by_cases q : x = y
            · exact q
            · rw [if_neg q] at z; omega
        rw [this, ← ey] at ex
        exact inv.2 ex
      exact decide_eq_true (by omega)
  | succ d ih =>
    intro i acc h hc hacc
    have hi : i < v.length := by omega
    refine tot_succ ?_ (fun k => by rw [newellaw08_ChooseMore.l1])
    rw [rd_str v i hi, next_of i (by omega)]
    refine tot_if (fun _ => tot_guard (by omega) (tot_if (fun _ => ih (i + 1) acc (by omega) (by omega) hacc) (fun ne => tot_guard (by omega) ?_))) (fun g => by omega)
    refine ih (i + 1) _ (by omega) (by simp; omega) (fun s hs => ?_)
    rcases List.mem_append.1 hs with q | q
    · exact hacc s q
    · obtain rfl := List.mem_singleton.1 q
      exact ⟨List.getElem_mem hi, fun e => ne (by rw [e])⟩
theorem j1_more (v : List ByteArray) (x1 x2 : Int) (hl : v.length ≤ 20) (hd : ∀ s ∈ v, isDig s) : Tot (fun k => newellaw08_ChooseMore.j1 k x1 x2 v) (fun r => r = true) := by
  obtain ⟨n, n1, n2, hn⟩ := num_dig x2
  obtain ⟨m, m1, m2, hm⟩ := num_dig x1
  have dn := dig_told n n1 (by omega)
  refine tot_succ ?_ (fun k => by rw [newellaw08_ChooseMore.j1])
  refine tot_bind (tot_ge 4 hn) (fun t ht => ?_)
  subst ht
  have e1 : ((⟨#[91]⟩ : ByteArray) ++ ts (dig n)) ++ (⟨#[44, 41]⟩ : ByteArray) = ts (91 :: (dig n ++ [44, 41])) := by
    rw [show (⟨#[91]⟩ : ByteArray) = ts [91] from rfl, show (⟨#[44, 41]⟩ : ByteArray) = ts [44, 41] from rfl, ts_append, ts_append]; simp
  have q1 : 1 + (ts (dig n)).size ≤ 9223372036854775807 := by rw [ts_size]; omega
  have q2 : ((⟨#[91]⟩ : ByteArray) ++ ts (dig n)).size + 2 ≤ 9223372036854775807 := by
    rw [show (⟨#[91]⟩ : ByteArray) = ts [91] from rfl, ts_append, ts_size]; simp; omega
  refine tot_guard q1 (tot_guard q2 ?_)
  rw [e1]
  refine tot_bind (pick_up v n n1 n2 (by omega) hd) (fun r hr => tot_guard (by simp; omega) ?_)
  rw [List.nil_append]
  simp only [Option.bind_some]
  refine tot_bind (tot_ge 4 hm) (fun t ht => ?_)
  subst ht
  have hv2 : ∀ s ∈ v ++ [ts (dig m)], isDig s := by
    intro s hs
    rcases List.mem_append.1 hs with q | q
    · exact hd s q
    · obtain rfl := List.mem_singleton.1 q; exact ⟨m, m1, m2, rfl⟩
  refine tot_guard (by omega) (tot_bind (pick_up (v ++ [ts (dig m)]) n n1 n2 (by simp; omega) hv2) (fun s hs => tot_bind awake8m (fun w hw => tot_guard hw ?_)))
  refine tot_succ ?_ (fun k => by rw [newellaw08_ChooseMore.j2])
  rcases hr with ⟨h0, rfl⟩ | ⟨h0, hx⟩
  · refine tot_guard rfl (tot_bind awake8m (fun w hw => tot_guard hw (tot_guard rfl ?_)))
    rcases hs with ⟨_, rfl⟩ | ⟨g0, _⟩
    · exact tot_if (fun h => absurd h (by decide)) (fun _ => tot_some rfl)
    · exact tot_guard g0 (tot_some rfl)
  · rw [h0]
    refine tot_if (fun h => by cases h) (fun _ => ?_)
    rcases hs with ⟨g0, _⟩ | ⟨g0, gx⟩
    · exfalso
      rw [held_app] at g0
      have := hx.1
      rw [(List.append_eq_nil_iff.1 g0).1] at this
      cases this
    · rw [g0]
      exact end_more v n n1 n2 hl hd r.1 s.1 hx [ts (dig m)] gx hv2 v.length 0 [] (by omega) (by simp) (fun s hs => by cases hs)
theorem ChooseMore : newellaw08_ChooseMore.Pure := by
  intro l0 a1 a2 hl h1 h2
  have loop : ∀ (d i : Nat) (v : List ByteArray), i + d = 20 → v.length = i → (∀ s ∈ v, isDig s) → Tot (fun k => newellaw08_ChooseMore.l0 k l0 a1 a2 v (i : Int)) (fun r => r = true) := by
    intro d
    induction d with
    | zero =>
      intro i v h hv hd
      refine tot_succ ?_ (fun k => by rw [newellaw08_ChooseMore.l0])
      exact tot_if (fun _ => tot_if (fun g => by omega) (fun _ => j1_more v a1 a2 (by omega) hd)) (fun _ => j1_more v a1 a2 (by omega) hd)
    | succ d ih =>
      intro i v h hv hd
      obtain ⟨n, n1, n2, hn⟩ := num_dig (rd l0 (i : Int))
      refine tot_succ ?_ (fun k => by rw [newellaw08_ChooseMore.l0])
      refine tot_if (fun _ => tot_if (fun _ => tot_guard (by omega) (tot_bind (tot_ge 4 hn) (fun t ht => tot_guard (by omega) ?_))) (fun _ => j1_more v a1 a2 (by omega) hd)) (fun _ => j1_more v a1 a2 (by omega) hd)
      subst ht
      rw [next_of i (by omega)]
      refine ih (i + 1) _ (by omega) (by simp; omega) (fun s hs => ?_)
      rcases List.mem_append.1 hs with q | q
      · exact hd s q
      · obtain rfl := List.mem_singleton.1 q; exact ⟨n, n1, n2, rfl⟩
  have key : Tot (fun k => newellaw08_ChooseMore.f k l0 a1 a2) (fun r => r = true) := by
    unfold newellaw08_ChooseMore.f
    exact loop 20 0 [] (by omega) rfl (fun s hs => by cases hs)
  obtain ⟨k, r, hr, h⟩ := tot_get key
  exact ⟨k, by rw [h k (Nat.le_refl _), hr]⟩
end Go.Proofs.YtgdjfcmmpjcaaaaDoor.Pure
