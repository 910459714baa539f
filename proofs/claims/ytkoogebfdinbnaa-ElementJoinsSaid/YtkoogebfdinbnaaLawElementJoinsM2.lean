/- Texts put together: what functions of the program compute, and plain words about them. -/
import Derived.Test.YtkoogebfdinbnaaLawElementJoinsM1
import Derived.Test.YtkoogebfdinbnaaProg
import Derived.Lib.IndexMore
import Derived.Lib.Strings
import Derived.Below
import Derived.Deep.Draws
import Derived.Deep.AppendLies
import Derived.Maps.AppendAt
import Derived.OwnWalk
import Derived.Laws.BytesArg
import Derived.Laws.MakeOwn
import Derived.Laws.OwnMore
import Derived.Deep.OwnRows
import Derived.Tactics
import Derived.Lib.ConvBytes
import Derived.Laws.Slices
import Derived.WalkKit
import Derived.KernelRfl
import Derived.RowKit3
import Derived.Deep.LoopGhost
import Derived.Deep.QuietTactic
import Derived.BigQuiet
import Derived.WideLaws
import Derived.Deep.DeepCutAuto
import Derived.Deep.CutBlock
import Derived.Deep.RegionHeld3
import Derived.Laws.Rows
import Derived.Lib.AppendStr
import Derived.ArgAppend
import Derived.Laws.IdiomCopy
import Derived.OrdersHeld
import Derived.Laws.BitsLemmas
import Derived.RowKit
import Derived.Maps.OwnSet
import Derived.Deep.RegionLaw
import Derived.Lib.Hide
import Derived.StillTailTactics
import Derived.Outline
import Derived.Shelf.Strings.Builder1
import Derived.Shelf.Small.Strs
import Derived.Shelf.Small.Wraps
import Derived.Shelf.Strings.BuilderF
import Derived.Shelf.Strings.BuilderK
import Derived.Shelf.Strings.Search1
import Derived.Shelf.Strings.Search2
import Derived.Shelf.Strings.Search3
import Derived.Shelf.Strings.Cut
import Derived.Shelf.LaysM
import Derived.Shelf.Strings.Shaped
import Derived.Shelf.Strings.Prefix
import Derived.Shelf.Strings.BuilderCap
import Derived.Lib.Builder
import Derived.Lib.UnsafeStr
import Derived.Lib.Walk
import Derived.Laws.Externs
import Derived.Laws.Runes

-- Printed by this session's wip/np.py over the kit's print program. Not trusted: Lean checks it.
namespace Go.Proofs.Ytkoogebfdinbnaa.Q
open Go.RowKit Go.Proofs.YtkoogebfdinbnaaW.PrintWords Go.Proofs.YtkoogebfdinbnaaW.PrintLast Go.Proofs.YtkoogebfdinbnaaW.Own Go.Proofs.YtkoogebfdinbnaaW.PrintMore
attribute [local go_sem] max2_int min2_int max_two min_two max_three min_three max_four min_four
set_option linter.unusedVariables false
set_option linter.unusedSimpArgs false

/-! ### element_Kids: function 11 -/
def element_Kids.l0 : Nat → List (S29) → Int → List Int → List (S29) → Int → Int → Option (List Int)
 | 0, _, _, _, _, _, _ => none
 | k + 1, x0, x1, x5, x8, x9, x10 => if x10 < x9 then (if 0 ≤ x10 then (if x10 < (x8.length : Int) then (if ((rd_T29 x8 x10).f0) = x1 then (if x1 ≥ 0 then (if x1 < (x0.length : Int) then (if x5.length < 17592186044416 then (element_Kids.l0 k x0 x1 (x5 ++ [x10]) x8 x9 (wrap64 (x10 + 1))) else (none)) else (element_Kids.l0 k x0 x1 x5 x8 x9 (wrap64 (x10 + 1)))) else (element_Kids.l0 k x0 x1 x5 x8 x9 (wrap64 (x10 + 1)))) else (element_Kids.l0 k x0 x1 x5 x8 x9 (wrap64 (x10 + 1)))) else (none)) else (none)) else (some x5)
def element_Kids.f (k : Nat) (l0 : List (S29)) (a1 : Int) : Option (List Int) := element_Kids.l0 k l0 a1 ([] : List Int) l0 (l0.length : Int) 0
theorem element_Kids.mono_l : ∀ k, (∀ y0 y1 y2 y3 y4 y5, LeO (element_Kids.l0 k y0 y1 y2 y3 y4 y5) (element_Kids.l0 (k + 1) y0 y1 y2 y3 y4 y5))
 | 0 => fun _ _ _ _ _ _ r h => by simp [element_Kids.l0] at h
 | k + 1 => by
  have ih0 := element_Kids.mono_l k
  ·intro y0 y1 y2 y3 y4 y5
   unfold element_Kids.l0
   repeat' first
   | (with_reducible exact ih0 _ _ _ _ _ _)
   | (with_reducible exact LeO.refl _)
   | (with_reducible exact LeO.none _)
   | (with_reducible refine LeO.ite ?_ ?_)
   | (with_reducible refine LeO.bind ?_ (fun _ => ?_))
   | exact ih0 _ _ _ _ _ _
   | exact LeO.none _
   | refine LeO.ite ?_ ?_
   | refine LeO.bind ?_ (fun _ => ?_)
theorem element_Kids.mono : ∀ a0 a1 k, LeO (element_Kids.f k a0 a1) (element_Kids.f (k + 1) a0 a1) := by
 intro a0 a1 k
 have ih0 := element_Kids.mono_l k
 unfold element_Kids.f
 repeat' first
  | (with_reducible exact ih0 _ _ _ _ _ _)
  | (with_reducible exact LeO.refl _)
  | (with_reducible exact LeO.none _)
  | (with_reducible refine LeO.ite ?_ ?_)
  | (with_reducible refine LeO.bind ?_ (fun _ => ?_))
  | exact ih0 _ _ _ _ _ _
  | exact LeO.none _
  | refine LeO.ite ?_ ?_
  | refine LeO.bind ?_ (fun _ => ?_)
set_option maxHeartbeats 8000000 in
set_option maxRecDepth 100000 in
theorem element_Kids.calls (k : Nat) (A0 : Option Addr) (c0 : Nat) (l0 : List (S29)) (a1 : Int) (r : List Int) (w : World) (hr0 : Kd.C k29 w A0 l0.length l0) (hc0 : l0.length ≤ c0) (hG : Glob w) (h : element_Kids.f k l0 a1 = some r) :
 Calls Try.prog 11 #[.slice A0 l0.length c0, .int .i64 a1] w fun e w' => ∃ v0_ : Value, e = .returned (v0_) ∧ Kd.R (Kd.int .i64) 3 w' w.heap.size (fun _ => True) v0_ r ∧ Below w.heap.size w w' := by
 have hu29 := Try.underlying29
 have HG := Aside0.mk hG
 clear hG
 have HR0 := Aside0.mk hr0
 have HC0 := Aside0.mk hc0
 clear hr0 hc0
 have HB := Aside0.mk (Below.refl w.heap.size w)
 have H : (element_Kids.l0 k l0 a1 ([] : List Int) l0 (l0.length : Int) 0) = some r := h
 clear h
 have H' := Aside0.mk H
 clear H
 go_enter Try.func11, Try.ntmps11
 go_wp2
 go_loopg [5, 10] k (fun kq v5 v10 w' => ∃ (x5_1 : List Int) (x10_1 : Int), v10 = .int .i64 x10_1 ∧ Aside0 (element_Kids.l0 kq l0 a1 x5_1 l0 (l0.length : Int) x10_1 = some r) ∧ Aside0 (kq ≤ k) ∧ Aside0 (Kd.R (Kd.int .i64) 3 w' w.heap.size (fun _ => True) v5 x5_1) ∧ Aside0 (Below w.heap.size w w'))
 case atStart => exact ⟨(([] : List Int)), (0), (by first | rfl | (simp; done) | (simp [*]; done) | (simp; exact isEmpty_bne _)), H', ⟨Nat.le_refl _⟩, ⟨by first | exact Kd.R_nil _ _ _ _ _ | exact Kd.N_nil _ _ _ _ _ | exact Kd.V_nil _ _ _ _ _ | exact Kd.Q_nil _ _ _ _ _ | exact Kd.S_nil _ _ _ _ _⟩, ⟨by repeat (first | (with_reducible first | exact HB.out | apply below_alloc | apply pw_below_drewN | apply below_drew1) | exact HB.out)⟩⟩
 case round =>
  clear H'
  try clear c1
  try clear p2
  obtain ⟨x5_1, x10_1, rfl, HA, HK1, HO_5, HB⟩ := hrel
  cases gk with
  | zero => exact absurd HA.out (by simp [element_Kids.l0])
  | succ k1 =>
   have H := HA.out
   clear HA
   simp only [element_Kids.l0] at H
   by_cases c3 : x10_1 < (l0.length : Int)
   ·rw [if_pos c3] at H
    have c3b0 : decide (x10_1 < (l0.length : Int)) = true := decide_eq_true c3
    clear c3
    by_cases c4 : 0 ≤ x10_1
    ·rw [if_pos c4] at H
     have c4b0 : decide (0 ≤ x10_1) = true := decide_eq_true c4
     clear c4
     by_cases c5 : x10_1 < (l0.length : Int)
     ·rw [if_pos c5] at H
      have c5b0 : decide (x10_1 < (l0.length : Int)) = true := decide_eq_true c5
      clear c5
      by_cases c6 : ((rd_T29 l0 x10_1).f0) = a1
      ·rw [if_pos c6] at H
       have c6b0 : (((rd_T29 l0 x10_1).f0) == a1) = true := beq_iff_eq.mpr c6
       have c6b1 : (((rd_T29 l0 x10_1).f0) != a1) = false := bne_eq_false_iff_eq.mpr c6
       clear c6
       by_cases c7 : a1 ≥ 0
       ·rw [if_pos c7] at H
        have c7b0 : decide (0 ≤ a1) = true := decide_eq_true c7
        clear c7
        by_cases c8 : a1 < (l0.length : Int)
        ·rw [if_pos c8] at H
         have c8b0 : decide (a1 < (l0.length : Int)) = true := decide_eq_true c8
         clear c8
         by_cases c9 : x5_1.length < 17592186044416
         ·rw [if_pos c9] at H
          have LMc9 := Aside0.mk c9
          clear c9
          obtain ⟨y124, hy124⟩ : ∃ y_ : List Int, y_ = (x5_1 ++ [x10_1]) := ⟨_, rfl⟩
          replace H : (element_Kids.l0 k1 l0 a1 y124 l0 (l0.length : Int) (wrap64 (x10_1 + 1))) = some r := by first | (rw [hy124]; with_reducible exact H) | (have H2_ := (Option.bind_some _ _).symm.trans H; rw [hy124]; with_reducible exact H2_) | (have H2_ := (Option.bind_some _ _).symm.trans H; with_reducible exact H2_) | with_reducible exact H | (rw [hy124]; exact H) | exact H
          have Ny124 := Aside0.mk hy124
          clear hy124
          have H' := Aside0.mk H
          clear H
          have p122 : 0 ≤ (x10_1 : Int) := of_decide_eq_true (by first | (with_reducible assumption) | assumption)
          have q122 : x10_1 < (l0.length : Int) := of_decide_eq_true (by first | (with_reducible assumption) | assumption)
          obtain ⟨ad122, A122_3, c122_3, e122, hx122_0, hx122_1, hx122_2, hx122_3, hl122_3, hi122_3⟩ := at_T29 HR0.out x10_1 p122 q122
          cases e122
          replace hx122_0 := (HB.out.cell (World.block_lt_of_cell? w _ hx122_0)).trans hx122_0
          replace hx122_1 := (HB.out.cell (World.block_lt_of_cell? w _ hx122_1)).trans hx122_1
          replace hx122_2 := (HB.out.cell (World.block_lt_of_cell? w _ hx122_2)).trans hx122_2
          replace hx122_3 := (HB.out.cell (World.block_lt_of_cell? w _ hx122_3)).trans hx122_3
          have HR122_3 := Aside0.mk hi122_3
          have HC122_3 := Aside0.mk hl122_3
          clear hi122_3 hl122_3
          replace p122 := eq_true p122
          replace q122 := eq_true q122
          go_wp2_with (first | ((with_reducible refine gate_dst (N := 7) rfl ?_); (try (refine gate_guard (by rfl) ?_; dsimp only)); refine box_event ?hg (N := 7) ?hd (cs := #[.int .i64 0, .string (⟨#[]⟩ : ByteArray), .string (⟨#[]⟩ : ByteArray), .slice none 0 0]) (t := 29) ?hr ?_; (case hd => rfl); (case hg => rfl); (case hr => first | (go_simp; done) | (go_simp; rfl)); intro gb123 hg w10 hbox hb; have n0_ := Aside0.mk (Kd.R_below (by (with_reducible repeat (first | apply Kd.R_alloc | apply Kd.R_drewN | apply Kd.R_drew)); exact HO_5.out) hb); have n1_ := Aside0.mk (below_step (by repeat (first | (with_reducible first | exact HB.out | apply below_alloc | apply pw_below_drewN | apply below_drew1) | exact HB.out)) hb); have n2_ := Aside0.mk (hbox); have n3_ := Aside0.mk ((by rw [hg]; exact (below_size (by repeat (first | (with_reducible first | exact HB.out | apply below_alloc | apply pw_below_drewN | apply below_drew1) | exact HB.out))) : w.heap.size ≤ gb123)); have n4_ := Aside0.mk ((by rw [hg]; exact (below_size (by repeat (first | (with_reducible first | exact HB.out | apply below_alloc | apply pw_below_drewN | apply below_drew1) | exact HB.out))) : w.heap.size ≤ gb123)); clear HO_5; clear HB; have HO_5 := n0_; have HB := n1_; have BK123 := n2_; have GW123 := n3_; have GE123 := n4_; clear n0_ n1_ n2_ n3_ n4_; clear hb hbox hg; have hcz11_0 : w10.cell? ⟨gb123, 0, none⟩ = some (.int .i64 0) := (blk_cell BK123.out 0).trans rfl; have hcz11_1 : w10.cell? ⟨gb123, 1, none⟩ = some (.string (⟨#[]⟩ : ByteArray)) := (blk_cell BK123.out 1).trans rfl; have hcz11_2 : w10.cell? ⟨gb123, 2, none⟩ = some (.string (⟨#[]⟩ : ByteArray)) := (blk_cell BK123.out 2).trans rfl; have hcz11_3 : w10.cell? ⟨gb123, 3, none⟩ = some (.slice none 0 0) := (blk_cell BK123.out 3).trans rfl; have hfz11_0 := blk_frozen BK123.out 0; have hfz11_1 := blk_frozen BK123.out 1; have hfz11_2 := blk_frozen BK123.out 2; have hfz11_3 := blk_frozen BK123.out 3) | ((with_reducible refine gate_builtin (b := .append) (xs := #[.tmp 29, .tmp 31]) rfl ?_); (try (refine gate_guard (by rfl) ?_; dsimp only)); at_builtin; refine Kd.R_append (Kd.int .i64) (w0 := w) w.heap.size rfl (.tmp 29) (.tmp 31) 34 3 (.int .i64 0) 8 rfl Try.underlying34 info3 rfl (by decide) (by omega) u5 x5_1 x10_1 [.int .i64 x10_1] (fun _ => True) (fun _ => False) rfl (by first | (go_simp; done) | (go_simp; rfl)) ?aP (fun _ hk => hk.elim) ?aF ?aO ?aB ?aS ?aL ?_; (case aP => exact rfl); (case aB => exact (by repeat (first | (with_reducible first | exact HB.out | apply below_alloc | apply pw_below_drewN | apply below_drew1 | refine below_set ?_ GE123.out) | exact HB.out))); (case aF => exact (fun _ _ => trivial)); (case aO => exact (by (with_reducible repeat (first | apply Kd.R_alloc | apply Kd.R_drewN | apply Kd.R_drew)); exact Kd.R_mono (Kd.R_far (p := ⟨gb123, 3, none⟩) (Kd.R_far (p := ⟨gb123, 2, none⟩) (Kd.R_far (p := ⟨gb123, 1, none⟩) (Kd.R_far (p := ⟨gb123, 0, none⟩) (Kd.R_types HO_5.out BK123.out (by decide)) (fun _ hk => hk.2) (.int .i64 ((rd_T29 l0 x10_1).f0))) (fun _ hk => hk.2) (.string ((rd_T29 l0 x10_1).f1))) (fun _ hk => hk.2) (.string ((rd_T29 l0 x10_1).f2))) (fun _ hk => hk.2) (.slice A122_3 ((rd_T29 l0 x10_1).f3).length c122_3)) (fun _ hk => trivial))); (case aS => exact (below_size (by repeat (first | (with_reducible first | exact HB.out | apply below_alloc | apply pw_below_drewN | apply below_drew1 | refine below_set ?_ GE123.out) | exact HB.out)))); (case aL => have := LMc9.out; omega); intro v125 w12 ho hb hg hat; rw [← Ny124.out] at ho; have n0_ := Aside0.mk (blk_grown (g := gb123) (o := .cells #[.int .i64 ((rd_T29 l0 x10_1).f0), .string ((rd_T29 l0 x10_1).f1), .string ((rd_T29 l0 x10_1).f2), .slice A122_3 ((rd_T29 l0 x10_1).f3).length c122_3] 29 (0, 0)) (by (with_reducible repeat (first | refine blk_drewN ?_ _ | refine blk_drew ?_ | refine blk_alloc ?_ _)); refine blk_put (cs := #[.int .i64 ((rd_T29 l0 x10_1).f0), .string ((rd_T29 l0 x10_1).f1), .string ((rd_T29 l0 x10_1).f2), .slice none 0 0]) ?_ 3 _ rfl; (with_reducible repeat (first | refine blk_drewN ?_ _ | refine blk_drew ?_ | refine blk_alloc ?_ _)); refine blk_put (cs := #[.int .i64 ((rd_T29 l0 x10_1).f0), .string ((rd_T29 l0 x10_1).f1), .string (⟨#[]⟩ : ByteArray), .slice none 0 0]) ?_ 2 _ rfl; (with_reducible repeat (first | refine blk_drewN ?_ _ | refine blk_drew ?_ | refine blk_alloc ?_ _)); refine blk_put (cs := #[.int .i64 ((rd_T29 l0 x10_1).f0), .string (⟨#[]⟩ : ByteArray), .string (⟨#[]⟩ : ByteArray), .slice none 0 0]) ?_ 1 _ rfl; (with_reducible repeat (first | refine blk_drewN ?_ _ | refine blk_drew ?_ | refine blk_alloc ?_ _)); refine blk_put (cs := #[.int .i64 0, .string (⟨#[]⟩ : ByteArray), .string (⟨#[]⟩ : ByteArray), .slice none 0 0]) ?_ 0 _ rfl; (with_reducible repeat (first | refine blk_drewN ?_ _ | refine blk_drew ?_ | refine blk_alloc ?_ _)); exact BK123.out) hg (Kd.R_ne HO_5.out BK123.out (by decide))); have n1_ := Aside0.mk (hb); have n2_ := Aside0.mk (ho); clear BK123; clear HB; clear HO_5; have BK123 := n0_; have HB := n1_; have HO126 := n2_; clear n0_ n1_ n2_; clear ho hb hg hat))
          go_roundg k1
          case measure => have := HK1.out; omega
          case rel => exact ⟨(y124), (wrap64 (x10_1 + 1)), (by first | rfl | (simp; done) | (simp [*]; done) | (simp; exact isEmpty_bne _)), H', ⟨by have := HK1.out; omega⟩, ⟨by (with_reducible repeat (first | apply Kd.R_alloc | apply Kd.R_drewN | apply Kd.R_drew)); exact HO126.out⟩, ⟨by repeat (first | (with_reducible first | exact HB.out | apply below_alloc | apply pw_below_drewN | apply below_drew1 | refine below_set ?_ GE123.out) | exact HB.out)⟩⟩
         ·rw [if_neg c9] at H
          exact absurd H (by simp)
        ·rw [if_neg c8] at H
         have c8b0 : decide (a1 < (l0.length : Int)) = false := decide_eq_false c8
         clear c8
         have H' := Aside0.mk H
         clear H
         have p122 : 0 ≤ (x10_1 : Int) := of_decide_eq_true (by first | (with_reducible assumption) | assumption)
         have q122 : x10_1 < (l0.length : Int) := of_decide_eq_true (by first | (with_reducible assumption) | assumption)
         obtain ⟨ad122, A122_3, c122_3, e122, hx122_0, hx122_1, hx122_2, hx122_3, hl122_3, hi122_3⟩ := at_T29 HR0.out x10_1 p122 q122
         cases e122
         replace hx122_0 := (HB.out.cell (World.block_lt_of_cell? w _ hx122_0)).trans hx122_0
         replace hx122_1 := (HB.out.cell (World.block_lt_of_cell? w _ hx122_1)).trans hx122_1
         replace hx122_2 := (HB.out.cell (World.block_lt_of_cell? w _ hx122_2)).trans hx122_2
         replace hx122_3 := (HB.out.cell (World.block_lt_of_cell? w _ hx122_3)).trans hx122_3
         have HR122_3 := Aside0.mk hi122_3
         have HC122_3 := Aside0.mk hl122_3
         clear hi122_3 hl122_3
         replace p122 := eq_true p122
         replace q122 := eq_true q122
         go_wp2_with (first | ((with_reducible refine gate_dst (N := 7) rfl ?_); (try (refine gate_guard (by rfl) ?_; dsimp only)); refine box_event ?hg (N := 7) ?hd (cs := #[.int .i64 0, .string (⟨#[]⟩ : ByteArray), .string (⟨#[]⟩ : ByteArray), .slice none 0 0]) (t := 29) ?hr ?_; (case hd => rfl); (case hg => rfl); (case hr => first | (go_simp; done) | (go_simp; rfl)); intro gb123 hg w13 hbox hb; have n0_ := Aside0.mk (Kd.R_below (by (with_reducible repeat (first | apply Kd.R_alloc | apply Kd.R_drewN | apply Kd.R_drew)); exact HO_5.out) hb); have n1_ := Aside0.mk (below_step (by repeat (first | (with_reducible first | exact HB.out | apply below_alloc | apply pw_below_drewN | apply below_drew1) | exact HB.out)) hb); have n2_ := Aside0.mk (hbox); have n3_ := Aside0.mk ((by rw [hg]; exact (below_size (by repeat (first | (with_reducible first | exact HB.out | apply below_alloc | apply pw_below_drewN | apply below_drew1) | exact HB.out))) : w.heap.size ≤ gb123)); have n4_ := Aside0.mk ((by rw [hg]; exact (below_size (by repeat (first | (with_reducible first | exact HB.out | apply below_alloc | apply pw_below_drewN | apply below_drew1) | exact HB.out))) : w.heap.size ≤ gb123)); clear HO_5; clear HB; have HO_5 := n0_; have HB := n1_; have BK123 := n2_; have GW123 := n3_; have GE123 := n4_; clear n0_ n1_ n2_ n3_ n4_; clear hb hbox hg; have hcz14_0 : w13.cell? ⟨gb123, 0, none⟩ = some (.int .i64 0) := (blk_cell BK123.out 0).trans rfl; have hcz14_1 : w13.cell? ⟨gb123, 1, none⟩ = some (.string (⟨#[]⟩ : ByteArray)) := (blk_cell BK123.out 1).trans rfl; have hcz14_2 : w13.cell? ⟨gb123, 2, none⟩ = some (.string (⟨#[]⟩ : ByteArray)) := (blk_cell BK123.out 2).trans rfl; have hcz14_3 : w13.cell? ⟨gb123, 3, none⟩ = some (.slice none 0 0) := (blk_cell BK123.out 3).trans rfl; have hfz14_0 := blk_frozen BK123.out 0; have hfz14_1 := blk_frozen BK123.out 1; have hfz14_2 := blk_frozen BK123.out 2; have hfz14_3 := blk_frozen BK123.out 3))
         go_roundg k1
         case measure => have := HK1.out; omega
         case rel => exact ⟨(x5_1), (wrap64 (x10_1 + 1)), (by first | rfl | (simp; done) | (simp [*]; done) | (simp; exact isEmpty_bne _)), H', ⟨by have := HK1.out; omega⟩, ⟨by (with_reducible repeat (first | apply Kd.R_alloc | apply Kd.R_drewN | apply Kd.R_drew)); exact Kd.R_mono (Kd.R_far (p := ⟨gb123, 3, none⟩) (Kd.R_far (p := ⟨gb123, 2, none⟩) (Kd.R_far (p := ⟨gb123, 1, none⟩) (Kd.R_far (p := ⟨gb123, 0, none⟩) (Kd.R_types HO_5.out BK123.out (by decide)) (fun _ hk => hk.2) (.int .i64 ((rd_T29 l0 x10_1).f0))) (fun _ hk => hk.2) (.string ((rd_T29 l0 x10_1).f1))) (fun _ hk => hk.2) (.string ((rd_T29 l0 x10_1).f2))) (fun _ hk => hk.2) (.slice A122_3 ((rd_T29 l0 x10_1).f3).length c122_3)) (fun _ hk => trivial)⟩, ⟨by repeat (first | (with_reducible first | exact HB.out | apply below_alloc | apply pw_below_drewN | apply below_drew1 | refine below_set ?_ GE123.out) | exact HB.out)⟩⟩
       ·rw [if_neg c7] at H
        have c7b0 : decide (0 ≤ a1) = false := decide_eq_false c7
        clear c7
        have H' := Aside0.mk H
        clear H
        have p122 : 0 ≤ (x10_1 : Int) := of_decide_eq_true (by first | (with_reducible assumption) | assumption)
        have q122 : x10_1 < (l0.length : Int) := of_decide_eq_true (by first | (with_reducible assumption) | assumption)
        obtain ⟨ad122, A122_3, c122_3, e122, hx122_0, hx122_1, hx122_2, hx122_3, hl122_3, hi122_3⟩ := at_T29 HR0.out x10_1 p122 q122
        cases e122
        replace hx122_0 := (HB.out.cell (World.block_lt_of_cell? w _ hx122_0)).trans hx122_0
        replace hx122_1 := (HB.out.cell (World.block_lt_of_cell? w _ hx122_1)).trans hx122_1
        replace hx122_2 := (HB.out.cell (World.block_lt_of_cell? w _ hx122_2)).trans hx122_2
        replace hx122_3 := (HB.out.cell (World.block_lt_of_cell? w _ hx122_3)).trans hx122_3
        have HR122_3 := Aside0.mk hi122_3
        have HC122_3 := Aside0.mk hl122_3
        clear hi122_3 hl122_3
        replace p122 := eq_true p122
        replace q122 := eq_true q122
        go_wp2_with (first | ((with_reducible refine gate_dst (N := 7) rfl ?_); (try (refine gate_guard (by rfl) ?_; dsimp only)); refine box_event ?hg (N := 7) ?hd (cs := #[.int .i64 0, .string (⟨#[]⟩ : ByteArray), .string (⟨#[]⟩ : ByteArray), .slice none 0 0]) (t := 29) ?hr ?_; (case hd => rfl); (case hg => rfl); (case hr => first | (go_simp; done) | (go_simp; rfl)); intro gb123 hg w15 hbox hb; have n0_ := Aside0.mk (Kd.R_below (by (with_reducible repeat (first | apply Kd.R_alloc | apply Kd.R_drewN | apply Kd.R_drew)); exact HO_5.out) hb); have n1_ := Aside0.mk (below_step (by repeat (first | (with_reducible first | exact HB.out | apply below_alloc | apply pw_below_drewN | apply below_drew1) | exact HB.out)) hb); have n2_ := Aside0.mk (hbox); have n3_ := Aside0.mk ((by rw [hg]; exact (below_size (by repeat (first | (with_reducible first | exact HB.out | apply below_alloc | apply pw_below_drewN | apply below_drew1) | exact HB.out))) : w.heap.size ≤ gb123)); have n4_ := Aside0.mk ((by rw [hg]; exact (below_size (by repeat (first | (with_reducible first | exact HB.out | apply below_alloc | apply pw_below_drewN | apply below_drew1) | exact HB.out))) : w.heap.size ≤ gb123)); clear HO_5; clear HB; have HO_5 := n0_; have HB := n1_; have BK123 := n2_; have GW123 := n3_; have GE123 := n4_; clear n0_ n1_ n2_ n3_ n4_; clear hb hbox hg; have hcz16_0 : w15.cell? ⟨gb123, 0, none⟩ = some (.int .i64 0) := (blk_cell BK123.out 0).trans rfl; have hcz16_1 : w15.cell? ⟨gb123, 1, none⟩ = some (.string (⟨#[]⟩ : ByteArray)) := (blk_cell BK123.out 1).trans rfl; have hcz16_2 : w15.cell? ⟨gb123, 2, none⟩ = some (.string (⟨#[]⟩ : ByteArray)) := (blk_cell BK123.out 2).trans rfl; have hcz16_3 : w15.cell? ⟨gb123, 3, none⟩ = some (.slice none 0 0) := (blk_cell BK123.out 3).trans rfl; have hfz16_0 := blk_frozen BK123.out 0; have hfz16_1 := blk_frozen BK123.out 1; have hfz16_2 := blk_frozen BK123.out 2; have hfz16_3 := blk_frozen BK123.out 3))
        go_roundg k1
        case measure => have := HK1.out; omega
        case rel => exact ⟨(x5_1), (wrap64 (x10_1 + 1)), (by first | rfl | (simp; done) | (simp [*]; done) | (simp; exact isEmpty_bne _)), H', ⟨by have := HK1.out; omega⟩, ⟨by (with_reducible repeat (first | apply Kd.R_alloc | apply Kd.R_drewN | apply Kd.R_drew)); exact Kd.R_mono (Kd.R_far (p := ⟨gb123, 3, none⟩) (Kd.R_far (p := ⟨gb123, 2, none⟩) (Kd.R_far (p := ⟨gb123, 1, none⟩) (Kd.R_far (p := ⟨gb123, 0, none⟩) (Kd.R_types HO_5.out BK123.out (by decide)) (fun _ hk => hk.2) (.int .i64 ((rd_T29 l0 x10_1).f0))) (fun _ hk => hk.2) (.string ((rd_T29 l0 x10_1).f1))) (fun _ hk => hk.2) (.string ((rd_T29 l0 x10_1).f2))) (fun _ hk => hk.2) (.slice A122_3 ((rd_T29 l0 x10_1).f3).length c122_3)) (fun _ hk => trivial)⟩, ⟨by repeat (first | (with_reducible first | exact HB.out | apply below_alloc | apply pw_below_drewN | apply below_drew1 | refine below_set ?_ GE123.out) | exact HB.out)⟩⟩
      ·rw [if_neg c6] at H
       have c6b0 : (((rd_T29 l0 x10_1).f0) == a1) = false := beq_eq_false_iff_ne.mpr c6
       have c6b1 : (((rd_T29 l0 x10_1).f0) != a1) = true := bne_iff_ne.mpr c6
       have H' := Aside0.mk H
       clear H
       have p122 : 0 ≤ (x10_1 : Int) := of_decide_eq_true (by first | (with_reducible assumption) | assumption)
       have q122 : x10_1 < (l0.length : Int) := of_decide_eq_true (by first | (with_reducible assumption) | assumption)
       obtain ⟨ad122, A122_3, c122_3, e122, hx122_0, hx122_1, hx122_2, hx122_3, hl122_3, hi122_3⟩ := at_T29 HR0.out x10_1 p122 q122
       cases e122
       replace hx122_0 := (HB.out.cell (World.block_lt_of_cell? w _ hx122_0)).trans hx122_0
       replace hx122_1 := (HB.out.cell (World.block_lt_of_cell? w _ hx122_1)).trans hx122_1
       replace hx122_2 := (HB.out.cell (World.block_lt_of_cell? w _ hx122_2)).trans hx122_2
       replace hx122_3 := (HB.out.cell (World.block_lt_of_cell? w _ hx122_3)).trans hx122_3
       have HR122_3 := Aside0.mk hi122_3
       have HC122_3 := Aside0.mk hl122_3
       clear hi122_3 hl122_3
       replace p122 := eq_true p122
       replace q122 := eq_true q122
       go_wp2_with (first | ((with_reducible refine gate_dst (N := 7) rfl ?_); (try (refine gate_guard (by rfl) ?_; dsimp only)); refine box_event ?hg (N := 7) ?hd (cs := #[.int .i64 0, .string (⟨#[]⟩ : ByteArray), .string (⟨#[]⟩ : ByteArray), .slice none 0 0]) (t := 29) ?hr ?_; (case hd => rfl); (case hg => rfl); (case hr => first | (go_simp; done) | (go_simp; rfl)); intro gb123 hg w17 hbox hb; have n0_ := Aside0.mk (Kd.R_below (by (with_reducible repeat (first | apply Kd.R_alloc | apply Kd.R_drewN | apply Kd.R_drew)); exact HO_5.out) hb); have n1_ := Aside0.mk (below_step (by repeat (first | (with_reducible first | exact HB.out | apply below_alloc | apply pw_below_drewN | apply below_drew1) | exact HB.out)) hb); have n2_ := Aside0.mk (hbox); have n3_ := Aside0.mk ((by rw [hg]; exact (below_size (by repeat (first | (with_reducible first | exact HB.out | apply below_alloc | apply pw_below_drewN | apply below_drew1) | exact HB.out))) : w.heap.size ≤ gb123)); have n4_ := Aside0.mk ((by rw [hg]; exact (below_size (by repeat (first | (with_reducible first | exact HB.out | apply below_alloc | apply pw_below_drewN | apply below_drew1) | exact HB.out))) : w.heap.size ≤ gb123)); clear HO_5; clear HB; have HO_5 := n0_; have HB := n1_; have BK123 := n2_; have GW123 := n3_; have GE123 := n4_; clear n0_ n1_ n2_ n3_ n4_; clear hb hbox hg; have hcz18_0 : w17.cell? ⟨gb123, 0, none⟩ = some (.int .i64 0) := (blk_cell BK123.out 0).trans rfl; have hcz18_1 : w17.cell? ⟨gb123, 1, none⟩ = some (.string (⟨#[]⟩ : ByteArray)) := (blk_cell BK123.out 1).trans rfl; have hcz18_2 : w17.cell? ⟨gb123, 2, none⟩ = some (.string (⟨#[]⟩ : ByteArray)) := (blk_cell BK123.out 2).trans rfl; have hcz18_3 : w17.cell? ⟨gb123, 3, none⟩ = some (.slice none 0 0) := (blk_cell BK123.out 3).trans rfl; have hfz18_0 := blk_frozen BK123.out 0; have hfz18_1 := blk_frozen BK123.out 1; have hfz18_2 := blk_frozen BK123.out 2; have hfz18_3 := blk_frozen BK123.out 3))
       go_roundg k1
       case measure => have := HK1.out; omega
       case rel => exact ⟨(x5_1), (wrap64 (x10_1 + 1)), (by first | rfl | (simp; done) | (simp [*]; done) | (simp; exact isEmpty_bne _)), H', ⟨by have := HK1.out; omega⟩, ⟨by (with_reducible repeat (first | apply Kd.R_alloc | apply Kd.R_drewN | apply Kd.R_drew)); exact Kd.R_mono (Kd.R_far (p := ⟨gb123, 3, none⟩) (Kd.R_far (p := ⟨gb123, 2, none⟩) (Kd.R_far (p := ⟨gb123, 1, none⟩) (Kd.R_far (p := ⟨gb123, 0, none⟩) (Kd.R_types HO_5.out BK123.out (by decide)) (fun _ hk => hk.2) (.int .i64 ((rd_T29 l0 x10_1).f0))) (fun _ hk => hk.2) (.string ((rd_T29 l0 x10_1).f1))) (fun _ hk => hk.2) (.string ((rd_T29 l0 x10_1).f2))) (fun _ hk => hk.2) (.slice A122_3 ((rd_T29 l0 x10_1).f3).length c122_3)) (fun _ hk => trivial)⟩, ⟨by repeat (first | (with_reducible first | exact HB.out | apply below_alloc | apply pw_below_drewN | apply below_drew1 | refine below_set ?_ GE123.out) | exact HB.out)⟩⟩
     ·rw [if_neg c5] at H
      exact absurd H (by simp)
    ·rw [if_neg c4] at H
     exact absurd H (by simp)
   ·rw [if_neg c3] at H
    have c3b0 : decide (x10_1 < (l0.length : Int)) = false := decide_eq_false c3
    clear c3
    obtain rfl := Option.some.inj H
    go_wp2
    go_ret
    exact ⟨_, by first | rfl | (simp [errW_none, errW_some] <;> rfl) | (simp [*, errW_none, errW_some] <;> rfl), by (with_reducible repeat (first | apply Kd.R_alloc | apply Kd.R_drewN | apply Kd.R_drew)); exact HO_5.out, by repeat (first | (with_reducible first | exact HB.out | apply below_alloc | apply pw_below_drewN | apply below_drew1) | exact HB.out)⟩

end Go.Proofs.Ytkoogebfdinbnaa.Q

namespace Go.Proofs.Ytkoogebfdinbnaa.Q
open Go.RowKit Go.Proofs.YtkoogebfdinbnaaW.PrintWords Go.Proofs.YtkoogebfdinbnaaW.PrintLast Go.Proofs.YtkoogebfdinbnaaW.Own Go.Proofs.YtkoogebfdinbnaaW.PrintMore
set_option linter.unusedVariables false
set_option linter.unusedSimpArgs false
/-
  What the token layer tells, in plain words over lists of bytes: names, spaces, entities, and the pieces of a file. Nothing of the program's memory is in it.
-/
namespace Tk
open Go
abbrev Tok := S40
abbrev Att := S68
def bs (l : List UInt8) : ByteArray := ⟨l.toArray⟩
def letter (c : UInt8) : Bool := (65 ≤ c.toNat && c.toNat ≤ 90) || (97 ≤ c.toNat && c.toNat ≤ 122) || c.toNat == 95
def digit (c : UInt8) : Bool := 48 ≤ c.toNat && c.toNat ≤ 57
def within (c : UInt8) : Bool := letter c || digit c || c.toNat == 45 || c.toNat == 46 || c.toNat == 58
def space (c : UInt8) : Bool := c.toNat == 9 || c.toNat == 10 || c.toNat == 13 || c.toNat == 32
def allowed (c : UInt8) : Bool := decide (32 < c.toNat) || space c
/-- The name that a text begins with. -/
def head : List UInt8 → List UInt8
  | [] => []
  | c :: r => if letter c then c :: r.takeWhile within else []
def skip (l : List UInt8) : List UInt8 := l.dropWhile space
/-- What is behind a text that stands next. -/
def behind (x l : List UInt8) : Option (List UInt8) := if x.isPrefixOf l then some (l.drop x.length) else none
/-- What is ahead of the next such text, and behind it. -/
def upto (x l : List UInt8) : Option (List UInt8 × List UInt8) := if 0 ≤ Lib.index l x then some (l.take (Lib.index l x).toNat, l.drop ((Lib.index l x).toNat + x.length)) else none
def digitOf (base : Nat) (c : UInt8) : Option Nat :=
  let v := if digit c then some (c.toNat - 48) else if 97 ≤ c.toNat ∧ c.toNat ≤ 102 then some (c.toNat - 87) else if 65 ≤ c.toNat ∧ c.toNat ≤ 70 then some (c.toNat - 55) else none
  v.bind fun n => if n < base then some n else none
def number (base : Nat) : Nat → List UInt8 → Option Nat
  | v, [] => some v
  | v, c :: r => (digitOf base c).bind fun d => number base (v * base + d) r
def may (v : Nat) : Bool := v == 9 || v == 10 || v == 13 || (decide (32 ≤ v) && decide (v ≤ 1114111) && (decide (v < 55296) || decide (57343 < v)))
/-- The character of an entity's number. -/
def numbered (base : Nat) (l : List UInt8) : Option (List UInt8) :=
  if l = [] ∨ 6 < l.length then none else (number base 0 l).bind fun v => if may v then some (Utf8.encode (v : Int)).data.toList else none
def named (l : List UInt8) : Option (List UInt8) :=
  if l = [108, 116] then some [60] else if l = [103, 116] then some [62] else if l = [97, 109, 112] then some [38] else if l = [113, 117, 111, 116] then some [34] else if l = [97, 112, 111, 115] then some [39] else none
def entity : List UInt8 → Option (List UInt8)
  | 35 :: 120 :: r => numbered 16 r
  | 35 :: r => numbered 10 r
  | l => named l
/-- A text with its entities replaced; the number bounds how many there are. -/
def ents : Nat → List UInt8 → Option (List UInt8)
  | 0, _ => none
  | n + 1, l => match upto [38] l with
    | none => some l
    | some (a, b) => match upto [59] b with
      | none => none
      | some (nm, r) => (entity nm).bind fun c => (ents n r).map fun t => a ++ (c ++ t)
def entities (l : List UInt8) : Option (List UInt8) := ents (l.length + 1) l
def tk (kind : Int) (name text : List UInt8) (attrs : List Att) (empty : Bool) : Tok := ⟨kind, bs name, bs text, attrs, empty⟩
def at_ (n v : List UInt8) : Att := ⟨bs n, bs v⟩
def comment (l : List UInt8) : Option (Tok × List UInt8) :=
  (upto [45, 45, 62] l).bind fun p => if 0 ≤ Lib.index p.1 [45, 45] ∨ Lib.hasSuffix p.1 [45] = true then none else some (tk 4 [] p.1 [] false, p.2)
def data (l : List UInt8) : Option (Tok × List UInt8) := (upto [93, 93, 62] l).map fun p => (tk 3 [] p.1 [] false, p.2)
def prolog (first : Bool) (l : List UInt8) : Option (Tok × List UInt8) := (upto [63, 62] l).bind fun p => if first then some (tk 5 [] p.1 [] false, p.2) else none
def close (l : List UInt8) : Option (Tok × List UInt8) :=
  if head l = [] then none else (behind [62] (skip (l.drop (head l).length))).map fun r => (tk 2 (head l) [] [] false, r)
def value (l : List UInt8) : Option (List UInt8 × List UInt8) :=
  let q := if [34].isPrefixOf l then [34] else [39]
  (behind q l).bind fun r => (upto q r).bind fun p => if 0 ≤ Lib.index p.1 [60] then none else (entities p.1).map fun v => (v, p.2)
def attr (l : List UInt8) : Option (Att × List UInt8) :=
  if head l = [] then none else (behind [61] (skip (l.drop (head l).length))).bind fun r => (value (skip r)).map fun p => (at_ (head l) p.1, p.2)
def attrs : Nat → List UInt8 → List Att → List UInt8 → Option (Tok × List UInt8)
  | 0, _, _, _ => none
  | n + 1, nm, ys, l =>
    let l1 := skip l
    match behind [62] l1 with
    | some r => some (tk 1 nm [] ys false, r)
    | none => match behind [47, 62] l1 with
      | some r => some (tk 1 nm [] ys true, r)
      | none => if l1.length = l.length then none else (attr l1).bind fun p => if ys.any (fun x => x.f0.toList == p.1.f0.toList) then none else attrs n nm (ys ++ [p.1]) p.2
def opening (l : List UInt8) : Option (Tok × List UInt8) := if head l = [] then none else attrs (l.length + 1) (head l) [] (l.drop (head l).length)
def text (l : List UInt8) : Option (Tok × List UInt8) :=
  let t := l.takeWhile (· != 60)
  (entities t).map fun x => (tk 3 [] x [] false, l.drop t.length)
def next (first : Bool) (l : List UInt8) : Option (Tok × List UInt8) :=
  match behind [60, 33, 45, 45] l with
  | some r => comment r
  | none => match behind [60, 33, 91, 67, 68, 65, 84, 65, 91] l with
    | some r => data r
    | none => match behind [60, 63] l with
      | some r => prolog first r
      | none => match behind [60, 47] l with
        | some r => close r
        | none => match behind [60] l with
          | some r => opening r
          | none => text l
/-- The pieces of what is left of a file. -/
def pieces : Nat → Bool → List UInt8 → Option (List Tok)
  | 0, _, _ => none
  | n + 1, first, l => if l = [] then some [] else (next first l).bind fun p => (pieces n false p.2).map fun t => p.1 :: t
/-- A file's tokens, or why there are none. -/
def split (l : List UInt8) : List Tok × Int :=
  if 20000 < l.length then ([], 3) else if l.any (fun c => !allowed c) then ([], 4) else match pieces (l.length + 1) true l with
    | some t => (t, 0)
    | none => ([], 5)
/-- What is so of each of the 256 bytes. -/
theorem bytes_all {α : Type} [DecidableEq α] {f : Int → Option α} {g : UInt8 → α} (h : (List.range 256).all (fun n => decide (f (n : Int) = some (g (UInt8.ofNat n)))) = true) (c : UInt8) : f (c.toNat : Int) = some (g c) := by
  have hc : c.toNat < 256 := c.toNat_lt
  have := of_decide_eq_true (List.all_eq_true.1 h c.toNat (List.mem_range.2 hc))
  rwa [UInt8.ofNat_toNat] at this
theorem bytes_all2 {f g : UInt8 → Bool} (h : (List.range 256).all (fun n => f (UInt8.ofNat n) == g (UInt8.ofNat n)) = true) (c : UInt8) : f c = g c := by
  have hc : c.toNat < 256 := c.toNat_lt
  have := beq_iff_eq.1 (List.all_eq_true.1 h c.toNat (List.mem_range.2 hc))
  rwa [UInt8.ofNat_toNat] at this
end Tk

end Go.Proofs.Ytkoogebfdinbnaa.Q

namespace Go.Proofs.Ytkoogebfdinbnaa.Q
open Go.RowKit Go.Proofs.YtkoogebfdinbnaaW.PrintWords Go.Proofs.YtkoogebfdinbnaaW.PrintLast Go.Proofs.YtkoogebfdinbnaaW.Own Go.Proofs.YtkoogebfdinbnaaW.PrintMore
set_option linter.unusedVariables false
set_option linter.unusedSimpArgs false
/-
  What the element layer tells, in plain words over lists: the tree of some tokens. Nothing of the program's memory is in it, but for what is said of a map as read (MapIs).
-/
namespace El
open Go
abbrev Nd := S29
abbrev Tok := S40
abbrev Att := S68
def zn : Nd := z29
def nul : ByteArray := ⟨#[]⟩
/-- The innermost open element; -1: none. -/
def inner (op : List Int) : Int := op.getLast?.getD (-1)
/-- The last node whose parent is that. -/
def lastI (l : List Nd) (p : Int) : Option Nat := l.zipIdx.foldl (fun a x => if x.1.f0 = p then some x.2 else a) none
theorem lastI_nil (p : Int) : lastI [] p = none := rfl
theorem lastI_snoc (l : List Nd) (n : Nd) (p : Int) : lastI (l ++ [n]) p = if n.f0 = p then some l.length else lastI l p := by
  unfold lastI
  rw [List.zipIdx_append, List.foldl_append]
  simp
theorem lastI_lt (l : List Nd) (p : Int) (k : Nat) (h : lastI l p = some k) : k < l.length := by
  rw [← List.reverse_reverse l] at h ⊢
  generalize l.reverse = m at *
  induction m with
  | nil => simp [lastI] at h
  | cons n m ih =>
    rw [List.reverse_cons, lastI_snoc] at h
    rw [List.reverse_cons, List.length_append, List.length_singleton]
    split at h
    · injection h with h; omega
    · have := ih h; omega
theorem lastI_set (l : List Nd) (k : Nat) (n : Nd) (p : Int) (hn : ∀ x, l[k]? = some x → n.f0 = x.f0) : lastI (l.set k n) p = lastI l p := by
  rw [← List.reverse_reverse l] at hn ⊢
  generalize l.reverse = m at *
  induction m with
  | nil => rfl
  | cons x m ih =>
    rw [List.reverse_cons] at hn ⊢
    rcases Nat.lt_or_ge k m.reverse.length with hk | hk
    · rw [List.set_append_left _ _ hk, lastI_snoc, lastI_snoc, List.length_set, ih]
      intro y hy
      exact hn y (by rw [List.getElem?_append_left hk]; exact hy)
    · rw [List.set_append_right _ _ hk]
      rcases Nat.eq_or_lt_of_le hk with he | hlt
      · have := hn x (by rw [← he, List.getElem?_append_right (Nat.le_refl _), Nat.sub_self]; rfl)
        rw [← he, Nat.sub_self, List.set_cons_zero, lastI_snoc, lastI_snoc, this]
      · rw [show k - m.reverse.length = (k - m.reverse.length - 1) + 1 from by omega, List.set_cons_succ, List.set_nil]
abbrev St := List Nd × List Int
def put (l : List Nd) (op : List Int) (name text : ByteArray) (at_ : List Att) : Option (List Nd) := if l.length < 2000 then some (l ++ [⟨inner op, name, text, at_⟩]) else none
def begin_ (l : List Nd) (op : List Int) (t : Tok) : Except Int St :=
  if t.f1 = nul then .error 5 else if op = [] ∧ l ≠ [] then .error 6 else if 20 ≤ op.length then .error 7 else
    match put l op t.f1 nul t.f3 with
    | none => .error 3
    | some l' => .ok (l', if t.f4 = true then op else op ++ [(l.length : Int)])
def end_ (l : List Nd) (op : List Int) (t : Tok) : Except Int St :=
  if inner op < 0 then .error 6 else if (l.getD (inner op).toNat zn).f1 = t.f1 then .ok (l, op.dropLast) else .error 6
def blank (s : ByteArray) : Bool := s.data.toList.all Tk.space
def text (l : List Nd) (op : List Int) (s : ByteArray) : Except Int St :=
  if inner op < 0 then (if blank s then .ok (l, op) else .error 6) else if s = nul then .ok (l, op) else
    match lastI l (inner op) with
    | some k => if (l.getD k zn).f1 = nul then .ok (l.set k { l.getD k zn with f2 := (l.getD k zn).f2 ++ s }, op) else
        match put l op nul s [] with
        | none => .error 3
        | some l' => .ok (l', op)
    | none => match put l op nul s [] with
        | none => .error 3
        | some l' => .ok (l', op)
def take (l : List Nd) (op : List Int) (t : Tok) : Except Int St :=
  if t.f0 = 4 then .ok (l, op) else if t.f0 = 5 then .ok (l, op) else if t.f0 = 1 then begin_ l op t else if t.f0 = 2 then end_ l op t else if t.f0 = 3 then text l op t.f2 else .error 5
def all : List Nd → List Int → List Tok → Except Int St
  | l, op, [] => .ok (l, op)
  | l, op, t :: r => match take l op t with
    | .error e => .error e
    | .ok s => all s.1 s.2 r
def tree (ts : List Tok) : List Nd × Int :=
  match all [] [] ts with
  | .error e => ([], e)
  | .ok s => if s.1 = [] ∨ s.2 ≠ [] then ([], 6) else (s.1, 0)
/-- What the map holds: of each place the last node in it. -/
def MapIs (D : DataW Unit) (l : List Nd) : Prop := ∀ p : Int, (Lit.int .i64 p).wf = true → Maps.has D (.int .i64 p) = (lastI l p).isSome ∧ ∀ k, lastI l p = some k → ∀ z, D.atKey (.int .i64 p) z = .lit (.int .i64 (k : Int))
theorem MapIs.none : MapIs (.map []) [] := fun p _ => ⟨rfl, fun k h => by simp [lastI] at h⟩
theorem isKey (p : Int) (hp : (Lit.int .i64 p).wf = true) : WideAt.IsKeyLit (.int .i64 p) := by
  trivial
theorem MapIs.snoc {D : DataW Unit} {l : List Nd} (h : MapIs D l) (hD : Maps.IsMap D) (n : Nd) (hp : (Lit.int .i64 n.f0).wf = true) : MapIs (D.put (.int .i64 n.f0) (.lit (.int .i64 (l.length : Int)))) (l ++ [n]) := by
  intro q hq
  rw [lastI_snoc]
  by_cases he : n.f0 = q
  · subst he
    rw [if_pos rfl]
    refine ⟨Maps.has_put_same hD (isKey _ hp) _, fun k hk z => ?_⟩
    injection hk with hk
    rw [Maps.atKey_put_same hD (isKey _ hp), hk]
  · have hne : (Lit.int .i64 q : Lit) ≠ Lit.int .i64 n.f0 := fun h => by injection h with _ h; exact he h.symm
    rw [if_neg he, Maps.has_put_other hne]
    refine ⟨(h q hq).1, fun k hk z => ?_⟩
    rw [Maps.atKey_put_other hne]
    exact (h q hq).2 k hk z
theorem MapIs.set {D : DataW Unit} {l : List Nd} (h : MapIs D l) (k : Nat) (n : Nd) (hn : ∀ x, l[k]? = some x → n.f0 = x.f0) : MapIs D (l.set k n) := by
  intro q hq
  rw [lastI_set l k n q hn]
  exact h q hq
end El

end Go.Proofs.Ytkoogebfdinbnaa.Q

-- Printed by this session's wip/np.py over the kit's print program. Not trusted: Lean checks it.
namespace Go.Proofs.Ytkoogebfdinbnaa.Q
open Go.RowKit Go.Proofs.YtkoogebfdinbnaaW.PrintWords Go.Proofs.YtkoogebfdinbnaaW.PrintLast Go.Proofs.YtkoogebfdinbnaaW.Own Go.Proofs.YtkoogebfdinbnaaW.PrintMore
attribute [local go_sem] max2_int min2_int max_two min_two max_three min_three max_four min_four
set_option linter.unusedVariables false
set_option linter.unusedSimpArgs false

/-! ### element_builder_inner: function 46 -/
/-- The builder at block g: the nodes, the open elements, and the map of what is last; all are of the call's own (from block B on); the nodes' blocks lie below N. -/
def BAt (w : World) (B g N : Nat) (l : List El.Nd) (op : List Int) : Prop :=
 ∃ v1 v2 m n D, w.heap[g]? = some (.cells #[v1, v2, .map (some m)] 59 (0, 0)) ∧ Kd.S k29 29 w B (fun k => k < N) v1 l ∧ Kd.R (Kd.int .i64) 3 w B (fun _ => True) v2 op ∧ w.ownsMap Try.prog 3 (plainElem (H := Unit) Try.prog 3) m n D ∧ n ≤ l.length ∧ El.MapIs D l ∧ B ≤ g ∧ B ≤ m ∧ 0 < B
theorem map_at {P : Program} {k m n : Nat} {R : Value → Option (DataW Unit × List MemPlace)} {D : DataW Unit} {w w1 : World} (h : w.ownsMap P k R m n D) (e : w1.heap[m]? = w.heap[m]?) : w1.ownsMap P k R m n D := by
 obtain ⟨es, clock, hb, r⟩ := h
 exact ⟨es, clock, e.trans hb, r⟩
theorem map_ne {P : Program} {k m n g t : Nat} {R : Value → Option (DataW Unit × List MemPlace)} {D : DataW Unit} {w : World} {cells : Array Value} {fr : Nat × Nat} (h : w.ownsMap P k R m n D) (hb : w.heap[g]? = some (.cells cells t fr)) : m ≠ g := by
 rintro rfl
 obtain ⟨es, clock, hb', r⟩ := h
 rw [hb] at hb'
 cases hb'
theorem BAt.below {w w1 : World} {B g N : Nat} {l : List El.Nd} {op : List Int} (h : BAt w B g N l op) (hb : Below w.heap.size w w1) : BAt w1 B g N l op := by
 obtain ⟨v1, v2, m, n, D, h1, h2, h3, h4, r⟩ := h
 exact ⟨v1, v2, m, n, D, blk_below h1 hb, Kd.S_below h2 hb, Kd.R_below h3 hb, map_at h4 (hb.block m h4.lt), r⟩
theorem BAt.le {w : World} {B g N N' : Nat} {l : List El.Nd} {op : List Int} (h : BAt w B g N l op) (hn : N ≤ N') : BAt w B g N' l op := by
 obtain ⟨v1, v2, m, n, D, h1, h2, r⟩ := h
 exact ⟨v1, v2, m, n, D, h1, Kd.S_mono h2 (fun k hk => Nat.lt_of_lt_of_le hk hn), r⟩
theorem BAt.now {w : World} {B g N : Nat} {l : List El.Nd} {op : List Int} (h : BAt w B g N l op) : BAt w B g w.heap.size l op := by
 obtain ⟨v1, v2, m, n, D, h1, h2, r⟩ := h
 exact ⟨v1, v2, m, n, D, h1, Kd.S_mono (Kd.S_bound h2) (fun k hk => hk.2.2.1), r⟩
theorem BAt.ge {w : World} {B g N : Nat} {l : List El.Nd} {op : List Int} (h : BAt w B g N l op) : B ≤ g ∧ g < w.heap.size ∧ 0 < B := by
 obtain ⟨v1, v2, m, n, D, h1, h2, h3, h4, h5, h6, h7, h8, h9⟩ := h
 exact ⟨h7, blk_lt h1, h9⟩
/-- Tokens that lie in memory by themselves stay. -/
def Stay (w w' : World) : Prop := ∀ (k : Nat) (o : Array Value), w.heap[k]? = some (.cells o 40 (0, 0)) → w'.heap[k]? = some (.cells o 40 (0, 0))
theorem Stay.refl (w : World) : Stay w w := fun _ _ h => h
theorem Stay.trans {w w1 w2 : World} (h : Stay w w1) (h2 : Stay w1 w2) : Stay w w2 := fun k o hk => h2 k o (h k o hk)
theorem Stay.below {w w1 : World} (hb : Below w.heap.size w w1) : Stay w w1 := fun k o hk => blk_below hk hb
theorem Stay.map {P : Program} {k m n : Nat} {R : Value → Option (DataW Unit × List MemPlace)} {D : DataW Unit} {w w1 : World} (hm : w.ownsMap P k R m n D) (hg : w.grownBy w1 (some m)) : Stay w w1 := fun k o hk => blk_grown hk hg (fun h => map_ne hm hk (by injection h with h; exact h.symm))
theorem Stay.row {w w1 : World} {v : Value} {e : Nat} (hty : ∀ k, v.ownBlock = some k → ∃ cells, w.heap[k]? = some (.cells cells e (0, 0))) (he : e ≠ 40) (hg : w.grownBy w1 v.ownBlock) : Stay w w1 := fun k o hk => blk_grown hk hg (fun h => by
 obtain ⟨cells, hc⟩ := hty k h.symm
 rw [hk] at hc
 injection hc with hc
 injection hc with _ hc
 exact he hc.symm)
theorem Stay.set {w : World} {g t : Nat} {cells : Array Value} (hb : w.heap[g]? = some (.cells cells t (0, 0))) (ht : t ≠ 40) (i : Nat) (u : Value) : Stay w (w.setCell ⟨g, i, none⟩ u) := fun k o hk => blk_far hk (fun e => by
 have e : k = g := e
 subst e
 rw [hk] at hb
 injection hb with hb
 injection hb with _ hb
 exact ht hb.symm) u
theorem last_at (op : List Int) (h : op ≠ []) : rd op ((op.length : Int) - 1) = El.inner op := by
 unfold rd El.inner
 have hl : op.length ≠ 0 := fun h0 => h (List.eq_nil_of_length_eq_zero h0)
 rw [show ((op.length : Int) - 1).toNat = op.length - 1 from by omega, List.getLast?_eq_getElem?]
 rw [List.getD_eq_getElem?_getD, List.getElem?_eq_getElem (by omega)]
 rfl
set_option maxHeartbeats 4000000 in
set_option maxRecDepth 100000 in
theorem element_builder_inner.calls (B g N : Nat) (l : List El.Nd) (op : List Int) (w : World) (h : BAt w B g N l op) (hop : op.length ≤ 100000) :
 Calls Try.prog 46 #[.pointer (some ⟨g, 0, none⟩)] w fun e w' => e = .returned (.int .i64 (El.inner op)) ∧ Drawn0 w w' := by
 obtain ⟨v1, v2, m, n, D, h1, h2, h3, _⟩ := h
 obtain ⟨A2, c2, rfl⟩ := Kd.R_slice h3
 have x1 := (blk_cell h1 1).trans rfl
 have HC := (Kd.R_reads' h3).2.2
 have hu := Try.underlying59
 clear h1 h2 h3
 by_cases ho : op = []
 ·subst ho
  go_enter Try.func46, Try.ntmps46
  go_wp2
  go_ret
  exact ⟨rfl, Drawn0.refl _⟩
 ·have hl : op.length ≠ 0 := fun h0 => ho (List.eq_nil_of_length_eq_zero h0)
  have e1 : ((op.length : Int) == 0) = false := beq_eq_false_iff_ne.mpr (by omega)
  have e1' : (op.length == 0) = false := beq_eq_false_iff_ne.mpr hl
  have ew : wrap64 ((op.length : Int) - 1) = (op.length : Int) - 1 := by unfold wrap64; omega
  obtain ⟨ad, e_, hx0⟩ := Kd.at_int HC ((op.length : Int) - 1) (by omega) (by omega)
  cases e_
  rw [last_at op ho] at hx0
  have ew' : IntKind.i64.wrap ((op.length : Int) - 1) = (op.length : Int) - 1 := by rw [i64_w]; exact ew
  have hx1 : w.cell? (ad.add (op.length - 1)) = some (.int .i64 (El.inner op)) := by rw [show ((op.length : Int) - 1).toNat = op.length - 1 from by omega] at hx0; exact hx0
  have p1 := eq_true (show (0 : Int) ≤ (op.length : Int) - 1 by omega)
  have p2 := eq_true (show (op.length : Int) - 1 < (op.length : Int) by omega)
  clear HC
  go_enter Try.func46, Try.ntmps46
  go_wp2
  go_quiet (fail)
  go_wp2
  go_ret
  exact ⟨rfl, ⟨_, rfl⟩⟩


end Go.Proofs.Ytkoogebfdinbnaa.Q

-- Printed by this session's wip/np.py over the kit's print program. Not trusted: Lean checks it.
namespace Go.Proofs.Ytkoogebfdinbnaa.Q
open Go.RowKit Go.Proofs.YtkoogebfdinbnaaW.PrintWords Go.Proofs.YtkoogebfdinbnaaW.PrintLast Go.Proofs.YtkoogebfdinbnaaW.Own Go.Proofs.YtkoogebfdinbnaaW.PrintMore
attribute [local go_sem] max2_int min2_int max_two min_two max_three min_three max_four min_four
set_option linter.unusedVariables false
set_option linter.unusedSimpArgs false

/-! ### element_builder_put: function 44 -/
theorem ndInfo : (Try.prog.info? 29).map (fun i => (i.zero, i.size, i.bytes)) = some (some (.agg #[.int .i64 0, .string ⟨#[]⟩, .string ⟨#[]⟩, .slice none 0 0]), 4, 64) := by kernel_rfl
/-- A store into the map leaves the rows as they are. -/
theorem S_map {α : Type} {d : Kd α} {e base : Nat} {ok : Nat → Prop} {w w1 : World} {v : Value} {xs : List α} {P : Program} {k m n : Nat} {R : Value → Option (DataW Unit × List MemPlace)} {D : DataW Unit} (h : Kd.S d e w base ok v xs) (hm : w.ownsMap P k R m n D) (hg : w.grownBy w1 (some m)) : Kd.S d e w1 base ok v xs := by
 refine Kd.S_mono (Kd.S_grown (ok := fun k => ok k ∧ k ≠ m) (Kd.S_mono (Kd.S_bound h) (fun k hk => ⟨hk.1, ?_⟩)) hg (fun k hk h => hk.2 (by injection h))) (fun _ hk => hk.1)
 rintro rfl
 obtain ⟨_, _, _, q, hq, cells, hc⟩ := hk
 exact map_ne hm hc rfl
theorem R_map {α : Type} {d : Kd α} {e base : Nat} {ok : Nat → Prop} {w w1 : World} {v : Value} {xs : List α} {P : Program} {k m n : Nat} {R : Value → Option (DataW Unit × List MemPlace)} {D : DataW Unit} (h : d.R e w base ok v xs) (hm : w.ownsMap P k R m n D) (hg : w.grownBy w1 (some m)) : d.R e w1 base ok v xs := by
 refine Kd.R_mono (Kd.R_grown (ok := fun k => ok k ∧ k ≠ m) (Kd.R_mono (Kd.R_bound h) (fun k hk => ⟨hk.1, ?_⟩)) hg (fun k hk h => hk.2 (by injection h))) (fun _ hk => hk.1)
 rintro rfl
 obtain ⟨_, _, _, q, hq, cells, hc⟩ := hk
 exact map_ne hm hc rfl
theorem map_off {α : Type} {d : Kd α} {e base : Nat} {ok : Nat → Prop} {w : World} {v : Value} {xs : List α} {P : Program} {k m n : Nat} {R : Value → Option (DataW Unit × List MemPlace)} {D : DataW Unit} (hm : w.ownsMap P k R m n D) (h : Kd.S d e w base ok v xs) : some m ≠ v.ownBlock := by
 intro he
 obtain ⟨cells, hc⟩ := Kd.S_typed h m he.symm
 exact map_ne hm hc rfl
theorem node_apart {w : World} {B : Nat} {ok okp : Nat → Prop} {v va : Value} {L : List El.Nd} {xs : List El.Att} (ha : Kd.R k68 68 w B okp va xs) (h2 : Kd.S k29 29 w B ok v L) :
 Kd.R k68 68 w B (fun k => okp k ∧ some k ≠ v.ownBlock) va xs := by
 refine Kd.R_mono (Kd.R_bound ha) (fun k hk => ?_)
 obtain ⟨hok, _, _, q, hq, cells, hc⟩ := hk
 have hq' : q = 68 := by simpa [k68, Kd.iso, Kd.pair, Kd.string, Kd.scalar] using hq
 subst hq'
 refine ⟨hok, fun he => ?_⟩
 obtain ⟨cells', hc'⟩ := Kd.S_typed h2 k he.symm
 rw [hc'] at hc
 injection hc with hc
 injection hc with _ hc
 exact absurd hc (by decide)
theorem int_wf (p : Int) (h0 : -9223372036854775808 ≤ p) (h1 : p ≤ 9223372036854775807) : (Lit.int .i64 p).wf = true := by
 have e1 : IntKind.i64.min = -9223372036854775808 := by decide
 have e2 : IntKind.i64.max = 9223372036854775807 := by decide
 show (decide (IntKind.i64.min ≤ p) && decide (p ≤ IntKind.i64.max)) = true
 rw [e1, e2, Bool.and_eq_true]
 exact ⟨decide_eq_true h0, decide_eq_true h1⟩
theorem inner_range (l : List El.Nd) (op : List Int) (hw : ∀ i ∈ op, 0 ≤ i ∧ i < (l.length : Int)) : -1 ≤ El.inner op ∧ (El.inner op < (l.length : Int) ∨ El.inner op = -1) := by
 unfold El.inner
 cases h : op.getLast? with
 | none => exact ⟨Int.le_refl _, .inr rfl⟩
 | some x =>
  have := hw x (List.mem_of_getLast? h)
  exact ⟨by show -1 ≤ x; omega, .inl this.2⟩
set_option maxHeartbeats 4000000 in
set_option maxRecDepth 100000 in
theorem element_builder_put.full (B g N : Nat) (l : List El.Nd) (op : List Int) (nd : El.Nd) (va : Value) (w : World) (h : BAt w B g N l op) (hl : 2000 ≤ l.length) (hl2 : l.length ≤ 100000) :
 Calls Try.prog 44 #[.pointer (some ⟨g, 0, none⟩), .agg #[.int .i64 nd.f0, .string nd.f1, .string nd.f2, va]] w fun e w' => e = .returned (.int .i64 3) ∧ Below w.heap.size w w' := by
 obtain ⟨v1, v2, m, n, D, h1, h2, h3, _⟩ := h
 obtain ⟨A1, c1, rfl⟩ := Kd.S_slice h2
 have x0 := (blk_cell (blk_alloc h1 (.cells #[.int .i64 nd.f0, .string nd.f1, .string nd.f2, va] 29)) 0).trans rfl
 have hu := Try.underlying59
 have d1 : decide ((2000 : Int) ≤ (l.length : Int)) = true := decide_eq_true (by omega)
 have HB := Aside0.mk (below_alloc (Below.refl w.heap.size w) (.cells #[.int .i64 nd.f0, .string nd.f1, .string nd.f2, va] 29))
 clear h1 h2 h3
 go_enter Try.func44, Try.ntmps44
 go_wp2
 go_ret
 exact ⟨rfl, HB.out⟩
set_option maxHeartbeats 8000000 in
set_option maxRecDepth 100000 in
theorem element_builder_put.room (B g N : Nat) (l : List El.Nd) (op : List Int) (nd : El.Nd) (va : Value) (w : World) (h : BAt w B g N l op) (hN : N ≤ w.heap.size) (ha : Kd.R k68 68 w B (fun k => N ≤ k) va nd.f3) (hl : l.length < 2000) (hop : op.length ≤ 100000) (hin : ∀ i ∈ op, 0 ≤ i ∧ i < (l.length : Int)) :
 Calls Try.prog 44 #[.pointer (some ⟨g, 0, none⟩), .agg #[.int .i64 nd.f0, .string nd.f1, .string nd.f2, va]] w fun e w' => e = .returned (.int .i64 0) ∧ BAt w' B g w'.heap.size (l ++ [⟨El.inner op, nd.f1, nd.f2, nd.f3⟩]) op ∧ Below B w w' ∧ Stay w w' := by
 have H := Aside0.mk h
 obtain ⟨hgB, hgl, hpos⟩ := h.ge
 obtain ⟨v1, v2, m, n, D, h1, h2, h3, h4, h5, h6, h7, h8, h9⟩ := h
 obtain ⟨A1, c1, rfl⟩ := Kd.S_slice h2
 obtain ⟨A2, c2, rfl⟩ := Kd.R_slice h3
 obtain ⟨A0, c0, rfl⟩ := Kd.R_slice ha
 have x0 := (blk_cell (blk_alloc h1 (.cells #[.int .i64 nd.f0, .string nd.f1, .string nd.f2, .slice A0 nd.f3.length c0] 29)) 0).trans rfl
 have hu := Try.underlying59
 have d1 : decide ((2000 : Int) ≤ (l.length : Int)) = false := decide_eq_false (by omega)
 obtain ⟨p, hp⟩ : ∃ p, p = El.inner op := ⟨_, rfl⟩
 have hpr := inner_range l op hin
 rw [← hp] at hpr
 have HP := Lib.hid hp
 have HPR := Lib.hid hpr
 rw [← hp]
 have HN := Lib.hid hN
 have HL := Lib.hid hl
 have HGE := Lib.hid (show B ≤ g ∧ g < w.heap.size ∧ 0 < B ∧ B ≤ m ∧ n ≤ l.length from ⟨hgB, hgl, hpos, h8, h5⟩)
 have H1 := Aside0.mk h1
 have H2 := Aside0.mk h2
 have H3 := Aside0.mk h3
 have H4 := Aside0.mk h4
 have H6 := Aside0.mk h6
 have HA := Aside0.mk ha
 have HB0 := Aside0.mk (below_alloc (Below.refl w.heap.size w) (.cells #[.int .i64 nd.f0, .string nd.f1, .string nd.f2, .slice A0 nd.f3.length c0] 29))
 have CI := Aside0.mk (fun W (hW : Below w.heap.size w W) => element_builder_inner.calls B g N l op W (H.out.below hW) hop)
 rw [← hp] at CI
 clear h1 h2 h3 h4 h5 h6 h7 h8 h9 ha hp hpr hgB hgl hpos hN hl hop hin H
 go_enter Try.func44, Try.ntmps44
 go_wp2_with (first | (go_at_call 46; (with_reducible refine (CI.out _ HB0.out).mono ?_); rintro e w1 ⟨rfl, ⟨nd1, rfl⟩⟩))
 obtain ⟨W, hW⟩ : ∃ W, W = (((w.alloc (.cells #[.int .i64 nd.f0, .string nd.f1, .string nd.f2, .slice A0 nd.f3.length c0] 29)).drewN nd1).setCell ⟨w.heap.size, 0, none⟩ (.int .i64 p)) := ⟨_, rfl⟩
 have hX : W.heap[w.heap.size]? = some (.cells #[.int .i64 p, .string nd.f1, .string nd.f2, .slice A0 nd.f3.length c0] 29 (0, 0)) := by
  rw [hW]
  exact blk_set (blk_drewN (heap_alloc_new w (.cells #[.int .i64 nd.f0, .string nd.f1, .string nd.f2, .slice A0 nd.f3.length c0] 29)) nd1) 0 (.int .i64 p)
 have hBW : Below w.heap.size w W := by
  rw [hW]
  exact below_set (pw_below_drewN HB0.out nd1) (Nat.le_refl _)
 rw [← hW]
 clear hW HB0 CI
 have g1 := Aside0.mk (blk_below H1.out hBW)
 have g2 := Aside0.mk (Kd.S_below H2.out hBW)
 have g3 := Aside0.mk (Kd.R_below H3.out hBW)
 have g4 := Aside0.mk (map_at H4.out (hBW.block m H4.out.lt))
 have gA := Aside0.mk (Kd.R_below HA.out hBW)
 have HX := Aside0.mk hX
 have HBW := Aside0.mk (hBW.mono (Nat.le_trans HGE.out.1 (Nat.le_of_lt HGE.out.2.1)))
 have HSZ := Lib.hid hBW.size
 have HST := Aside0.mk (Stay.below hBW)
 clear H1 H2 H3 H4 HA hX hBW
 have x0 := (blk_cell g1.out 0).trans rfl
 have x2 := (blk_cell g1.out 2).trans rfl
 have y0 := (blk_cell HX.out 0).trans rfl
 have hwp := int_wf p (by have := HPR.out; omega) (by have := HPR.out; have := HL.out; omega)
 have hwl := int_wf (l.length : Int) (by omega) (by have := HL.out; omega)
 have hn : n < maxLen := by have := HGE.out.2.2.2.2; have := HL.out; unfold maxLen; omega
 have HWL := Lib.hid hwl
 have HWP := Lib.hid hwp
 go_still_tail 11, (by kernel_rfl)
 go_wp2_with (first | (at_mapUpdate; go_loud (refine wpList_mapUpdate_own _ rfl _ _ _ 57 rfl 3 3 (Maps.int_keyed Try.underlying3) Try.underlying57 _ m n D rfl (World.ownsMap.drew g4.out) hn _ _ (.int .i64 p) rfl rfl (Maps.keyOf_int_mk Try.underlying3 hwp) (.lit (.int .i64 (l.length : Int))) [] (plainElem_int Try.underlying3 hwl) ?_; intro w1 hown1 hgrow1)))
 have hmg := map_ne g4.out g1.out
 have k1 := Aside0.mk (blk_grown (blk_drew g1.out) hgrow1 (fun h => hmg (by injection h with h; exact h.symm)))
 have kX := Aside0.mk (blk_grown (blk_drew HX.out) hgrow1 (fun h => map_ne g4.out HX.out (by injection h with h; exact h.symm)))
 have k2 := Aside0.mk (S_map (Kd.S_drew g2.out) (World.ownsMap.drew g4.out) hgrow1)
 have k3 := Aside0.mk (R_map (Kd.R_drew g3.out) (World.ownsMap.drew g4.out) hgrow1)
 have kA := Aside0.mk (node_apart (ok := fun k => k < N) (R_map (Kd.R_drew gA.out) (World.ownsMap.drew g4.out) hgrow1) k2.out)
 have hWB : B ≤ W.heap.size := by have := HSZ.out; have := HGE.out; omega
 have kB := Aside0.mk (Below.grown (below_drew HBW.out) hgrow1 hWB (fun k hk => by injection hk with hk; rw [← hk]; exact HGE.out.2.2.2.1))
 have k4 := Aside0.mk hown1
 have kS := Aside0.mk (HST.out.trans (show Stay W w1 from Stay.map (w := W.drew) (World.ownsMap.drew g4.out) hgrow1))
 clear HST
 have HMG := Lib.hid hmg
 have hw1 : W.heap.size ≤ w1.heap.size := by obtain ⟨_, _, _, hs_, _⟩ := hgrow1; exact hs_
 have HW1 := Lib.hid (show w.heap.size ≤ w1.heap.size ∧ B ≤ w1.heap.size from ⟨Nat.le_trans HSZ.out hw1, Nat.le_trans hWB hw1⟩)
 have HMP := Aside0.mk (El.MapIs.snoc H6.out (World.ownsMap.isMap g4.out) ⟨p, nd.f1, nd.f2, nd.f3⟩ HWP.out)
 clear hgrow1 hown1 hmg hw1 hWB g1 g2 g3 g4 gA HX HBW H6 hwp hwl hn x0 x2 y0 HSZ
 clear W
 have x0 := (blk_cell k1.out 0).trans rfl
 have z0 := blk_frozen k1.out 0
 have x0a := fun o => (blk_cell (blk_alloc k1.out o) 0).trans rfl
 have y0 := (blk_cell kX.out 0).trans rfl
 have y1 := (blk_cell kX.out 1).trans rfl
 have y2 := (blk_cell kX.out 2).trans rfl
 have y3 := (blk_cell kX.out 3).trans rfl
 have hll := HL.out
 go_region_law (refine Kd.S_append_step k29 (w0 := w) (W := w1.drew) B (by rfl) (.tmp 29) (.tmp 31) 23 29 _ 64 rfl Try.underlying23 ndInfo rfl (by decide) (by decide) (.slice A1 l.length c1) l ⟨p, nd.f1, nd.f2, nd.f3⟩ [.int .i64 p, .string nd.f1, .string nd.f2, .slice A0 nd.f3.length c0] (fun k => True) (fun k => N ≤ k ∧ some k ≠ (Value.slice A1 l.length c1).ownBlock) rfl rfl (k29_mkM _ _ _ ⟨p, nd.f1, nd.f2, nd.f3⟩ (Kd.R_drew kA.out)) (fun k hk => ⟨trivial, hk.2⟩) (fun _ _ => trivial) (Kd.S_mono (Kd.S_drew k2.out) (fun k hk => ⟨trivial, fun h => by have := h.1; omega⟩)) (below_drew kB.out) HW1.out.2 (by omega) ?_; intro v1 w2 r1 b1 gg at1; obtain ⟨A3, c3, rfl⟩ := Kd.S_slice r1; have R1 := Aside0.mk r1; have B1 := Aside0.mk b1; have G1 := Aside0.mk (blk_grown (blk_drew k1.out) gg (Kd.S_ne k2.out k1.out (by decide))); have G3 := Aside0.mk (Kd.R_over' (Kd.R_drew k3.out) (Kd.S_typed (Kd.S_drew k2.out)) (by decide) gg); have G4 := Aside0.mk (World.ownsMap.kept (World.ownsMap.drew k4.out) gg (map_off k4.out k2.out)); have GS := Aside0.mk (kS.out.trans (show Stay w1 w2 from Stay.row (w := w1.drew) (Kd.S_typed (Kd.S_drew k2.out)) (by decide) gg)); clear r1 b1 gg at1; have zz2 := blk_frozen G1.out 0; have yy2 := (blk_cell G1.out 0).trans rfl)
 all_goals
  go_wp2
  go_ret
  have hGE := HGE.out
  have G2 := blk_set G1.out 0 (.slice A3 (l ++ [(⟨p, nd.f1, nd.f2, nd.f3⟩ : El.Nd)]).length c3)
  have R2 := Kd.S_set R1.out G1.out (by decide) 0 (.slice A3 (l ++ [(⟨p, nd.f1, nd.f2, nd.f3⟩ : El.Nd)]).length c3)
  have R3 := Kd.R_set G3.out G1.out (by decide) 0 (.slice A3 (l ++ [(⟨p, nd.f1, nd.f2, nd.f3⟩ : El.Nd)]).length c3)
  have B2 := B1.out.setCell (p := ⟨g, 0, none⟩) hGE.1 (.slice A3 (l ++ [(⟨p, nd.f1, nd.f2, nd.f3⟩ : El.Nd)]).length c3)
  have M2 := World.ownsMap.setCell G4.out (a := ⟨g, 0, none⟩) HMG.out (.slice A3 (l ++ [(⟨p, nd.f1, nd.f2, nd.f3⟩ : El.Nd)]).length c3)
  have el : (l ++ [(⟨p, nd.f1, nd.f2, nd.f3⟩ : El.Nd)]).length = l.length + 1 := by simp
  rw [el] at G2 R2 B2 R3 M2
  exact ⟨rfl, ⟨_, _, m, n + 1, _, by simpa using G2, Kd.S_mono (Kd.S_bound R2) (fun k hk => hk.2.2.1), R3, M2, by rw [el]; omega, HMP.out, hGE.1, hGE.2.2.2.1, hGE.2.2.1⟩, B2, GS.out.trans (Stay.set G1.out (by decide) 0 _)⟩


end Go.Proofs.Ytkoogebfdinbnaa.Q

-- Printed by this session's wip/np.py over the kit's print program. Not trusted: Lean checks it.
namespace Go.Proofs.Ytkoogebfdinbnaa.Q
open Go.RowKit Go.Proofs.YtkoogebfdinbnaaW.PrintWords Go.Proofs.YtkoogebfdinbnaaW.PrintLast Go.Proofs.YtkoogebfdinbnaaW.Own Go.Proofs.YtkoogebfdinbnaaW.PrintMore
attribute [local go_sem] max2_int min2_int max_two min_two max_three min_three max_four min_four
set_option linter.unusedVariables false
set_option linter.unusedSimpArgs false

/-! ### api_Attr_45: function 45 -/
theorem cloneInfo : (Try.prog.info? 68).map (fun i => (i.zero, i.size, i.bytes)) = some (some (.agg #[.string ⟨#[]⟩, .string ⟨#[]⟩]), 2, 32) := by kernel_rfl
theorem equalIn_slice {P : Program} (w : World) (d : Nat) (t e : TypeId) (a : Option Addr) (n c : Nat) (h : P.underlying t = some (.slice e)) : (Op.equalIn (d + 1) t (.slice a n c) (.slice none 0 0)).run P w = .ok a.isNone w := by
 cases a <;> simp [Op.equalIn, run_underlying h]
theorem eql_slice {P : Program} (w : World) (t e : TypeId) (a : Option Addr) (n c : Nat) (h : P.underlying t = some (.slice e)) : (binOp .eql t (.slice a n c) (.slice none 0 0)).run P w = .ok (.bool a.isNone) w := by
 simp only [binOp]
 simp [Op.equal, Op.maxDepth, equalIn_slice w 9999 t e a n c h]
set_option maxHeartbeats 4000000 in
set_option maxRecDepth 100000 in
theorem api_Attr_45.calls (A0 : Option Addr) (c0 : Nat) (l0 : List S68) (w : World) (hr0 : Kd.C k68 w A0 l0.length l0) (hl : l0.length ≤ 1000000) :
 Calls Try.prog 45 #[.slice A0 l0.length c0] w fun e w' => ∃ v0_ : Value, e = .returned v0_ ∧ Kd.R k68 68 w' w.heap.size (fun _ => True) v0_ l0 ∧ Below w.heap.size w w' := by
 have HR0 := Aside0.mk hr0
 clear hr0
 go_enter Try.func45, Try.ntmps45
 cases A0 with
 | none =>
  have hq : (binOp .eql 27 (.slice none l0.length c0) (.slice none 0 0)).run Try.prog w = .ok (.bool true) w := eql_slice w 27 68 none l0.length c0 Try.underlying27
  have h0 : l0 = [] := by
   refine List.eq_nil_of_length_eq_zero (Classical.byContradiction fun h => ?_)
   obtain ⟨ad, h, _⟩ := HR0.out.2.2 (by omega)
   cases h
  subst h0
  have hq2 : (binOp .eql 27 (.slice none 0 c0) (.slice none 0 0)).run Try.prog w = .ok (.bool true) w := hq
  go_wp2
  go_ret
  exact ⟨_, rfl, Kd.R_nil _ _ _ _ _, Below.refl _ _⟩
 | some ad =>
  have hq : (binOp .eql 27 (.slice (some ad) l0.length c0) (.slice none 0 0)).run Try.prog w = .ok (.bool false) w := eql_slice w 27 68 (some ad) l0.length c0 Try.underlying27
  have hlt : w.heap.size ≤ (w.alloc (.cells #[] 68)).heap.size := (below_alloc (Below.refl _ w) _).size
  have hX : Kd.R k68 68 (w.alloc (.cells #[] 68)) w.heap.size (fun _ => True) (.slice (some ⟨w.heap.size, 0, none⟩) 0 0) [] :=
   ⟨fun _ _ => trivial, [], World.ownsRow_lit w #[] 0 (Nat.le_refl _) (Nat.zero_le _) rfl, Reps.none _ _⟩
  have HX := Aside0.mk hX
  have HB := Aside0.mk (below_alloc (Below.refl w.heap.size w) (.cells #[] 68))
  have HC := Aside0.mk (Kd.C_below HR0.out HB.out)
  clear hX
  go_wp2_with (first | (at_builtin; go_loud (refine Kd.R_append_rows k68 (w0 := w) w.heap.size rfl _ _ 27 68 _ 32 rfl Try.underlying27 cloneInfo rfl (by decide) (by decide) _ [] l0 (some ad) l0.length c0 (fun _ => True) (fun _ => False) rfl rfl HX.out HC.out (fun x cs h => by obtain rfl := k68_open h; exact k68_mkM _ _ _ x) (fun _ h => h.elim) (fun _ _ => trivial) HB.out hlt (by simp only [List.length_nil]; omega) ?_; intro v1 w1 hr1 hb1 _ _)))
  go_ret
  exact ⟨_, rfl, by simpa using hr1, hb1⟩


end Go.Proofs.Ytkoogebfdinbnaa.Q

-- Printed by this session's wip/np.py over the kit's print program. Not trusted: Lean checks it.
namespace Go.Proofs.Ytkoogebfdinbnaa.Q
open Go.RowKit Go.Proofs.YtkoogebfdinbnaaW.PrintWords Go.Proofs.YtkoogebfdinbnaaW.PrintLast Go.Proofs.YtkoogebfdinbnaaW.Own Go.Proofs.YtkoogebfdinbnaaW.PrintMore
attribute [local go_sem] max2_int min2_int max_two min_two max_three min_three max_four min_four
set_option linter.unusedVariables false
set_option linter.unusedSimpArgs false

/-! ### element_builder_begin: function 29 -/
theorem size_nul (s : ByteArray) : s.toList.isEmpty = decide (s = El.nul) := by
 rw [Bool.eq_iff_iff, List.isEmpty_iff, decide_eq_true_eq, toList_data]
 constructor
 ·intro h
  cases s with | mk d => cases d with | mk l => exact congrArg (fun x : List UInt8 => (⟨⟨x⟩⟩ : ByteArray)) h
 ·rintro rfl; rfl
theorem intInfo : (Try.prog.info? 3).map (fun i => (i.zero, i.size, i.bytes)) = some (some (.int .i64 0), 1, 8) := by kernel_rfl
set_option maxHeartbeats 8000000 in
set_option maxRecDepth 100000 in
theorem element_builder_begin.early (B g N : Nat) (l : List El.Nd) (op : List Int) (t : El.Tok) (va : Value) (r : Int) (w : World) (h : BAt w B g N l op) (hl : l.length ≤ 100000) (hop : op.length ≤ 100000)
 (hr : (if t.f1 = El.nul then some (5 : Int) else if op = [] ∧ l ≠ [] then some 6 else if 20 ≤ op.length then some 7 else none) = some r) :
 Calls Try.prog 29 #[.pointer (some ⟨g, 0, none⟩), .agg #[.int .i64 t.f0, .string t.f1, .string t.f2, va, .bool t.f4]] w fun e w' => e = .returned (.int .i64 r) ∧ Below w.heap.size w w' := by
 obtain ⟨v1, v2, m, n, D, h1, h2, h3, _⟩ := h
 obtain ⟨A1, c1, rfl⟩ := Kd.S_slice h2
 obtain ⟨A2, c2, rfl⟩ := Kd.R_slice h3
 obtain ⟨W, hW⟩ : ∃ W, W = w.alloc (.cells #[.int .i64 t.f0, .string t.f1, .string t.f2, va, .bool t.f4] 40) := ⟨_, rfl⟩
 have x0 := (blk_cell (blk_alloc h1 (.cells #[.int .i64 t.f0, .string t.f1, .string t.f2, va, .bool t.f4] 40)) 0).trans rfl
 have x1 := (blk_cell (blk_alloc h1 (.cells #[.int .i64 t.f0, .string t.f1, .string t.f2, va, .bool t.f4] 40)) 1).trans rfl
 have y1 := (blk_cell (heap_alloc_new w (.cells #[.int .i64 t.f0, .string t.f1, .string t.f2, va, .bool t.f4] 40)) 1).trans rfl
 have hu := Try.underlying59
 have ht := Try.underlying40
 have HB := Aside0.mk (below_alloc (Below.refl w.heap.size w) (.cells #[.int .i64 t.f0, .string t.f1, .string t.f2, va, .bool t.f4] 40))
 have s1 := size_nul t.f1
 clear h1 h2 h3 hW
 go_enter Try.func29, Try.ntmps29
 by_cases c1_ : t.f1 = El.nul
 ·rw [if_pos c1_] at hr
  obtain rfl := Option.some.inj hr
  rw [decide_eq_true c1_] at s1
  clear c1_ hr
  go_wp2
  go_ret
  exact ⟨rfl, HB.out⟩
 rw [if_neg c1_] at hr
 rw [decide_eq_false c1_] at s1
 by_cases c2_ : op = [] ∧ l ≠ []
 ·rw [if_pos c2_] at hr
  obtain rfl := Option.some.inj hr
  obtain ⟨rfl, c3_⟩ := c2_
  have hll : l.length ≠ 0 := fun h => c3_ (List.eq_nil_of_length_eq_zero h)
  have d1 : decide ((0 : Int) < (l.length : Int)) = true := decide_eq_true (by omega)
  have d2 : decide (0 < l.length) = true := decide_eq_true (by omega)
  clear c1_ c3_ hr hll
  go_wp2
  go_ret
  exact ⟨rfl, HB.out⟩
 rw [if_neg c2_] at hr
 by_cases c4_ : 20 ≤ op.length
 ·rw [if_pos c4_] at hr
  obtain rfl := Option.some.inj hr
  have d0 : ((op.length : Int) == 0) = false := beq_eq_false_iff_ne.mpr (by omega)
  have d0' : (op.length == 0) = false := beq_eq_false_iff_ne.mpr (by omega)
  have d1 : decide ((20 : Int) ≤ (op.length : Int)) = true := decide_eq_true (by omega)
  have d2 : decide (20 ≤ op.length) = true := decide_eq_true (by omega)
  clear c1_ c2_ hr c4_
  go_wp2
  go_ret
  exact ⟨rfl, HB.out⟩
 ·rw [if_neg c4_] at hr
  cases hr
theorem map_offR {α : Type} {d : Kd α} {e base : Nat} {ok : Nat → Prop} {w : World} {v : Value} {xs : List α} {P : Program} {k m n : Nat} {R : Value → Option (DataW Unit × List MemPlace)} {D : DataW Unit} (hm : w.ownsMap P k R m n D) (h : d.R e w base ok v xs) : some m ≠ v.ownBlock := by
 intro he
 obtain ⟨cells, hc⟩ := Kd.R_typed h m he.symm
 exact map_ne hm hc rfl
set_option maxHeartbeats 16000000 in
set_option maxRecDepth 100000 in
theorem element_builder_begin.full (B g N : Nat) (l : List El.Nd) (op : List Int) (t : El.Tok) (A3 : Option Addr) (c3 : Nat) (w : World) (h : BAt w B g N l op) (hc3 : Kd.C k68 w A3 t.f3.length t.f3) (hlen : t.f3.length ≤ 1000000) (hl : 2000 ≤ l.length) (hl2 : l.length ≤ 100000) (hop : op.length < 20) (hin : ∀ i ∈ op, 0 ≤ i ∧ i < (l.length : Int)) (hn : t.f1 ≠ El.nul) (hroot : ¬ (op = [] ∧ l ≠ [])) :
 Calls Try.prog 29 #[.pointer (some ⟨g, 0, none⟩), .agg #[.int .i64 t.f0, .string t.f1, .string t.f2, .slice A3 t.f3.length c3, .bool t.f4]] w fun e w' => e = .returned (.int .i64 3) ∧ Below w.heap.size w w' := by
 have H := Aside0.mk h
 obtain ⟨hgB, hgl, hpos⟩ := h.ge
 have HGE := Lib.hid (show B ≤ g ∧ g < w.heap.size ∧ 0 < B from ⟨hgB, hgl, hpos⟩)
 obtain ⟨v1, v2, m, n, D, h1, h2, h3, _⟩ := h
 obtain ⟨A1, c1, rfl⟩ := Kd.S_slice h2
 obtain ⟨A2, c2, rfl⟩ := Kd.R_slice h3
 obtain ⟨W, hW⟩ : ∃ W, W = w.alloc (.cells #[.int .i64 t.f0, .string t.f1, .string t.f2, .slice A3 t.f3.length c3, .bool t.f4] 40) := ⟨_, rfl⟩
 have hX : W.heap[w.heap.size]? = some (.cells #[.int .i64 t.f0, .string t.f1, .string t.f2, .slice A3 t.f3.length c3, .bool t.f4] 40 (0, 0)) := by rw [hW]; exact heap_alloc_new w _
 have hBW : Below w.heap.size w W := by rw [hW]; exact below_alloc (Below.refl _ _) _
 have x0 := (blk_cell (blk_below h1 hBW) 0).trans rfl
 have x1 := (blk_cell (blk_below h1 hBW) 1).trans rfl
 have y1 := (blk_cell hX 1).trans rfl
 have y3 := (blk_cell hX 3).trans rfl
 rw [hW] at x0 x1 y1 y3
 have hu := Try.underlying59
 have ht := Try.underlying40
 have hu2 := Try.underlying29
 have s1 := size_nul t.f1
 rw [decide_eq_false hn] at s1
 have d4 : decide ((20 : Int) ≤ (op.length : Int)) = false := decide_eq_false (by omega)
 have d4' : decide (20 ≤ op.length) = false := decide_eq_false (by omega)
 have HB := Aside0.mk hBW
 have HX := Aside0.mk hX
 have HW := Aside0.mk ((H.out.now).below hBW).now
 have HC := Aside0.mk (Kd.C_below hc3 hBW)
 have HIN := Lib.hid hin
 have HL := Lib.hid (And.intro hl hl2)
 have HOP := Lib.hid hop
 have HWS := Lib.hid (show w.heap.size ≤ W.heap.size ∧ B ≤ W.heap.size from ⟨hBW.size, by have := hBW.size; omega⟩)
 have WS := Aside0.mk hW
 clear h1 h2 h3 hX hBW H hc3 hin hn hgB hgl hpos hl hl2
 go_enter Try.func29, Try.ntmps29
 have key : (((op.length : Int) == 0) = true ∧ (op.length == 0) = true ∧ decide ((0 : Int) < (l.length : Int)) = false ∧ decide (0 < l.length) = false) ∨ (((op.length : Int) == 0) = false ∧ (op.length == 0) = false) := by
  by_cases h0 : op = []
  ·left
   have hl0 : l = [] := Classical.byContradiction fun h => hroot ⟨h0, h⟩
   subst h0; subst hl0
   exact ⟨rfl, rfl, rfl, rfl⟩
  ·right
   exact ⟨beq_eq_false_iff_ne.mpr (fun h => h0 (List.eq_nil_of_length_eq_zero (by omega))), beq_eq_false_iff_ne.mpr (fun h => h0 (List.eq_nil_of_length_eq_zero h))⟩
 clear hroot hW hop
 rcases key with ⟨k1, k1', k2, k2'⟩ | ⟨k1, k1'⟩
 ·go_wp2
  rw [← WS.out]
  clear x0 x1 y1 y3
  have y1 := (blk_cell HX.out 1).trans rfl
  have y3 := (blk_cell HX.out 3).trans rfl
  go_region_law (first | (go_simp; go_at_call 45; (with_reducible refine (api_Attr_45.calls A3 c3 t.f3 _ (Kd.C_drew HC.out) hlen).mono ?_); rintro e w1 ⟨v, rfl, hr, hb⟩; obtain ⟨Av, cv, rfl⟩ := Kd.R_slice hr; have B1 := Aside0.mk (BAt.below (HW.out.below (below_drew (Below.refl _ _))) hb); have RA := Aside0.mk (Kd.R_lower (Kd.R_mono (ok' := fun k => W.heap.size ≤ k) (Kd.R_bound hr) (fun k hk => hk.2.1)) HWS.out.2); have X1 := Aside0.mk (blk_below (blk_drew HX.out) hb); have N1 := Aside0.mk (show W.heap.size ≤ w1.heap.size from hb.size); have BB1 := Aside0.mk (show Below w.heap.size w w1 from (below_drew HB.out).trans (hb.mono HWS.out.1)); clear hr hb; have z1 := (blk_cell X1.out 1).trans rfl) | (go_simp; go_at_call 44; (with_reducible refine (element_builder_put.full B g W.heap.size l op (⟨0, t.f1, (⟨#[]⟩ : ByteArray), t.f3⟩ : El.Nd) _ _ B1.out HL.out.1 HL.out.2).mono ?_); rintro e w2 ⟨rfl, hb2⟩; have B2 := Aside0.mk (below_step BB1.out hb2); clear hb2))
  all_goals
   go_wp2
   go_ret
   exact ⟨rfl, B2.out⟩
 ·go_wp2
  rw [← WS.out]
  clear x0 x1 y1 y3
  have y1 := (blk_cell HX.out 1).trans rfl
  have y3 := (blk_cell HX.out 3).trans rfl
  go_region_law (first | (go_simp; go_at_call 45; (with_reducible refine (api_Attr_45.calls A3 c3 t.f3 _ (Kd.C_drew HC.out) hlen).mono ?_); rintro e w1 ⟨v, rfl, hr, hb⟩; obtain ⟨Av, cv, rfl⟩ := Kd.R_slice hr; have B1 := Aside0.mk (BAt.below (HW.out.below (below_drew (Below.refl _ _))) hb); have RA := Aside0.mk (Kd.R_lower (Kd.R_mono (ok' := fun k => W.heap.size ≤ k) (Kd.R_bound hr) (fun k hk => hk.2.1)) HWS.out.2); have X1 := Aside0.mk (blk_below (blk_drew HX.out) hb); have N1 := Aside0.mk (show W.heap.size ≤ w1.heap.size from hb.size); have BB1 := Aside0.mk (show Below w.heap.size w w1 from (below_drew HB.out).trans (hb.mono HWS.out.1)); clear hr hb; have z1 := (blk_cell X1.out 1).trans rfl) | (go_simp; go_at_call 44; (with_reducible refine (element_builder_put.full B g W.heap.size l op (⟨0, t.f1, (⟨#[]⟩ : ByteArray), t.f3⟩ : El.Nd) _ _ B1.out HL.out.1 HL.out.2).mono ?_); rintro e w2 ⟨rfl, hb2⟩; have B2 := Aside0.mk (below_step BB1.out hb2); clear hb2))
  all_goals
   go_wp2
   go_ret
   exact ⟨rfl, B2.out⟩
set_option maxHeartbeats 16000000 in
set_option maxRecDepth 100000 in
theorem element_builder_begin.room (B g N : Nat) (l : List El.Nd) (op : List Int) (t : El.Tok) (A3 : Option Addr) (c3 : Nat) (w : World) (h : BAt w B g N l op) (hc3 : Kd.C k68 w A3 t.f3.length t.f3) (hlen : t.f3.length ≤ 1000000) (hl : l.length < 2000) (hl2 : l.length ≤ 100000) (hop : op.length < 20) (hin : ∀ i ∈ op, 0 ≤ i ∧ i < (l.length : Int)) (hn : t.f1 ≠ El.nul) (hroot : ¬ (op = [] ∧ l ≠ [])) :
 Calls Try.prog 29 #[.pointer (some ⟨g, 0, none⟩), .agg #[.int .i64 t.f0, .string t.f1, .string t.f2, .slice A3 t.f3.length c3, .bool t.f4]] w fun e w' => e = .returned (.int .i64 0) ∧ BAt w' B g w'.heap.size (l ++ [⟨El.inner op, t.f1, El.nul, t.f3⟩]) (if t.f4 = true then op else op ++ [(l.length : Int)]) ∧ Below B w w' := by
 obtain ⟨op', hop'⟩ : ∃ op', op' = if t.f4 = true then op else op ++ [(l.length : Int)] := ⟨_, rfl⟩
 rw [← hop']
 have HO' := Lib.hid hop'
 clear hop'
 have H := Aside0.mk h
 obtain ⟨hgB, hgl, hpos⟩ := h.ge
 have HGE := Lib.hid (show B ≤ g ∧ g < w.heap.size ∧ 0 < B from ⟨hgB, hgl, hpos⟩)
 obtain ⟨v1, v2, m, n, D, h1, h2, h3, _⟩ := h
 obtain ⟨A1, c1, rfl⟩ := Kd.S_slice h2
 obtain ⟨A2, c2, rfl⟩ := Kd.R_slice h3
 obtain ⟨W, hW⟩ : ∃ W, W = w.alloc (.cells #[.int .i64 t.f0, .string t.f1, .string t.f2, .slice A3 t.f3.length c3, .bool t.f4] 40) := ⟨_, rfl⟩
 have hX : W.heap[w.heap.size]? = some (.cells #[.int .i64 t.f0, .string t.f1, .string t.f2, .slice A3 t.f3.length c3, .bool t.f4] 40 (0, 0)) := by rw [hW]; exact heap_alloc_new w _
 have hBW : Below w.heap.size w W := by rw [hW]; exact below_alloc (Below.refl _ _) _
 have x0 := (blk_cell (blk_below h1 hBW) 0).trans rfl
 have x1 := (blk_cell (blk_below h1 hBW) 1).trans rfl
 have y1 := (blk_cell hX 1).trans rfl
 have y3 := (blk_cell hX 3).trans rfl
 rw [hW] at x0 x1 y1 y3
 have hu := Try.underlying59
 have ht := Try.underlying40
 have hu2 := Try.underlying29
 have s1 := size_nul t.f1
 rw [decide_eq_false hn] at s1
 have d4 : decide ((20 : Int) ≤ (op.length : Int)) = false := decide_eq_false (by omega)
 have d4' : decide (20 ≤ op.length) = false := decide_eq_false (by omega)
 have HB := Aside0.mk hBW
 have HX := Aside0.mk hX
 have HW := Aside0.mk ((H.out.now).below hBW).now
 have HC := Aside0.mk (Kd.C_below hc3 hBW)
 have HIN := Lib.hid hin
 have HL := Lib.hid (And.intro hl hl2)
 have HOP := Lib.hid hop
 have HWS := Lib.hid (show w.heap.size ≤ W.heap.size ∧ B ≤ W.heap.size from ⟨hBW.size, by have := hBW.size; omega⟩)
 have WS := Aside0.mk hW
 clear h1 h2 h3 hX hBW H hc3 hin hn hgB hgl hpos hl hl2
 go_enter Try.func29, Try.ntmps29
 have key : (((op.length : Int) == 0) = true ∧ (op.length == 0) = true ∧ decide ((0 : Int) < (l.length : Int)) = false ∧ decide (0 < l.length) = false) ∨ (((op.length : Int) == 0) = false ∧ (op.length == 0) = false) := by
  by_cases h0 : op = []
  ·left
   have hl0 : l = [] := Classical.byContradiction fun h => hroot ⟨h0, h⟩
   subst h0; subst hl0
   exact ⟨rfl, rfl, rfl, rfl⟩
  ·right
   exact ⟨beq_eq_false_iff_ne.mpr (fun h => h0 (List.eq_nil_of_length_eq_zero (by omega))), beq_eq_false_iff_ne.mpr (fun h => h0 (List.eq_nil_of_length_eq_zero h))⟩
 clear hroot hW hop
 rcases key with ⟨k1, k1', k2, k2'⟩ | ⟨k1, k1'⟩
 ·go_wp2
  rw [← WS.out]
  clear x0 x1 y1 y3
  have y1 := (blk_cell HX.out 1).trans rfl
  have y3 := (blk_cell HX.out 3).trans rfl
  go_region_law (first | (go_simp; go_at_call 45; (with_reducible refine (api_Attr_45.calls A3 c3 t.f3 _ (Kd.C_drew HC.out) hlen).mono ?_); rintro e w1 ⟨v, rfl, hr, hb⟩; obtain ⟨Av, cv, rfl⟩ := Kd.R_slice hr; have B1 := Aside0.mk (BAt.below (HW.out.below (below_drew (Below.refl _ _))) hb); have RA := Aside0.mk (Kd.R_lower (Kd.R_mono (ok' := fun k => W.heap.size ≤ k) (Kd.R_bound hr) (fun k hk => hk.2.1)) HWS.out.2); have X1 := Aside0.mk (blk_below (blk_drew HX.out) hb); have N1 := Aside0.mk (show W.heap.size ≤ w1.heap.size from hb.size); have BB1 := Aside0.mk (show Below w.heap.size w w1 from (below_drew HB.out).trans (hb.mono HWS.out.1)); clear hr hb; have z1 := (blk_cell X1.out 1).trans rfl) | (go_simp; go_at_call 44; (with_reducible refine (element_builder_put.room B g W.heap.size l op (⟨0, t.f1, (⟨#[]⟩ : ByteArray), t.f3⟩ : El.Nd) _ _ B1.out N1.out RA.out HL.out.1 (by have := HOP.out; omega) HIN.out).mono ?_); rintro e w2 ⟨rfl, hbt, hb2, hS⟩; have T2 := Aside0.mk hbt; have B2 := Aside0.mk (show Below B w w2 from (BB1.out.mono (Nat.le_of_lt (Nat.lt_of_le_of_lt HGE.out.1 HGE.out.2.1))).trans hb2); have X2 := Aside0.mk (hS _ _ X1.out); have z4 := (blk_cell X2.out 4).trans rfl; clear hbt hb2 hS))
  all_goals
   cases hf : t.f4 with
   | true =>
    rw [hf] at z4
    go_wp2
    go_ret
    have ho := HO'.out
    rw [hf, if_pos rfl] at ho
    rw [ho]
    exact ⟨rfl, T2.out, B2.out⟩
   | false =>
    rw [hf] at z4
    obtain ⟨l2, hl2⟩ : ∃ l2, l2 = l ++ [(⟨El.inner op, t.f1, El.nul, t.f3⟩ : El.Nd)] := ⟨_, rfl⟩
    have hlen2 : l2.length = l.length + 1 := by rw [hl2]; simp
    have hT2 : BAt w2 B g w2.heap.size l2 op := by rw [hl2]; exact T2.out
    obtain ⟨v1, v2, m', n', D', h1, h2, h3, h4, h5, h6, h7, h8, h9⟩ := hT2
    obtain ⟨A1', c1', rfl⟩ := Kd.S_slice h2
    obtain ⟨A2', c2', rfl⟩ := Kd.R_slice h3
    have hll := HL.out
    have hoo := HOP.out
    have ew : wrap64 ((l2.length : Int) - 1) = (l.length : Int) := by unfold wrap64; omega
    have ew' : IntKind.i64.wrap ((l2.length : Int) - 1) = (l.length : Int) := by rw [i64_w]; exact ew
    have hmg := map_ne h4 h1
    have HL2 := Lib.hid hl2
    have HN2 := Lib.hid (And.intro h5 hlen2)
    have HH := Lib.hid (And.intro h7 (And.intro h8 (And.intro h9 hmg)))
    have k1 := Aside0.mk h1
    have k2 := Aside0.mk h2
    have k3 := Aside0.mk h3
    have k4 := Aside0.mk h4
    have k6 := Aside0.mk h6
    clear h1 h2 h3 h4 h5 h6 h7 h8 h9 hmg hl2 hlen2 T2
    (try rw [hf])
    have x0 := (blk_cell k1.out 0).trans rfl
    have x1 := (blk_cell k1.out 1).trans rfl
    have zf := blk_frozen k1.out 1
    have x1a := fun o => (blk_cell (blk_alloc k1.out o) 1).trans rfl
    have hw2 : B ≤ w2.heap.size := by have := blk_lt k1.out; have := HH.out.1; omega
    go_wp2
    go_region_law (refine Kd.R_append_step (Kd.int .i64) (w0 := w) (W := w2.drew) B (by rfl) (.tmp 50) (.tmp 57) 34 3 _ 8 rfl Try.underlying34 intInfo rfl (by decide) (by decide) (.slice A2' op.length c2') op (l.length : Int) [.int .i64 (l.length : Int)] (fun _ => True) (fun _ => False) rfl rfl rfl (fun _ h => h.elim) (fun _ _ => trivial) (Kd.R_drew k3.out) (below_drew B2.out) hw2 (by omega) ?_; intro v3 w3 r1 b1 gg at1; obtain ⟨A4, c4, rfl⟩ := Kd.R_slice r1; have R1 := Aside0.mk r1; have BB3 := Aside0.mk b1; have G1 := Aside0.mk (blk_grown (blk_drew k1.out) gg (Kd.R_ne (Kd.R_drew k3.out) (blk_drew k1.out) (by decide))); have G2 := Aside0.mk (Kd.S_over' (Kd.S_drew k2.out) (Kd.R_typed (Kd.R_drew k3.out)) (by decide) gg); have G4 := Aside0.mk (World.ownsMap.kept (World.ownsMap.drew k4.out) gg (map_offR (World.ownsMap.drew k4.out) (Kd.R_drew k3.out))); clear r1 b1 gg at1; have zz := blk_frozen G1.out 1; have yy := (blk_cell G1.out 1).trans rfl)
    all_goals
     go_wp2
     go_ret
     have hH := HH.out
     have P1 := blk_set G1.out 1 (.slice A4 (op ++ [(l.length : Int)]).length c4)
     have P2 := Kd.S_set G2.out G1.out (by decide) 1 (.slice A4 (op ++ [(l.length : Int)]).length c4)
     have P3 := Kd.R_set R1.out G1.out (by decide) 1 (.slice A4 (op ++ [(l.length : Int)]).length c4)
     have PB := BB3.out.setCell (p := ⟨g, 1, none⟩) hH.1 (.slice A4 (op ++ [(l.length : Int)]).length c4)
     have PM := World.ownsMap.setCell G4.out (a := ⟨g, 1, none⟩) hH.2.2.2 (.slice A4 (op ++ [(l.length : Int)]).length c4)
     have el : (op ++ [(l.length : Int)]).length = op.length + 1 := by simp
     rw [el] at P1 P2 PB P3 PM
     have ho := HO'.out
     rw [hf, if_neg (show ¬ (false = true) by decide)] at ho
     rw [← HL2.out, ho]
     exact ⟨rfl, ⟨_, _, m', n', _, by simpa using P1, Kd.S_mono (Kd.S_bound P2) (fun k hk => hk.2.2.1), P3, PM, HN2.out.1, k6.out, hH.1, hH.2.1, hH.2.2.1⟩, PB⟩
 ·go_wp2
  rw [← WS.out]
  clear x0 x1 y1 y3
  have y1 := (blk_cell HX.out 1).trans rfl
  have y3 := (blk_cell HX.out 3).trans rfl
  go_region_law (first | (go_simp; go_at_call 45; (with_reducible refine (api_Attr_45.calls A3 c3 t.f3 _ (Kd.C_drew HC.out) hlen).mono ?_); rintro e w1 ⟨v, rfl, hr, hb⟩; obtain ⟨Av, cv, rfl⟩ := Kd.R_slice hr; have B1 := Aside0.mk (BAt.below (HW.out.below (below_drew (Below.refl _ _))) hb); have RA := Aside0.mk (Kd.R_lower (Kd.R_mono (ok' := fun k => W.heap.size ≤ k) (Kd.R_bound hr) (fun k hk => hk.2.1)) HWS.out.2); have X1 := Aside0.mk (blk_below (blk_drew HX.out) hb); have N1 := Aside0.mk (show W.heap.size ≤ w1.heap.size from hb.size); have BB1 := Aside0.mk (show Below w.heap.size w w1 from (below_drew HB.out).trans (hb.mono HWS.out.1)); clear hr hb; have z1 := (blk_cell X1.out 1).trans rfl) | (go_simp; go_at_call 44; (with_reducible refine (element_builder_put.room B g W.heap.size l op (⟨0, t.f1, (⟨#[]⟩ : ByteArray), t.f3⟩ : El.Nd) _ _ B1.out N1.out RA.out HL.out.1 (by have := HOP.out; omega) HIN.out).mono ?_); rintro e w2 ⟨rfl, hbt, hb2, hS⟩; have T2 := Aside0.mk hbt; have B2 := Aside0.mk (show Below B w w2 from (BB1.out.mono (Nat.le_of_lt (Nat.lt_of_le_of_lt HGE.out.1 HGE.out.2.1))).trans hb2); have X2 := Aside0.mk (hS _ _ X1.out); have z4 := (blk_cell X2.out 4).trans rfl; clear hbt hb2 hS))
  all_goals
   cases hf : t.f4 with
   | true =>
    rw [hf] at z4
    go_wp2
    go_ret
    have ho := HO'.out
    rw [hf, if_pos rfl] at ho
    rw [ho]
    exact ⟨rfl, T2.out, B2.out⟩
   | false =>
    rw [hf] at z4
    obtain ⟨l2, hl2⟩ : ∃ l2, l2 = l ++ [(⟨El.inner op, t.f1, El.nul, t.f3⟩ : El.Nd)] := ⟨_, rfl⟩
    have hlen2 : l2.length = l.length + 1 := by rw [hl2]; simp
    have hT2 : BAt w2 B g w2.heap.size l2 op := by rw [hl2]; exact T2.out
    obtain ⟨v1, v2, m', n', D', h1, h2, h3, h4, h5, h6, h7, h8, h9⟩ := hT2
    obtain ⟨A1', c1', rfl⟩ := Kd.S_slice h2
    obtain ⟨A2', c2', rfl⟩ := Kd.R_slice h3
    have hll := HL.out
    have hoo := HOP.out
    have ew : wrap64 ((l2.length : Int) - 1) = (l.length : Int) := by unfold wrap64; omega
    have ew' : IntKind.i64.wrap ((l2.length : Int) - 1) = (l.length : Int) := by rw [i64_w]; exact ew
    have hmg := map_ne h4 h1
    have HL2 := Lib.hid hl2
    have HN2 := Lib.hid (And.intro h5 hlen2)
    have HH := Lib.hid (And.intro h7 (And.intro h8 (And.intro h9 hmg)))
    have k1 := Aside0.mk h1
    have k2 := Aside0.mk h2
    have k3 := Aside0.mk h3
    have k4 := Aside0.mk h4
    have k6 := Aside0.mk h6
    clear h1 h2 h3 h4 h5 h6 h7 h8 h9 hmg hl2 hlen2 T2
    (try rw [hf])
    have x0 := (blk_cell k1.out 0).trans rfl
    have x1 := (blk_cell k1.out 1).trans rfl
    have zf := blk_frozen k1.out 1
    have x1a := fun o => (blk_cell (blk_alloc k1.out o) 1).trans rfl
    have hw2 : B ≤ w2.heap.size := by have := blk_lt k1.out; have := HH.out.1; omega
    go_wp2
    go_region_law (refine Kd.R_append_step (Kd.int .i64) (w0 := w) (W := w2.drew) B (by rfl) (.tmp 50) (.tmp 57) 34 3 _ 8 rfl Try.underlying34 intInfo rfl (by decide) (by decide) (.slice A2' op.length c2') op (l.length : Int) [.int .i64 (l.length : Int)] (fun _ => True) (fun _ => False) rfl rfl rfl (fun _ h => h.elim) (fun _ _ => trivial) (Kd.R_drew k3.out) (below_drew B2.out) hw2 (by omega) ?_; intro v3 w3 r1 b1 gg at1; obtain ⟨A4, c4, rfl⟩ := Kd.R_slice r1; have R1 := Aside0.mk r1; have BB3 := Aside0.mk b1; have G1 := Aside0.mk (blk_grown (blk_drew k1.out) gg (Kd.R_ne (Kd.R_drew k3.out) (blk_drew k1.out) (by decide))); have G2 := Aside0.mk (Kd.S_over' (Kd.S_drew k2.out) (Kd.R_typed (Kd.R_drew k3.out)) (by decide) gg); have G4 := Aside0.mk (World.ownsMap.kept (World.ownsMap.drew k4.out) gg (map_offR (World.ownsMap.drew k4.out) (Kd.R_drew k3.out))); clear r1 b1 gg at1; have zz := blk_frozen G1.out 1; have yy := (blk_cell G1.out 1).trans rfl)
    all_goals
     go_wp2
     go_ret
     have hH := HH.out
     have P1 := blk_set G1.out 1 (.slice A4 (op ++ [(l.length : Int)]).length c4)
     have P2 := Kd.S_set G2.out G1.out (by decide) 1 (.slice A4 (op ++ [(l.length : Int)]).length c4)
     have P3 := Kd.R_set R1.out G1.out (by decide) 1 (.slice A4 (op ++ [(l.length : Int)]).length c4)
     have PB := BB3.out.setCell (p := ⟨g, 1, none⟩) hH.1 (.slice A4 (op ++ [(l.length : Int)]).length c4)
     have PM := World.ownsMap.setCell G4.out (a := ⟨g, 1, none⟩) hH.2.2.2 (.slice A4 (op ++ [(l.length : Int)]).length c4)
     have el : (op ++ [(l.length : Int)]).length = op.length + 1 := by simp
     rw [el] at P1 P2 PB P3 PM
     have ho := HO'.out
     rw [hf, if_neg (show ¬ (false = true) by decide)] at ho
     rw [← HL2.out, ho]
     exact ⟨rfl, ⟨_, _, m', n', _, by simpa using P1, Kd.S_mono (Kd.S_bound P2) (fun k hk => hk.2.2.1), P3, PM, HN2.out.1, k6.out, hH.1, hH.2.1, hH.2.2.1⟩, PB⟩


end Go.Proofs.Ytkoogebfdinbnaa.Q

namespace Go.Proofs
open Go.Shelf
def Try.lays169_ren : Go.Shelf.Ren := ⟨fun | 169 => 19 | n => n, fun | 70 => 47 | 9 => 9 | 0 => 0 | 72 => 50 | 37 => 48 | 127 => 69 | 3 => 3 | 5 => 5 | n => n, fun | n => n⟩
theorem Try.lays169 : Go.Proofs.Lays.n169 Try.prog Try.lays169_ren := {
  mixed := by kernel_rfl
  f169 := Try.func19.trans (congrArg some (by kernel_rfl))
  t0 := Try.underlying0
  a0 := Try.isAgg0
  z0 := Try.sizeOf0
  v0 := Try.zeroValue0
  t3 := Try.underlying3
  a3 := Try.isAgg3
  z3 := Try.sizeOf3
  v3 := Try.zeroValue3
  t9 := Try.underlying9
  a9 := Try.isAgg9
  z9 := Try.sizeOf9
  v9 := Try.zeroValue9
  t37 := Try.underlying48
  a37 := Try.isAgg48
  z37 := Try.sizeOf48
  v37 := Try.zeroValue48
  t70 := Try.underlying47
  a70 := Try.isAgg47
  z70 := Try.sizeOf47
  v70 := Try.zeroValue47
  t72 := Try.underlying50
  a72 := Try.isAgg50
  z72 := Try.sizeOf50
  v72 := Try.zeroValue50
  t127 := Try.underlying69
  a127 := Try.isAgg69
  z127 := Try.sizeOf69
  v127 := Try.zeroValue69 }
theorem Try.Builder_Extra_169 : Builder.Extra Try.prog Try.lays169_ren := {
  sizeBuilder := by kernel_rfl
  liesBuilder := by kernel_rfl
  t5 := Try.underlying5
  a5 := Try.isAgg5
  z5 := Try.sizeOf5
  v5 := Try.zeroValue5
  infoByte := by kernel_rfl
  cellsByte := by kernel_rfl
  sizeByte := by kernel_rfl
  neB5 := by decide }
open Go.RowKit in
theorem Try.Builder_String_any (B b : Nat) (l : List UInt8) (w : World) (h : Lib.IsBuilder 50 5 B b (Lib.byteCells l) w) (hBw : B ≤ w.heap.size) :
    Calls Try.prog 19 #[.pointer (some ⟨b, 0, none⟩)] w fun e w' => e = .returned (.string ⟨l.toArray⟩) ∧ Below B w w' := Any.Builder_String_any Try.lays169 Try.Builder_Extra_169 B b l w h hBw
def Try.lays137_ren : Go.Shelf.Ren := ⟨fun | 137 => 58 | 217 => 67 | 266 => 75 | n => n, fun | 9 => 9 | 5 => 5 | 3 => 3 | n => n, fun | n => n⟩
theorem Try.lays137 : Go.Proofs.Lays.n137 Try.prog Try.lays137_ren := {
  mixed := by kernel_rfl
  f137 := Try.func58.trans (congrArg some (by kernel_rfl))
  f217 := Try.func67.trans (congrArg some (by kernel_rfl))
  f266 := Try.func75.trans (congrArg some (by kernel_rfl))
  t3 := Try.underlying3
  a3 := Try.isAgg3
  z3 := Try.sizeOf3
  v3 := Try.zeroValue3
  t5 := Try.underlying5
  a5 := Try.isAgg5
  z5 := Try.sizeOf5
  v5 := Try.zeroValue5
  t9 := Try.underlying9
  a9 := Try.isAgg9
  z9 := Try.sizeOf9
  v9 := Try.zeroValue9 }
open Go.RowKit in
theorem Try.strings_IndexByte (s : ByteArray) (c : Int) (w : World) :
    Calls Try.prog 58 #[.string s, .int .u8 c] w fun e w' => e = .returned (.int .i64 (Lib.indexByte s.data.toList c.toNat.toUInt8)) ∧ w' = w := Any.strings_IndexByte Try.lays137 s c w
def Try.lays103_ren : Go.Shelf.Ren := ⟨fun | 103 => 48 | 210 => 60 | 206 => 69 | n => n, fun | 9 => 9 | 4 => 4 | 24 => 79 | 3 => 3 | n => n, fun | n => n⟩
theorem Try.lays103 : Go.Proofs.Lays.n103 Try.prog Try.lays103_ren := {
  mixed := by kernel_rfl
  f103 := Try.func48.trans (congrArg some (by kernel_rfl))
  f206 := Try.func69.trans (congrArg some (by kernel_rfl))
  f210 := Try.func60.trans (congrArg some (by kernel_rfl))
  t3 := Try.underlying3
  a3 := Try.isAgg3
  z3 := Try.sizeOf3
  v3 := Try.zeroValue3
  t4 := Try.underlying4
  a4 := Try.isAgg4
  z4 := Try.sizeOf4
  v4 := Try.zeroValue4
  t9 := Try.underlying9
  a9 := Try.isAgg9
  z9 := Try.sizeOf9
  v9 := Try.zeroValue9
  t24 := Try.underlying79
  a24 := Try.isAgg79
  z24 := Try.sizeOf79
  v24 := Try.zeroValue79 }
open Go.RowKit in
theorem Try.strings_CutPrefix (s p : ByteArray) (w : World) :
    Calls Try.prog 48 #[.string s, .string p] w fun e w' => e = .returned (.tuple #[.string ⟨(Lib.trimPrefix s.data.toList p.data.toList).toArray⟩, .bool (Lib.hasPrefix s.data.toList p.data.toList)]) ∧ w' = w := Any.strings_CutPrefix Try.lays103 s p w
def Try.lays144_ren : Go.Shelf.Ren := ⟨fun | 144 => 50 | 143 => 62 | 219 => 71 | 217 => 67 | 225 => 78 | 224 => 79 | 267 => 80 | 266 => 75 | 314 => 84 | n => n, fun | 9 => 9 | 4 => 4 | 3 => 3 | 5 => 5 | 46 => 32 | 146 => 99 | 51 => 98 | n => n, fun | 1 => 0 | n => n⟩
theorem Try.lays144 : Go.Proofs.Lays.n144 Try.prog Try.lays144_ren := {
  mixed := by kernel_rfl
  f143 := Try.func62.trans (congrArg some (by kernel_rfl))
  f144 := Try.func50.trans (congrArg some (by kernel_rfl))
  f217 := Try.func67.trans (congrArg some (by kernel_rfl))
  f219 := Try.func71.trans (congrArg some (by kernel_rfl))
  f224 := Try.func79.trans (congrArg some (by kernel_rfl))
  f225 := Try.func78.trans (congrArg some (by kernel_rfl))
  f266 := Try.func75.trans (congrArg some (by kernel_rfl))
  f267 := Try.func80.trans (congrArg some (by kernel_rfl))
  f314 := Try.func84.trans (congrArg some (by kernel_rfl))
  t3 := Try.underlying3
  a3 := Try.isAgg3
  z3 := Try.sizeOf3
  v3 := Try.zeroValue3
  t4 := Try.underlying4
  a4 := Try.isAgg4
  z4 := Try.sizeOf4
  v4 := Try.zeroValue4
  t5 := Try.underlying5
  a5 := Try.isAgg5
  z5 := Try.sizeOf5
  v5 := Try.zeroValue5
  t9 := Try.underlying9
  a9 := Try.isAgg9
  z9 := Try.sizeOf9
  v9 := Try.zeroValue9
  t46 := Try.underlying32
  a46 := Try.isAgg32
  z46 := Try.sizeOf32
  v46 := Try.zeroValue32
  t51 := Try.underlying98
  a51 := Try.isAgg98
  z51 := Try.sizeOf98
  v51 := Try.zeroValue98
  t146 := Try.underlying99
  a146 := Try.isAgg99
  z146 := Try.sizeOf99
  v146 := Try.zeroValue99
  g1 := by kernel_rfl }
open Go.RowKit Go.Lib in
theorem Try.strings_Contains (s sub : ByteArray) (m : Int) (w : World) (hs : s.size < 4294967281) (hm : w.cell? ⟨0, 0, none⟩ = some (.int .i64 m)) :
    Calls Try.prog 50 #[.string s, .string sub] w fun e w' => e = .returned (.bool (Lib.contains s.data.toList sub.data.toList)) ∧ w' = w := Any.strings_Contains Try.lays144 s sub m w hs hm
def Try.lays145_ren : Go.Shelf.Ren := ⟨fun | 145 => 61 | 220 => 70 | 219 => 71 | 217 => 67 | 225 => 78 | 224 => 79 | 267 => 80 | 266 => 75 | 314 => 84 | n => n, fun | 9 => 9 | 4 => 4 | 59 => 91 | 3 => 3 | 5 => 5 | 46 => 32 | 146 => 99 | 51 => 98 | n => n, fun | 1 => 0 | n => n⟩
theorem Try.lays145 : Go.Proofs.Lays.n145 Try.prog Try.lays145_ren := {
  mixed := by kernel_rfl
  f145 := Try.func61.trans (congrArg some (by kernel_rfl))
  f217 := Try.func67.trans (congrArg some (by kernel_rfl))
  f219 := Try.func71.trans (congrArg some (by kernel_rfl))
  f220 := Try.func70.trans (congrArg some (by kernel_rfl))
  f224 := Try.func79.trans (congrArg some (by kernel_rfl))
  f225 := Try.func78.trans (congrArg some (by kernel_rfl))
  f266 := Try.func75.trans (congrArg some (by kernel_rfl))
  f267 := Try.func80.trans (congrArg some (by kernel_rfl))
  f314 := Try.func84.trans (congrArg some (by kernel_rfl))
  t3 := Try.underlying3
  a3 := Try.isAgg3
  z3 := Try.sizeOf3
  v3 := Try.zeroValue3
  t4 := Try.underlying4
  a4 := Try.isAgg4
  z4 := Try.sizeOf4
  v4 := Try.zeroValue4
  t5 := Try.underlying5
  a5 := Try.isAgg5
  z5 := Try.sizeOf5
  v5 := Try.zeroValue5
  t9 := Try.underlying9
  a9 := Try.isAgg9
  z9 := Try.sizeOf9
  v9 := Try.zeroValue9
  t46 := Try.underlying32
  a46 := Try.isAgg32
  z46 := Try.sizeOf32
  v46 := Try.zeroValue32
  t51 := Try.underlying98
  a51 := Try.isAgg98
  z51 := Try.sizeOf98
  v51 := Try.zeroValue98
  t59 := Try.underlying91
  a59 := Try.isAgg91
  z59 := Try.sizeOf91
  v59 := Try.zeroValue91
  t146 := Try.underlying99
  a146 := Try.isAgg99
  z146 := Try.sizeOf99
  v146 := Try.zeroValue99
  g1 := by kernel_rfl }
open Go.RowKit Go.Lib in
theorem Try.strings_Cut (s sep : ByteArray) (m : Int) (w : World) (hs : s.size < 4294967281) (hm : w.cell? ⟨0, 0, none⟩ = some (.int .i64 m)) :
    Calls Try.prog 61 #[.string s, .string sep] w fun e w' => e = .returned (.tuple #[.string ⟨(Lib.cut s.data.toList sep.data.toList).1.toArray⟩, .string ⟨(Lib.cut s.data.toList sep.data.toList).2.1.toArray⟩, .bool (Lib.cut s.data.toList sep.data.toList).2.2]) ∧ ∃ n, w' = w.drewN n := Any.strings_Cut Try.lays145 s sep m w hs hm
def Try.lays99_ren : Go.Shelf.Ren := ⟨fun | 99 => 74 | 206 => 69 | n => n, fun | 9 => 9 | 4 => 4 | 3 => 3 | n => n, fun | n => n⟩
theorem Try.lays99 : Go.Proofs.Lays.n99 Try.prog Try.lays99_ren := {
  mixed := by kernel_rfl
  f99 := Try.func74.trans (congrArg some (by kernel_rfl))
  f206 := Try.func69.trans (congrArg some (by kernel_rfl))
  t3 := Try.underlying3
  a3 := Try.isAgg3
  z3 := Try.sizeOf3
  v3 := Try.zeroValue3
  t4 := Try.underlying4
  a4 := Try.isAgg4
  z4 := Try.sizeOf4
  v4 := Try.zeroValue4
  t9 := Try.underlying9
  a9 := Try.isAgg9
  z9 := Try.sizeOf9
  v9 := Try.zeroValue9 }
open Go.RowKit Go.Lib in
theorem Try.strings_HasPrefix (s p : ByteArray) (w : World) :
    Calls Try.prog 74 #[.string s, .string p] w fun e w' => e = .returned (.bool (Lib.hasPrefix s.data.toList p.data.toList)) ∧ w' = w := Any.strings_HasPrefix Try.lays99 s p w
def Try.lays100_ren : Go.Shelf.Ren := ⟨fun | 100 => 51 | 207 => 63 | n => n, fun | 9 => 9 | 4 => 4 | 3 => 3 | n => n, fun | n => n⟩
theorem Try.lays100 : Go.Proofs.Lays.n100 Try.prog Try.lays100_ren := {
  mixed := by kernel_rfl
  f100 := Try.func51.trans (congrArg some (by kernel_rfl))
  f207 := Try.func63.trans (congrArg some (by kernel_rfl))
  t3 := Try.underlying3
  a3 := Try.isAgg3
  z3 := Try.sizeOf3
  v3 := Try.zeroValue3
  t4 := Try.underlying4
  a4 := Try.isAgg4
  z4 := Try.sizeOf4
  v4 := Try.zeroValue4
  t9 := Try.underlying9
  a9 := Try.isAgg9
  z9 := Try.sizeOf9
  v9 := Try.zeroValue9 }
open Go.RowKit Go.Lib in
theorem Try.strings_HasSuffix (s p : ByteArray) (w : World) (hs : s.size ≤ 9223372036854775807) :
    Calls Try.prog 51 #[.string s, .string p] w fun e w' => e = .returned (.bool (Lib.hasSuffix s.data.toList p.data.toList)) ∧ w' = w := Any.strings_HasSuffix Try.lays100 s p w hs
end Go.Proofs

namespace Go.Proofs.Ytkoogebfdinbnaa.Q
open Go.RowKit Go.Proofs.YtkoogebfdinbnaaW.PrintWords Go.Proofs.YtkoogebfdinbnaaW.PrintLast Go.Proofs.YtkoogebfdinbnaaW.Own Go.Proofs.YtkoogebfdinbnaaW.PrintMore
set_option linter.unusedVariables false
set_option linter.unusedSimpArgs false
namespace Bld
open Go Go.RowKit
theorem sizeB : (Try.prog.info? 50).map (fun i => i.size) = some 2 := by kernel_rfl
theorem liesB : liesAt Try.prog Try.prog.depth 50 (2 / Try.prog.cellsOf 50) 0 50 1 = true := by kernel_rfl
theorem infoByte : (Try.prog.info? 5).map (fun i => (i.zero, i.size, i.bytes)) = some (some (.int .u8 0), 1, 1) := by kernel_rfl
set_option maxHeartbeats 1000000 in
set_option maxRecDepth 100000 in
theorem copyCheck_used (b : Nat) (w : World) (h0 : w.cell? ⟨b, 0, none⟩ = some (.pointer (some ⟨b, 0, none⟩))) :
    Calls Try.prog 28 #[.pointer (some ⟨b, 0, none⟩)] w fun e w' => e = .returned (.tuple #[]) ∧ w' = w := by
  obtain ⟨j, hj, _⟩ := Option.map_eq_some_iff.1 sizeB
  go_enter Try.func28, Try.ntmps28
  go_wp2
  rw [Lib.run_neq_ptr_same w _ Try.underlying47 hj]
  go_wp2
  go_end0
  exact ⟨rfl, rfl⟩
set_option maxHeartbeats 1000000 in
set_option maxRecDepth 100000 in
theorem copyCheck_fresh (b : Nat) (w : World) (h0 : w.cell? ⟨b, 0, none⟩ = some (.pointer none)) (hsh : w.shape? b = some (50, 2)) (hfz : w.frozen? ⟨b, 0, none⟩ = false) :
    Calls Try.prog 28 #[.pointer (some ⟨b, 0, none⟩)] w fun e w' => e = .returned (.tuple #[]) ∧ w' = w.setCell ⟨b, 0, none⟩ (.pointer (some ⟨b, 0, none⟩)) := by
  obtain ⟨j, hj, hjs⟩ := Option.map_eq_some_iff.1 sizeB
  go_enter Try.func28, Try.ntmps28
  go_wp2
  rw [Lib.run_to_unsafe w ⟨b, 0, none⟩ Try.underlying47 Try.underlying72 hj (by rw [hjs]; decide) hsh (Nat.zero_lt_succ 1)]
  simp only [Result.andThen]
  rw [Oper.upon_value]
  go_wp2
  rw [run_callFunc_extern Try.func43 (by kernel_rfl) (by kernel_rfl) (by kernel_rfl) (e := Extern.AbiNoEscape.same) (by kernel_rfl)]
  rw [Lib.run_noEscape]
  simp only [Result.andThen]
  rw [Oper.upon_value]
  go_wp2
  rw [Lib.run_from_unsafe w ⟨b, 0, none⟩ Try.underlying72 Try.underlying47 hj hsh liesB]
  simp only [Result.andThen]
  rw [Oper.upon_value]
  go_wp2
  go_end0
  exact ⟨rfl, rfl⟩
/-- What no builder has to do with: blocks of other types stay. -/
def Off (w w' : World) : Prop := ∀ (k : Nat) (o : Array Value) (t : Nat), t ≠ 50 → t ≠ 5 → w.heap[k]? = some (.cells o t (0, 0)) → w'.heap[k]? = some (.cells o t (0, 0))
theorem Off.refl (w : World) : Off w w := fun _ _ _ _ _ h => h
theorem Off.trans {w w1 w2 : World} (h : Off w w1) (h2 : Off w1 w2) : Off w w2 := fun k o t h3 h4 h5 => h2 k o t h3 h4 (h k o t h3 h4 h5)
theorem Off.set {w : World} {b : Nat} {cs : Array Value} (hb : w.heap[b]? = some (.cells cs 50 (0, 0))) (i : Nat) (u : Value) : Off w (w.setCell ⟨b, i, none⟩ u) := fun k o t h1 _ hk => blk_far hk (fun e => by
  have e : k = b := e
  subst e
  rw [hk] at hb
  injection hb with hb
  injection hb with _ hb
  exact h1 hb) u
theorem Off.row {w w1 : World} {B n : Nat} {v : Value} {xs : List Value} (ho : w.ownsRow B 5 1 v n xs) (hg : w.grownBy w1 v.ownBlock) : Off w w1 := fun k o t _ h2 hk => blk_grown hk hg (fun e => by
  obtain ⟨cells, hc⟩ := own_typed ho k e.symm
  rw [hk] at hc
  injection hc with hc
  injection hc with _ hc
  exact h2 hc)
theorem copyCheck (B b : Nat) (bs : List Value) (w : World) (h : Lib.IsBuilder 50 5 B b bs w) :
    Calls Try.prog 28 #[.pointer (some ⟨b, 0, none⟩)] w fun e w' => e = .returned (.tuple #[]) ∧ (Lib.BuilderAt 50 5 B b (.pointer (some ⟨b, 0, none⟩)) bs w' ∧ Below B w w' ∧ Off w w') := by
  rcases h with h | h
  · refine (copyCheck_fresh b w h.cell0 h.shape h.frozen0).mono ?_
    rintro e w' ⟨rfl, rfl⟩
    exact ⟨rfl, h.used _, (Below.refl B w).setCell (p := ⟨b, 0, none⟩) h.1 _, Off.set h.2.choose_spec.1 0 _⟩
  · refine (copyCheck_used b w h.cell0).mono ?_
    rintro e w' ⟨rfl, rfl⟩
    exact ⟨rfl, h, Below.refl B _, Off.refl _⟩
set_option maxHeartbeats 2000000 in
set_option maxRecDepth 100000 in
theorem WriteString (B b : Nat) (bs : List Value) (s : ByteArray) (w : World) (h : Lib.IsBuilder 50 5 B b bs w) (hlen : bs.length + s.size ≤ 140737488355328) (hBw : B ≤ w.heap.size) :
    Calls Try.prog 18 #[.pointer (some ⟨b, 0, none⟩), .string s] w fun e w' => e = .returned (.tuple #[.int .i64 s.size, .nilIface]) ∧ (Lib.BuilderAt 50 5 B b (.pointer (some ⟨b, 0, none⟩)) (bs ++ Lib.strCells s) w' ∧ Below B w w' ∧ Off w w') := by
  obtain ⟨i0, hi, hz0, hz1, hz2⟩ := info_parts infoByte
  go_enter Try.func18, Try.ntmps18
  go_wp2_with (go_at_call 28; refine (copyCheck B b bs _ h).mono ?_)
  rintro e w1 ⟨rfl, h1, hb1, ho1⟩
  obtain ⟨hB, v, hbk, hown, hne⟩ := h1
  have c0 : w1.cell? ⟨b, 0, none⟩ = some (.pointer (some ⟨b, 0, none⟩)) := by rw [Lib.cell_of_heap hbk]; rfl
  have c1 : w1.cell? ⟨b, 1, none⟩ = some v := by rw [Lib.cell_of_heap hbk]; rfl
  go_wp2_with (at_builtin; refine Lib.wpList_append_own_string _ rfl _ _ 48 9 rfl B 5 i0 Try.underlying48 Try.underlying9 hi hz0 hz1 hz2 _ _ _ rfl hown s rfl ?c3 ?c4 ?c5 ?_)
  case c3 => unfold maxLen; omega
  case c4 => omega
  case c5 => have := hb1.size; omega
  intro v' w2 hown' hgrow _
  have hlt : b < w1.heap.size := by
    rcases Nat.lt_or_ge b w1.heap.size with h' | h'
    · exact h'
    · simp [Array.getElem?_eq_none h'] at hbk
  have hb2 : w2.heap[b]? = some (.cells #[.pointer (some ⟨b, 0, none⟩), v] 50 (0, 0)) := by
    rw [hgrow.block b hlt (fun e => hne e.symm)]
    exact hbk
  have d0 : w2.cell? ⟨b, 0, none⟩ = some (.pointer (some ⟨b, 0, none⟩)) := by rw [Lib.cell_of_heap hb2]; rfl
  have d1 : w2.cell? ⟨b, 1, none⟩ = some v := by rw [Lib.cell_of_heap hb2]; rfl
  have f1 : w2.frozen? ⟨b, 1, none⟩ = false := Lib.frozen_of_heap hb2 1
  obtain ⟨ao, n', cap, rfl⟩ : ∃ ao n' cap, v' = .slice ao n' cap := by
    rcases hown'.2 with ⟨hv, _⟩ | ⟨g, cap, cur, hv, _⟩
    · exact ⟨_, _, _, hv⟩
    · exact ⟨_, _, _, hv⟩
  go_wp2
  go_ret2
  refine ⟨rfl, ?_, ?_, (ho1.trans (Off.row hown hgrow)).trans (Off.set hb2 1 _)⟩
  · exact Lib.BuilderAt.put (T := 50) (e := 5) hB hb2 (bs' := bs ++ Lib.strCells s) (by simpa [Lib.strCells_length] using hown') (by decide)
  · exact (hb1.grown hgrow (by have := hb1.size; omega) (fun k hk => (hown.lt k hk).1)).setCell (p := ⟨b, 1, none⟩) hB _
/-- A builder under a name of its own: block b of the call's own holds the text s. -/
def Holds (B b : Nat) (s : ByteArray) (w : World) : Prop := Lib.IsBuilder 50 5 B b (Lib.byteCells s.data.toList) w ∧ B ≤ w.heap.size
theorem byteCells_app (a b : ByteArray) : Lib.byteCells a.data.toList ++ Lib.strCells b = Lib.byteCells (a ++ b).data.toList := by
  simp [Lib.byteCells, Lib.strCells]
theorem at_below {B b : Nat} {p : Value} {bs : List Value} {w w1 : World} (h : Lib.BuilderAt 50 5 B b p bs w) (hb : Below w.heap.size w w1) : Lib.BuilderAt 50 5 B b p bs w1 := by
  have hlt := h.lt
  obtain ⟨hB, v, hk, ho, hne⟩ := h
  exact ⟨hB, v, by rw [hb.block b hlt]; exact hk, own_move ho (fun k hk => hb.block k (own_lt ho k hk)), hne⟩
/-- What is made behind it leaves it as it was. -/
theorem Holds.below {B b : Nat} {s : ByteArray} {w w1 : World} (h : Holds B b s w) (hb : Below w.heap.size w w1) : Holds B b s w1 :=
  ⟨h.1.imp (fun h => at_below h hb) (fun h => at_below h hb), Nat.le_trans h.2 hb.size⟩
theorem Holds.write {B b : Nat} {s t : ByteArray} {w : World} (h : Holds B b s w) (hlen : s.size + t.size ≤ 140737488355328) :
    Calls Try.prog 18 #[.pointer (some ⟨b, 0, none⟩), .string t] w fun e w' => e = .returned (.tuple #[.int .i64 t.size, .nilIface]) ∧ Holds B b (s ++ t) w' ∧ Below B w w' := by
  refine (WriteString B b _ t w h.1 (by rw [Lib.byteCells_length, Array.length_toList]; exact hlen) h.2).mono ?_
  rintro e w' ⟨he, h1, hb, _⟩
  refine ⟨he, ⟨?_, Nat.le_trans h.2 hb.size⟩, hb⟩
  rw [← byteCells_app]
  exact .inr h1
theorem Holds.writeS {B b : Nat} {s t : ByteArray} {w : World} (h : Holds B b s w) (hlen : s.size + t.size ≤ 140737488355328) :
    Calls Try.prog 18 #[.pointer (some ⟨b, 0, none⟩), .string t] w fun e w' => e = .returned (.tuple #[.int .i64 t.size, .nilIface]) ∧ Holds B b (s ++ t) w' ∧ Below B w w' ∧ Off w w' := by
  refine (WriteString B b _ t w h.1 (by rw [Lib.byteCells_length, Array.length_toList]; exact hlen) h.2).mono ?_
  rintro e w' ⟨he, h1, hb, ho⟩
  refine ⟨he, ⟨?_, Nat.le_trans h.2 hb.size⟩, hb, ho⟩
  rw [← byteCells_app]
  exact .inr h1
theorem Holds.string {B b : Nat} {s : ByteArray} {w : World} (h : Holds B b s w) :
    Calls Try.prog 19 #[.pointer (some ⟨b, 0, none⟩)] w fun e w' => e = .returned (.string s) ∧ Below B w w' :=
  (Try.Builder_String_any B b s.data.toList w h.1 h.2).mono fun e w' hh => ⟨by rw [hh.1], hh.2⟩
theorem Holds.fresh (w : World) : Holds w.heap.size w.heap.size ⟨#[]⟩ (w.alloc (.cells #[.pointer none, .slice none 0 0] 50)) :=
  ⟨.inl ⟨Nat.le_refl _, .slice none 0 0, by show (w.heap.push _)[w.heap.size]? = _; simp, ⟨by simp [Lib.byteCells], .inl ⟨rfl, rfl⟩⟩, by simp [Value.ownBlock]⟩, by simp⟩
end Bld

end Go.Proofs.Ytkoogebfdinbnaa.Q

-- Printed by this session's wip/np.py over the kit's print program. Not trusted: Lean checks it.
namespace Go.Proofs.Ytkoogebfdinbnaa.Q
open Go.RowKit Go.Proofs.YtkoogebfdinbnaaW.PrintWords Go.Proofs.YtkoogebfdinbnaaW.PrintLast Go.Proofs.YtkoogebfdinbnaaW.Own Go.Proofs.YtkoogebfdinbnaaW.PrintMore
attribute [local go_sem] max2_int min2_int max_two min_two max_three min_three max_four min_four
set_option linter.unusedVariables false
set_option linter.unusedSimpArgs false

/-! ### element_Inner: function 12 -/
def El.gather (l : List S29) (ks : List Int) : ByteArray := ks.foldl (fun s k => if (rd_T29 l k).f1 = El.nul then s ++ (rd_T29 l k).f2 else s) El.nul
def El.room (l : List S29) (ks : List Int) : Nat := (ks.map fun k => (rd_T29 l k).f2.size).sum
theorem gather_snoc (l : List S29) (ks : List Int) (k : Int) : El.gather l (ks ++ [k]) = if (rd_T29 l k).f1 = El.nul then El.gather l ks ++ (rd_T29 l k).f2 else El.gather l ks := by
 unfold El.gather
 rw [List.foldl_append]
 rfl
theorem gather_size (l : List S29) (ks : List Int) : (El.gather l ks).size ≤ El.room l ks := by
 rw [← List.reverse_reverse ks]
 generalize ks.reverse = m
 induction m with
 | nil => exact Nat.zero_le _
 | cons k m ih =>
  rw [List.reverse_cons, gather_snoc]
  have e : El.room l (m.reverse ++ [k]) = El.room l m.reverse + (rd_T29 l k).f2.size := by simp [El.room]
  rw [e]
  split
  ·rw [ByteArray.size_append]; omega
  ·omega
theorem room_cons (l : List S29) (a b : List Int) (x : Int) : El.room l (a ++ x :: b) = El.room l a + ((rd_T29 l x).f2.size + El.room l b) := by simp [El.room]
theorem room_take (l : List S29) (ks : List Int) (i : Nat) (h : i < ks.length) : El.room l (ks.take i) + (rd_T29 l (ks[i]'h)).f2.size ≤ El.room l ks := by
 have e : ks = ks.take i ++ ks[i] :: ks.drop (i + 1) := by rw [List.getElem_cons_drop, List.take_append_drop]
 have e2 := room_cons l (ks.take i) (ks.drop (i + 1)) (ks[i]'h)
 rw [← e] at e2
 omega
def element_Inner.f (k : Nat) (l0 : List S29) (a1 : Int) : Option ByteArray := (element_Kids.f k l0 a1).bind fun ks => if (∀ x ∈ ks, 0 ≤ x ∧ x < (l0.length : Int)) ∧ El.room l0 ks ≤ 140737488355328 ∧ ks.length ≤ 1000000000 then some (El.gather l0 ks) else none
theorem element_Inner.mono : ∀ a0 a1 k, LeO (element_Inner.f k a0 a1) (element_Inner.f (k + 1) a0 a1) := by
 intro a0 a1 k r h
 unfold element_Inner.f at h ⊢
 obtain ⟨ks, h1, h2⟩ := Option.bind_eq_some_iff.1 h
 rw [element_Kids.mono a0 a1 k ks h1]
 exact h2
theorem rd_ints (ks : List Int) (i : Nat) (h : i < ks.length) : rd ks (i : Int) = ks[i] := by
 simp [rd, List.getD, h]
theorem off_row {w w1 : World} {B : Nat} {v : Value} {ks : List Int} (h : Kd.R (Kd.int .i64) 3 w B (fun _ => True) v ks) (ho : Bld.Off w w1) : Kd.R (Kd.int .i64) 3 w1 B (fun _ => True) v ks := by
 refine Kd.R_mono (Kd.R_move (Kd.R_bound h) (fun k hk => ?_)) (fun _ _ => trivial)
 obtain ⟨_, _, _, q, hq, cells, hc⟩ := hk
 have hq' : q = 3 := by simpa [Kd.int, Kd.scalar] using hq
 subst hq'
 rw [hc]
 exact ho k cells 3 (by decide) (by decide) hc
set_option maxHeartbeats 8000000 in
set_option maxRecDepth 100000 in
theorem element_Inner.calls (k : Nat) (A0 : Option Addr) (c0 : Nat) (l0 : List S29) (a1 : Int) (r : ByteArray) (w : World) (hr0 : Kd.C k29 w A0 l0.length l0) (hc0 : l0.length ≤ c0) (hG : Glob w) (h : element_Inner.f k l0 a1 = some r) :
 Calls Try.prog 12 #[.slice A0 l0.length c0, .int .i64 a1] w fun e w' => e = .returned (.string r) ∧ Below w.heap.size w w' := by
 unfold element_Inner.f at h
 obtain ⟨ks, hks, h⟩ := Option.bind_eq_some_iff.1 h
 split at h
 ·rename_i hcond
  obtain ⟨hrange, hroom, hkl⟩ := hcond
  obtain rfl := Option.some.inj h
  have HR0 := Aside0.mk hr0
  have HRNG := Lib.hid hrange
  have HRM := Aside0.mk hroom
  have HKL := Aside0.mk hkl
  have HK := Aside0.mk hks
  have HG := Aside0.mk hG
  have HC0 := Aside0.mk hc0
  clear hr0 hroom h hG hrange hkl hks hc0
  have hu := Try.underlying50
  have hun := Try.underlying29
  have HB0 := Aside0.mk ((Below.refl w.heap.size w).alloc (Nat.le_refl _) (.cells #[.pointer none, .slice none 0 0] 50))
  have HF := Aside0.mk (Bld.Holds.fresh w)
  have CK := Aside0.mk (element_Kids.calls k A0 c0 l0 a1 ks _ (Kd.C_below HR0.out HB0.out) HC0.out (HG.out.step HB0.out) HK.out)
  go_enter Try.func12, Try.ntmps12
  go_wp2_with (first | (go_at_call 11; (with_reducible refine (CK.out).mono ?_); rintro e w1 ⟨v, rfl, hr, hb⟩; obtain ⟨A2, c2, rfl⟩ := Kd.R_slice hr; have HH := Aside0.mk (HF.out.below hb); have HB1 := Aside0.mk (below_step HB0.out hb); have HI := Aside0.mk hr; have HW1 := Lib.hid hb.size; clear hr hb))
  have HI1 := Aside0.mk (Kd.R_lower HI.out (show w.heap.size ≤ _ from HB0.out.size))
  clear HI HB0 HF CK HW1
  go_loopg [12] ks.length (fun g v12 w' => ∃ i : Nat, i + g = ks.length ∧ v12 = .int .i64 i ∧ Aside0 (Bld.Holds w.heap.size w.heap.size (El.gather l0 (ks.take i)) w') ∧ Aside0 (Kd.R (Kd.int .i64) 3 w' w.heap.size (fun _ => True) (.slice A2 ks.length c2) ks) ∧ Aside0 (Below w.heap.size w w'))
  case atStart => exact ⟨0, by omega, rfl, ⟨by rw [List.take_zero]; exact HH.out⟩, HI1, HB1⟩
  case round =>
   clear HH HI1 HB1
   obtain ⟨i, hig, rfl, HH, HI, HB⟩ := hrel
   by_cases hi : i < ks.length
   ·obtain ⟨g, rfl⟩ : ∃ g, gk = g + 1 := ⟨gk - 1, by omega⟩
    have hkl := HKL.out
    have hrng := HRNG.out (ks[i]'hi) (List.getElem_mem hi)
    obtain ⟨ai, e_, hk0⟩ := Kd.at_int (Kd.R_reads' HI.out).2.2 (i : Int) (by omega) (by omega)
    cases e_
    rw [rd_ints ks i hi] at hk0
    have hsz := room_take l0 ks i hi
    have hgs := gather_size l0 (ks.take i)
    have hgt : El.gather l0 (ks.take (i + 1)) = if (rd_T29 l0 (ks[i]'hi)).f1 = El.nul then El.gather l0 (ks.take i) ++ (rd_T29 l0 (ks[i]'hi)).f2 else El.gather l0 (ks.take i) := by
     rw [List.take_succ_eq_append_getElem hi, gather_snoc]
    obtain ⟨x, hx⟩ : ∃ x, x = ks[i]'hi := ⟨_, rfl⟩
    rw [← hx] at hrng hk0 hsz hgt
    obtain ⟨ad, A3, c3, e_, q0, q1, q2, _⟩ := at_T29 (Kd.C_below HR0.out HB.out) x hrng.1 hrng.2
    cases e_
    obtain ⟨nd, hnd⟩ : ∃ nd, nd = rd_T29 l0 x := ⟨_, rfl⟩
    rw [← hnd] at q0 q1 q2 hsz hgt
    simp only [Int.toNat_natCast] at hk0
    have hroom := HRM.out
    have d1 : decide ((i : Int) < (ks.length : Int)) = true := decide_eq_true (by omega)
    have d1' : decide (i < ks.length) = true := decide_eq_true hi
    have p1 := eq_true (show (0 : Int) ≤ (i : Int) by omega)
    have p2 := eq_true (show (i : Int) < (ks.length : Int) by omega)
    have p3 := eq_true hi
    have r1 := eq_true hrng.1
    have r2 := eq_true hrng.2
    have ew : wrap64 ((i : Int) + 1) = ((i + 1 : Nat) : Int) := by unfold wrap64; omega
    have s1 := size_nul nd.f1
    have HQ := Aside0.mk (show (El.gather l0 (ks.take i)).size + nd.f2.size ≤ 140737488355328 by omega)
    by_cases hn : nd.f1 = El.nul
    ·rw [decide_eq_true hn] at s1
     rw [if_pos hn] at hgt
     have HGT := Aside0.mk hgt
     clear hgt hn hnd hx hsz hgs hroom hrng
     go_wp2_with (first | (go_at_call 18; (with_reducible refine (HH.out.writeS HQ.out).mono ?_); rintro e w3 ⟨rfl, hh3, hb3, ho3⟩; have HH3 := Aside0.mk hh3; have HB3 := Aside0.mk (HB.out.trans hb3); have HI3 := Aside0.mk (off_row HI.out ho3); clear hh3 hb3 ho3))
     go_roundg g
     case measure => omega
     case rel => exact ⟨i + 1, by omega, by first | rfl | (rw [ew]) | go_num, ⟨by rw [HGT.out]; exact HH3.out⟩, HI3, HB3⟩
    ·rw [decide_eq_false hn] at s1
     rw [if_neg hn] at hgt
     have HGT := Aside0.mk hgt
     clear hgt hn hnd hx hsz hgs hroom hrng
     go_wp2_with (fail)
     go_roundg g
     case measure => omega
     case rel => exact ⟨i + 1, by omega, by first | rfl | (rw [ew]) | go_num, ⟨by rw [HGT.out]; exact HH.out⟩, HI, HB⟩
   ·obtain rfl : i = ks.length := by omega
    have d1 : decide ((ks.length : Int) < (ks.length : Int)) = false := decide_eq_false (by omega)
    go_wp2_with (fail)
    refine HH.out.string.mono ?_
    rintro e w3 ⟨rfl, hb3⟩
    go_wp2
    go_ret
    exact ⟨by first | rfl | (rw [List.take_length]; rfl), HB.out.trans (hb3.mono (Nat.le_refl _))⟩
 ·exact absurd h (by simp)


end Go.Proofs.Ytkoogebfdinbnaa.Q

-- Printed by this session's wip/np.py over the kit's print program. Not trusted: Lean checks it.
namespace Go.Proofs.Ytkoogebfdinbnaa.Q
open Go.RowKit Go.Proofs.YtkoogebfdinbnaaW.PrintWords Go.Proofs.YtkoogebfdinbnaaW.PrintLast Go.Proofs.YtkoogebfdinbnaaW.Own Go.Proofs.YtkoogebfdinbnaaW.PrintMore
attribute [local go_sem] max2_int min2_int max_two min_two max_three min_three max_four min_four
set_option linter.unusedVariables false
set_option linter.unusedSimpArgs false

/-! ### element_builder_end: function 30 -/
set_option maxHeartbeats 8000000 in
set_option maxRecDepth 100000 in
theorem element_builder_end.no (B g N : Nat) (l : List El.Nd) (op : List Int) (t : El.Tok) (va : Value) (w : World) (h : BAt w B g N l op) (hop : op.length ≤ 100000) (hl : l.length ≤ 100000) (hneg : El.inner op < 0) :
 Calls Try.prog 30 #[.pointer (some ⟨g, 0, none⟩), .agg #[.int .i64 t.f0, .string t.f1, .string t.f2, va, .bool t.f4]] w fun e w' => e = .returned (.int .i64 6) ∧ Below w.heap.size w w' := by
 have HB0 := Aside0.mk (below_alloc (Below.refl w.heap.size w) (.cells #[.int .i64 t.f0, .string t.f1, .string t.f2, va, .bool t.f4] 40))
 have CI := Aside0.mk (fun W (hW : Below w.heap.size w W) => element_builder_inner.calls B g N l op W (h.below hW) hop)
 obtain ⟨p, hp⟩ : ∃ p, p = El.inner op := ⟨_, rfl⟩
 rw [← hp] at CI hneg
 have d1 : decide (p < 0) = true := decide_eq_true hneg
 clear h hp
 go_enter Try.func30, Try.ntmps30
 go_wp2_with (first | (go_at_call 46; (with_reducible refine (CI.out _ HB0.out).mono ?_); rintro e w1 ⟨rfl, ⟨nd1, rfl⟩⟩))
 go_quiet (fail)
 go_wp2
 go_ret
 exact ⟨rfl, pw_below_drewN (pw_below_drewN HB0.out _) _⟩
set_option maxHeartbeats 8000000 in
set_option maxRecDepth 100000 in
theorem element_builder_end.other (B g N : Nat) (l : List El.Nd) (op : List Int) (t : El.Tok) (va : Value) (w : World) (h : BAt w B g N l op) (hop : op.length ≤ 100000) (hl : l.length ≤ 100000) (h0 : 0 ≤ El.inner op) (h1 : El.inner op < (l.length : Int)) (hne : ¬ (rd_T29 l (El.inner op)).f1 = t.f1) :
 Calls Try.prog 30 #[.pointer (some ⟨g, 0, none⟩), .agg #[.int .i64 t.f0, .string t.f1, .string t.f2, va, .bool t.f4]] w fun e w' => e = .returned (.int .i64 6) ∧ Below w.heap.size w w' := by
 obtain ⟨W, hW⟩ : ∃ W, W = w.alloc (.cells #[.int .i64 t.f0, .string t.f1, .string t.f2, va, .bool t.f4] 40) := ⟨_, rfl⟩
 have hBW : Below w.heap.size w W := by rw [hW]; exact below_alloc (Below.refl _ _) _
 have y1 : W.cell? ⟨w.heap.size, 1, none⟩ = some (.string t.f1) := by rw [hW]; exact (blk_cell (heap_alloc_new w (.cells #[.int .i64 t.f0, .string t.f1, .string t.f2, va, .bool t.f4] 40)) 1).trans rfl
 have HB0 := Aside0.mk hBW
 have CI := Aside0.mk (fun W (hW : Below w.heap.size w W) => element_builder_inner.calls B g N l op W (h.below hW) hop)
 have hbt := h.below hBW
 obtain ⟨v1, v2, m, n, D, g1, g2, _⟩ := hbt
 obtain ⟨A1, c1, rfl⟩ := Kd.S_slice g2
 have x0 := (blk_cell g1 0).trans rfl
 obtain ⟨ad, A3, c3, e_, q0, q1, _⟩ := at_T29 (Kd.S_reads' g2).2.2 (El.inner op) h0 h1
 cases e_
 obtain ⟨p, hp⟩ : ∃ p, p = El.inner op := ⟨_, rfl⟩
 rw [← hp] at CI h0 h1 q0 q1 hne
 have d1 : decide (p < 0) = false := decide_eq_false (by omega)
 have p1 := eq_true h0
 have p2 := eq_true h1
 have s1 : ((rd_T29 l p).f1.toList == t.f1.toList) = false := by
  rw [Bool.eq_false_iff]; intro h; rw [beq_iff_eq, toList_data, toList_data] at h
  exact hne (ByteArray.ext (Array.toList_inj.1 h))
 have hu := Try.underlying59
 have ht := Try.underlying40
 have hu2 := Try.underlying29
 rw [hW] at x0 q0 q1 y1
 clear g1 g2 hp h hne
 go_enter Try.func30, Try.ntmps30
 rw [hW] at HB0
 clear hW hBW
 go_wp2_with (first | (go_at_call 46; (with_reducible refine (CI.out _ HB0.out).mono ?_); rintro e w1 ⟨rfl, ⟨nd1, rfl⟩⟩))
 go_quiet (fail)
 go_wp2
 go_ret
 exact ⟨rfl, pw_below_drewN (pw_below_drewN HB0.out _) _⟩
set_option maxHeartbeats 8000000 in
set_option maxRecDepth 100000 in
theorem element_builder_end.yes (B g N : Nat) (l : List El.Nd) (op : List Int) (t : El.Tok) (va : Value) (w : World) (h : BAt w B g N l op) (hop : op.length ≤ 100000) (hl : l.length ≤ 100000) (h0 : 0 ≤ El.inner op) (h1 : El.inner op < (l.length : Int)) (hne : (rd_T29 l (El.inner op)).f1 = t.f1) :
 Calls Try.prog 30 #[.pointer (some ⟨g, 0, none⟩), .agg #[.int .i64 t.f0, .string t.f1, .string t.f2, va, .bool t.f4]] w fun e w' => e = .returned (.int .i64 0) ∧ BAt w' B g w'.heap.size l op.dropLast ∧ Below B w w' := by
 have hop0 : op.length ≠ 0 := fun he => by
  rw [List.eq_nil_of_length_eq_zero he] at h0
  exact absurd h0 (by decide)
 obtain ⟨W, hW⟩ : ∃ W, W = w.alloc (.cells #[.int .i64 t.f0, .string t.f1, .string t.f2, va, .bool t.f4] 40) := ⟨_, rfl⟩
 have hBW : Below w.heap.size w W := by rw [hW]; exact below_alloc (Below.refl _ _) _
 have y1 : W.cell? ⟨w.heap.size, 1, none⟩ = some (.string t.f1) := by rw [hW]; exact (blk_cell (heap_alloc_new w (.cells #[.int .i64 t.f0, .string t.f1, .string t.f2, va, .bool t.f4] 40)) 1).trans rfl
 have HB0 := Aside0.mk hBW
 have HBB := Aside0.mk (hBW.mono (Nat.le_of_lt (Nat.lt_of_le_of_lt h.ge.1 h.ge.2.1)))
 have CI := Aside0.mk (fun W (hW : Below w.heap.size w W) => element_builder_inner.calls B g N l op W (h.below hW) hop)
 have hbt := h.below hBW
 obtain ⟨v1, v2, m, n, D, g1, g2, g3, g4, g5, g6, g7, g8, g9⟩ := hbt
 obtain ⟨A1, c1, rfl⟩ := Kd.S_slice g2
 obtain ⟨g2_, c2, rfl, _⟩ := Kd.R_form g3 (by omega)
 have hc2 := (Kd.R_reads' g3).2.1
 have G1 := Aside0.mk g1
 have G2 := Aside0.mk g2
 have G3 := Aside0.mk g3
 have G4 := Aside0.mk g4
 have HH := Lib.hid (show n ≤ l.length ∧ El.MapIs D l ∧ B ≤ g ∧ B ≤ m ∧ 0 < B from ⟨g5, g6, g7, g8, g9⟩)
 have x0 := (blk_cell g1 0).trans rfl
 have x1 := (blk_cell g1 1).trans rfl
 have f1 := blk_frozen g1 1
 obtain ⟨ad, A3, c3, e_, q0, q1, _⟩ := at_T29 (Kd.S_reads' g2).2.2 (El.inner op) h0 h1
 cases e_
 obtain ⟨p, hp⟩ : ∃ p, p = El.inner op := ⟨_, rfl⟩
 rw [← hp] at CI h0 h1 q0 q1 hne
 have d1 : decide (p < 0) = false := decide_eq_false (by omega)
 have p1 := eq_true h0
 have p2 := eq_true h1
 have s1 : ((rd_T29 l p).f1.toList == t.f1.toList) = true := by rw [hne, beq_self_eq_true]
 have ew : wrap64 ((op.length : Int) - 1) = (op.length : Int) - 1 := by unfold wrap64; omega
 have ew' : IntKind.i64.wrap ((op.length : Int) - 1) = (op.length : Int) - 1 := by rw [i64_w]; exact ew
 have r1 := eq_true (show (0 : Int) ≤ (op.length : Int) - 1 by omega)
 have r2 := eq_true (show (op.length : Int) - 1 ≤ (c2 : Int) by omega)
 have r3 := eq_true (show op.length - 1 ≤ c2 by omega)
 have r4 : ((op.length : Int) - 1).toNat = op.length - 1 := by omega
 have r5 := eq_true (show (1 : Int) ≤ (op.length : Int) by omega)
 have r6 := eq_true (show 1 ≤ op.length by omega)
 have hc0 := eq_false (show ¬ (c2 = 0) by omega)
 have hc0' : (c2 == 0) = false := beq_eq_false_iff_ne.mpr (by omega)
 have hu := Try.underlying59
 have ht := Try.underlying40
 have hu2 := Try.underlying29
 have HW := Lib.hid hW
 rw [hW] at x0 x1 q0 q1 y1 f1
 clear g1 g2 g3 g4 g5 g6 g7 g8 g9 hp h hne
 go_enter Try.func30, Try.ntmps30
 rw [hW] at HB0
 clear hW hBW
 go_wp2_with (first | (go_at_call 46; (with_reducible refine (CI.out _ HB0.out).mono ?_); rintro e w1 ⟨rfl, ⟨nd1, rfl⟩⟩))
 go_quiet (fail)
 go_wp2
 obtain ⟨W2, hW2⟩ : ∃ W2, W2 = ((w.alloc (.cells #[.int .i64 t.f0, .string t.f1, .string t.f2, va, .bool t.f4] 40)).drewN nd1).drewN nq := ⟨_, rfl⟩
 rw [← hW2]
 rw [← HW.out] at hW2
 have G1 := Aside0.mk (show W2.heap[g]? = some (.cells #[.slice (some ad) l.length c1, .slice (some ⟨g2_, 0, none⟩) op.length c2, .map (some m)] 59 (0, 0)) from by rw [hW2]; exact G1.out)
 have G2 := Aside0.mk (show Kd.S k29 29 W2 B (fun k => k < N) (.slice (some ad) l.length c1) l from by rw [hW2]; exact Kd.S_drewN (Kd.S_drewN G2.out _) _)
 have G3 := Aside0.mk (show Kd.R (Kd.int .i64) 3 W2 B (fun _ => True) (.slice (some ⟨g2_, 0, none⟩) op.length c2) op from by rw [hW2]; exact Kd.R_drewN (Kd.R_drewN G3.out _) _)
 have G4 := Aside0.mk (show W2.ownsMap Try.prog 3 (plainElem (H := Unit) Try.prog 3) m n D from by rw [hW2]; exact map_at G4.out rfl)
 have HBB := Aside0.mk (show Below B w W2 from by rw [hW2]; exact pw_below_drewN (pw_below_drewN HBB.out _) _)
 clear hW2 x0 x1 y1 q0 q1 f1
 have x1 := (blk_cell G1.out 1).trans rfl
 have f1 := blk_frozen G1.out 1
 go_still_tail 14, (by kernel_rfl)
 go_wp2
 go_ret
 have P1 := blk_set G1.out 1 (.slice (some ⟨g2_, 0, none⟩) (op.length - 1) c2)
 have P2 := Kd.S_set G2.out G1.out (by decide) 1 (.slice (some ⟨g2_, 0, none⟩) (op.length - 1) c2)
 have P3 := Kd.R_set (Kd.R_take (m := op.length - 1) G3.out (by omega)) G1.out (by decide) 1 (.slice (some ⟨g2_, 0, none⟩) (op.length - 1) c2)
 have PB := HBB.out.setCell (p := ⟨g, 1, none⟩) HH.out.2.2.1 (.slice (some ⟨g2_, 0, none⟩) (op.length - 1) c2)
 have PM := World.ownsMap.setCell G4.out (a := ⟨g, 1, none⟩) (map_ne G4.out G1.out) (.slice (some ⟨g2_, 0, none⟩) (op.length - 1) c2)
 have RB : BAt (W2.setCell ⟨g, 1, none⟩ (.slice (some ⟨g2_, 0, none⟩) (op.length - 1) c2)) B g (W2.setCell ⟨g, 1, none⟩ (.slice (some ⟨g2_, 0, none⟩) (op.length - 1) c2)).heap.size l op.dropLast :=
  ⟨.slice (some ad) l.length c1, .slice (some ⟨g2_, 0, none⟩) (op.length - 1) c2, m, n, D, by simpa using P1, Kd.S_mono (Kd.S_bound P2) (fun k hk => hk.2.2.1), by rw [List.dropLast_eq_take]; exact P3, PM, HH.out.1, HH.out.2.1, HH.out.2.2⟩
 exact ⟨rfl, RB.below (below_drew (Below.refl _ _)), below_drew PB⟩


end Go.Proofs.Ytkoogebfdinbnaa.Q

-- Printed by this session's wip/np.py over the kit's print program. Not trusted: Lean checks it.
namespace Go.Proofs.Ytkoogebfdinbnaa.Q
open Go.RowKit Go.Proofs.YtkoogebfdinbnaaW.PrintWords Go.Proofs.YtkoogebfdinbnaaW.PrintLast Go.Proofs.YtkoogebfdinbnaaW.Own Go.Proofs.YtkoogebfdinbnaaW.PrintMore
attribute [local go_sem] max2_int min2_int max_two min_two max_three min_three max_four min_four
set_option linter.unusedVariables false
set_option linter.unusedSimpArgs false

/-! ### chars_Space: function 33 -/
def chars_Space.f (a0 : Int) : Option (Bool) := if a0 = 9 then (some true) else (if a0 = 10 then (some true) else (if a0 = 13 then (some true) else (some (a0 == 32))))
set_option maxHeartbeats 8000000 in
set_option maxRecDepth 100000 in
theorem chars_Space.calls (a0 : Int) (r : Bool) (w : World) (hG : Glob w) (h : chars_Space.f a0 = some r) :
 Calls Try.prog 33 #[.int .u8 a0] w fun e w' => e = .returned (.bool r) ∧ Drawn0 w w' := by
 have HG := Aside0.mk hG
 clear hG
 have H : (if a0 = 9 then (some true) else (if a0 = 10 then (some true) else (if a0 = 13 then (some true) else (some (a0 == 32))))) = some r := h
 clear h
 by_cases c2 : a0 = 9
 ·rw [if_pos c2] at H
  have c2b0 : (a0 == 9) = true := beq_iff_eq.mpr c2
  have c2b1 : (a0 != 9) = false := bne_eq_false_iff_eq.mpr c2
  clear c2
  obtain rfl := Option.some.inj H
  go_enter Try.func33, Try.ntmps33
  go_wp2
  go_ret
  exact ⟨by first | rfl | (simp; done) | (simp [*]; done), by repeat (first | exact Drawn0.refl _ | apply Drawn0.step)⟩
 ·rw [if_neg c2] at H
  have c2b0 : (a0 == 9) = false := beq_eq_false_iff_ne.mpr c2
  have c2b1 : (a0 != 9) = true := bne_iff_ne.mpr c2
  by_cases c3 : a0 = 10
  ·rw [if_pos c3] at H
   have c3b0 : (a0 == 10) = true := beq_iff_eq.mpr c3
   have c3b1 : (a0 != 10) = false := bne_eq_false_iff_eq.mpr c3
   clear c3
   obtain rfl := Option.some.inj H
   go_enter Try.func33, Try.ntmps33
   go_wp2
   go_ret
   exact ⟨by first | rfl | (simp; done) | (simp [*]; done), by repeat (first | exact Drawn0.refl _ | apply Drawn0.step)⟩
  ·rw [if_neg c3] at H
   have c3b0 : (a0 == 10) = false := beq_eq_false_iff_ne.mpr c3
   have c3b1 : (a0 != 10) = true := bne_iff_ne.mpr c3
   by_cases c4 : a0 = 13
   ·rw [if_pos c4] at H
    have c4b0 : (a0 == 13) = true := beq_iff_eq.mpr c4
    have c4b1 : (a0 != 13) = false := bne_eq_false_iff_eq.mpr c4
    clear c4
    obtain rfl := Option.some.inj H
    go_enter Try.func33, Try.ntmps33
    go_wp2
    go_ret
    exact ⟨by first | rfl | (simp; done) | (simp [*]; done), by repeat (first | exact Drawn0.refl _ | apply Drawn0.step)⟩
   ·rw [if_neg c4] at H
    have c4b0 : (a0 == 13) = false := beq_eq_false_iff_ne.mpr c4
    have c4b1 : (a0 != 13) = true := bne_iff_ne.mpr c4
    obtain rfl := Option.some.inj H
    go_enter Try.func33, Try.ntmps33
    go_wp2
    go_ret
    exact ⟨by first | rfl | (simp; done) | (simp [*]; done), by repeat (first | exact Drawn0.refl _ | apply Drawn0.step)⟩

end Go.Proofs.Ytkoogebfdinbnaa.Q

-- Printed by this session's wip/np.py over the kit's print program. Not trusted: Lean checks it.
namespace Go.Proofs.Ytkoogebfdinbnaa.Q
open Go.RowKit Go.Proofs.YtkoogebfdinbnaaW.PrintWords Go.Proofs.YtkoogebfdinbnaaW.PrintLast Go.Proofs.YtkoogebfdinbnaaW.Own Go.Proofs.YtkoogebfdinbnaaW.PrintMore
attribute [local go_sem] max2_int min2_int max_two min_two max_three min_three max_four min_four
set_option linter.unusedVariables false
set_option linter.unusedSimpArgs false

/-! ### chars_Trim: function 47 -/
mutual
def chars_Trim.j1 : Nat → ByteArray → Option (ByteArray)
 | 0, _ => none
 | k + 1, x0 => chars_Trim.l1 k x0
def chars_Trim.l1 : Nat → ByteArray → Option (ByteArray)
 | 0, _ => none
 | k + 1, x0 => if x0.toList = ([] : List UInt8) then (some x0) else (if 0 ≤ (wrap64 ((x0.size : Int) - 1)) then (if (wrap64 ((x0.size : Int) - 1)) < (x0.size : Int) then ((chars_Space.f (bt x0 (wrap64 ((x0.size : Int) - 1)))).bind fun t113 => (if t113 = true then (if (wrap64 ((x0.size : Int) - 1)) ≤ (x0.size : Int) then (chars_Trim.l1 k (x0.extract 0 ((wrap64 ((x0.size : Int) - 1)) : Int).toNat)) else (none)) else (some x0))) else (none)) else (none))
def chars_Trim.l0 : Nat → ByteArray → Option (ByteArray)
 | 0, _ => none
 | k + 1, x0 => if x0.toList = ([] : List UInt8) then (chars_Trim.j1 k x0) else (if 0 < (x0.size : Int) then ((chars_Space.f (bt x0 0)).bind fun t112 => (if t112 = true then (if 1 ≤ (x0.size : Int) then (chars_Trim.l0 k (x0.extract 1 x0.size)) else (none)) else (chars_Trim.j1 k x0))) else (none))
end
def chars_Trim.f (k : Nat) (a0 : ByteArray) : Option (ByteArray) := chars_Trim.l0 k a0
theorem chars_Trim.mono_l : ∀ k, (∀ y0, LeO (chars_Trim.j1 k y0) (chars_Trim.j1 (k + 1) y0)) ∧ (∀ y0, LeO (chars_Trim.l1 k y0) (chars_Trim.l1 (k + 1) y0)) ∧ (∀ y0, LeO (chars_Trim.l0 k y0) (chars_Trim.l0 (k + 1) y0))
 | 0 => ⟨fun _ r h => by simp [chars_Trim.j1] at h, fun _ r h => by simp [chars_Trim.l1] at h, fun _ r h => by simp [chars_Trim.l0] at h⟩
 | k + 1 => by
  obtain ⟨ih0, ih1, ih2⟩ := chars_Trim.mono_l k
  refine ⟨?_, ?_, ?_⟩
  ·intro y0
   unfold chars_Trim.j1
   repeat' first
   | (with_reducible exact ih0 _)
   | (with_reducible exact ih1 _)
   | (with_reducible exact ih2 _)
   | (with_reducible exact LeO.refl _)
   | (with_reducible exact LeO.none _)
   | (with_reducible refine LeO.ite ?_ ?_)
   | (with_reducible refine LeO.bind ?_ (fun _ => ?_))
   | exact ih0 _
   | exact ih1 _
   | exact ih2 _
   | exact LeO.none _
   | refine LeO.ite ?_ ?_
   | refine LeO.bind ?_ (fun _ => ?_)
  ·intro y0
   unfold chars_Trim.l1
   repeat' first
   | (with_reducible exact ih0 _)
   | (with_reducible exact ih1 _)
   | (with_reducible exact ih2 _)
   | (with_reducible exact LeO.refl _)
   | (with_reducible exact LeO.none _)
   | (with_reducible refine LeO.ite ?_ ?_)
   | (with_reducible refine LeO.bind ?_ (fun _ => ?_))
   | exact ih0 _
   | exact ih1 _
   | exact ih2 _
   | exact LeO.none _
   | refine LeO.ite ?_ ?_
   | refine LeO.bind ?_ (fun _ => ?_)
  ·intro y0
   unfold chars_Trim.l0
   repeat' first
   | (with_reducible exact ih0 _)
   | (with_reducible exact ih1 _)
   | (with_reducible exact ih2 _)
   | (with_reducible exact LeO.refl _)
   | (with_reducible exact LeO.none _)
   | (with_reducible refine LeO.ite ?_ ?_)
   | (with_reducible refine LeO.bind ?_ (fun _ => ?_))
   | exact ih0 _
   | exact ih1 _
   | exact ih2 _
   | exact LeO.none _
   | refine LeO.ite ?_ ?_
   | refine LeO.bind ?_ (fun _ => ?_)
theorem chars_Trim.mono : ∀ a0 k, LeO (chars_Trim.f k a0) (chars_Trim.f (k + 1) a0) := by
 intro a0 k
 obtain ⟨ih0, ih1, ih2⟩ := chars_Trim.mono_l k
 unfold chars_Trim.f
 repeat' first
  | (with_reducible exact ih0 _)
  | (with_reducible exact ih1 _)
  | (with_reducible exact ih2 _)
  | (with_reducible exact LeO.refl _)
  | (with_reducible exact LeO.none _)
  | (with_reducible refine LeO.ite ?_ ?_)
  | (with_reducible refine LeO.bind ?_ (fun _ => ?_))
  | exact ih0 _
  | exact ih1 _
  | exact ih2 _
  | exact LeO.none _
  | refine LeO.ite ?_ ?_
  | refine LeO.bind ?_ (fun _ => ?_)
set_option maxHeartbeats 8000000 in
set_option maxRecDepth 100000 in
theorem chars_Trim.calls (k : Nat) (a0 : ByteArray) (r : ByteArray) (w : World) (hG : Glob w) (h : chars_Trim.f k a0 = some r) :
 Calls Try.prog 47 #[.string a0] w fun e w' => e = .returned (.string r) ∧ Drawn0 w w' := by
 have HG := Aside0.mk hG
 clear hG
 have H : (chars_Trim.l0 k a0) = some r := h
 clear h
 have HC2 := Aside0.mk H
 clear H
 go_enter Try.func47, Try.ntmps47
 go_upto_block 0 with (fail)
 go_cut [0] (fun v0 wc => ∃ (kq : Nat) (x0_1 : ByteArray), v0 = .string x0_1 ∧ Aside0 (chars_Trim.j1 kq x0_1 = some r) ∧ Aside0 (kq ≤ k) ∧ Drawn0 w wc)
 case first =>
  have H := HC2.out
  clear HC2
  have H' := Aside0.mk H
  clear H
  go_wp2
  go_loopg [0] k (fun kq v0 w' => ∃ (x0_1 : ByteArray), v0 = .string x0_1 ∧ Aside0 (chars_Trim.l0 kq x0_1 = some r) ∧ Aside0 (kq ≤ k) ∧ Drawn0 w w')
  case atStart => exact ⟨(a0), (by first | rfl | (simp; done) | (simp [*]; done) | (simp; exact isEmpty_bne _)), H', ⟨Nat.le_refl _⟩, by repeat (first | exact Drawn0.refl _ | apply Drawn0.step)⟩
  case round =>
   clear H'
   try clear p2
   obtain ⟨x0_1, rfl, HA, HK1, ⟨m1, rfl⟩⟩ := hrel
   cases gk with
   | zero => exact absurd HA.out (by simp [chars_Trim.l0])
   | succ k1 =>
    have H := HA.out
    clear HA
    simp only [chars_Trim.l0] at H
    (try simp only [toList_lit] at H)
    by_cases c3 : x0_1.toList = ([] : List UInt8)
    ·rw [if_pos c3] at H
     have c3b0 : (x0_1.toList == ([] : List UInt8)) = true := beq_iff_eq.mpr c3
     have c3b1 : (x0_1.toList != ([] : List UInt8)) = false := bne_eq_false_iff_eq.mpr c3
     (try (have c3b2 : x0_1.toList.isEmpty = true := by simpa using c3))
     clear c3
     (first | rw [c3b0] | rw [c3b2] | (simp only [i64_w, i32_w]; rw [c3b0]) | skip)
     have H' := Aside0.mk H
     clear H
     go_wp2
     go_meet
     case rel => exact ⟨_, (x0_1), (by first | rfl | (simp; done) | (simp [*]; done) | (simp; exact isEmpty_bne _)), H', ⟨by have := HK1.out; first | omega | exact Nat.le_refl _⟩, by repeat (first | exact Drawn0.refl _ | apply Drawn0.step)⟩
    ·rw [if_neg c3] at H
     have c3b0 : (x0_1.toList == ([] : List UInt8)) = false := beq_eq_false_iff_ne.mpr c3
     have c3b1 : (x0_1.toList != ([] : List UInt8)) = true := bne_iff_ne.mpr c3
     (try (have c3b2 : x0_1.toList.isEmpty = false := by simpa using c3))
     (first | rw [c3b0] | rw [c3b2] | (simp only [i64_w, i32_w]; rw [c3b0]) | skip)
     by_cases c4 : 0 < (x0_1.size : Int)
     ·rw [if_pos c4] at H
      have c4b0 : decide (0 < (x0_1.size : Int)) = true := decide_eq_true c4
      have c4b1 : decide (0 < x0_1.size) = true := decide_eq_true (by omega)
      clear c4
      replace H := Option.bind_eq_some_iff.mp H
      obtain ⟨t112, A60, H⟩ := H
      replace H : (if t112 = true then (if 1 ≤ (x0_1.size : Int) then (chars_Trim.l0 k1 (x0_1.extract 1 x0_1.size)) else (none)) else (chars_Trim.j1 k1 x0_1)) = some r := H
      have A6 := Aside0.mk A60
      clear A60
      by_cases c7 : t112 = true
      ·subst c7
       have H1 : (if 1 ≤ (x0_1.size : Int) then (chars_Trim.l0 k1 (x0_1.extract 1 x0_1.size)) else (none)) = some r := by rw [if_pos rfl] at H; exact H
       clear H
       have H := H1
       clear H1
       by_cases c8 : 1 ≤ (x0_1.size : Int)
       ·rw [if_pos c8] at H
        have c8b0 := eq_true c8
        have c8b1 : decide (1 ≤ (x0_1.size : Int)) = true := decide_eq_true c8
        clear c8
        have H' := Aside0.mk H
        clear H
        have p5 : 0 ≤ (0 : Int) := (by omega)
        have q5 : 0 < x0_1.size := (by have : (0 : Int) < (x0_1.size : Int) := of_decide_eq_true (by first | (with_reducible assumption) | assumption); omega)
        have hx5 : ∀ h : 0 < x0_1.size, ((x0_1[0]'h).toNat : Int) = bt x0_1 0 := bt_at x0_1 0
        clear p5
        have qi5 : (0 < (x0_1.size : Int)) = True := eq_true (of_decide_eq_true (by first | (with_reducible assumption) | assumption))
        replace q5 := eq_true q5
        go_wp2_with (first | (go_at_call 33; (with_reducible refine (chars_Space.calls (bt x0_1 0) true _ ?side1 A6.out).mono ?_); (case side1 => exact Glob.drawn HG.out (by repeat (first | exact Drawn0.refl _ | apply Drawn0.step))); rintro e w' ⟨rfl, ⟨nd, rfl⟩⟩))
        go_roundg k1
        case measure => have := HK1.out; omega
        case rel => exact ⟨(x0_1.extract 1 x0_1.size), (by first | rfl | (simp; done) | (simp [*]; done) | (simp; exact isEmpty_bne _)), H', ⟨by have := HK1.out; omega⟩, by repeat (first | exact Drawn0.refl _ | apply Drawn0.step)⟩
       ·rw [if_neg c8] at H
        exact absurd H (by simp)
      ·replace c7 := Bool.eq_false_iff.mpr c7
       subst c7
       have H1 : (chars_Trim.j1 k1 x0_1) = some r := by rw [if_neg (show ¬ (false = true) by decide)] at H; exact H
       clear H
       have H := H1
       clear H1
       have H' := Aside0.mk H
       clear H
       have p5 : 0 ≤ (0 : Int) := (by omega)
       have q5 : 0 < x0_1.size := (by have : (0 : Int) < (x0_1.size : Int) := of_decide_eq_true (by first | (with_reducible assumption) | assumption); omega)
       have hx5 : ∀ h : 0 < x0_1.size, ((x0_1[0]'h).toNat : Int) = bt x0_1 0 := bt_at x0_1 0
       clear p5
       have qi5 : (0 < (x0_1.size : Int)) = True := eq_true (of_decide_eq_true (by first | (with_reducible assumption) | assumption))
       replace q5 := eq_true q5
       go_wp2_with (first | (go_at_call 33; (with_reducible refine (chars_Space.calls (bt x0_1 0) false _ ?side1 A6.out).mono ?_); (case side1 => exact Glob.drawn HG.out (by repeat (first | exact Drawn0.refl _ | apply Drawn0.step))); rintro e w' ⟨rfl, ⟨nd, rfl⟩⟩))
       go_meet
       case rel => exact ⟨_, (x0_1), (by first | rfl | (simp; done) | (simp [*]; done) | (simp; exact isEmpty_bne _)), H', ⟨by have := HK1.out; first | omega | exact Nat.le_refl _⟩, by repeat (first | exact Drawn0.refl _ | apply Drawn0.step)⟩
     ·rw [if_neg c4] at H
      exact absurd H (by simp)
 case rest =>
  clear HC2
  try clear p2
  try clear c3
  try clear c3b0
  try clear c3b1
  try clear c3b2
  try clear c4
  try clear c4b0
  try clear c4b1
  try clear p5
  try clear q5
  try clear hx5
  try clear qi5
  try clear c7
  try clear c8
  try clear c8b0
  try clear c8b1
  try clear p2
  try clear p5
  try clear q5
  obtain ⟨kq, x0_1, rfl, HA, HJ1, ⟨mc1, rfl⟩⟩ := hcut
  cases kq with
  | zero => exact absurd HA.out (by simp [chars_Trim.j1])
  | succ kj1 =>
   have H := HA.out
   clear HA
   simp only [chars_Trim.j1] at H
   (try simp only [toList_lit] at H)
   have H' := Aside0.mk H
   clear H
   go_wp2
   go_loopg [0] kj1 (fun kq v0 w' => ∃ (x0_2 : ByteArray), v0 = .string x0_2 ∧ Aside0 (chars_Trim.l1 kq x0_2 = some r) ∧ Aside0 (kq ≤ kj1) ∧ Drawn0 w w')
   case atStart => exact ⟨(x0_1), (by first | rfl | (simp; done) | (simp [*]; done) | (simp; exact isEmpty_bne _)), H', ⟨Nat.le_refl _⟩, by repeat (first | exact Drawn0.refl _ | apply Drawn0.step)⟩
   case round =>
    clear H'
    try clear c1
    try clear p2
    try clear c3
    try clear c3b0
    try clear c3b1
    try clear c3b2
    try clear c4
    try clear c4b0
    try clear c4b1
    try clear p5
    try clear q5
    try clear hx5
    try clear qi5
    try clear c7
    try clear c8
    try clear c8b0
    try clear c8b1
    try clear p2
    try clear p5
    try clear q5
    obtain ⟨x0_2, rfl, HA, HK2, ⟨m2, rfl⟩⟩ := hrel
    cases gk with
    | zero => exact absurd HA.out (by simp [chars_Trim.l1])
    | succ k2 =>
     have H := HA.out
     clear HA
     simp only [chars_Trim.l1] at H
     (try simp only [toList_lit] at H)
     by_cases c9 : x0_2.toList = ([] : List UInt8)
     ·rw [if_pos c9] at H
      have c9b0 : (x0_2.toList == ([] : List UInt8)) = true := beq_iff_eq.mpr c9
      have c9b1 : (x0_2.toList != ([] : List UInt8)) = false := bne_eq_false_iff_eq.mpr c9
      (try (have c9b2 : x0_2.toList.isEmpty = true := by simpa using c9))
      clear c9
      obtain rfl := Option.some.inj H
      go_wp2
      go_ret
      exact ⟨by first | rfl | (simp; done) | (simp [*]; done), by repeat (first | exact Drawn0.refl _ | apply Drawn0.step)⟩
     ·rw [if_neg c9] at H
      have c9b0 : (x0_2.toList == ([] : List UInt8)) = false := beq_eq_false_iff_ne.mpr c9
      have c9b1 : (x0_2.toList != ([] : List UInt8)) = true := bne_iff_ne.mpr c9
      (try (have c9b2 : x0_2.toList.isEmpty = false := by simpa using c9))
      obtain ⟨ji10, hji10⟩ : ∃ j_ : Int, (wrap64 ((x0_2.size : Int) - 1)) = j_ := ⟨_, rfl⟩
      replace H : (if 0 ≤ (ji10) then (if (ji10) < (x0_2.size : Int) then ((chars_Space.f (bt x0_2 (ji10))).bind fun t113 => (if t113 = true then (if (ji10) ≤ (x0_2.size : Int) then (chars_Trim.l1 k2 (x0_2.extract 0 ((ji10) : Int).toNat)) else (none)) else (some x0_2))) else (none)) else (none)) = some r := by first | (rw [hji10] at H; exact H) | (simp only [hji10] at H ⊢; exact H)
      have hji10w : (IntKind.i64.wrap ((x0_2.size : Int) - 1)) = ji10 := (i64_w _).trans hji10
      by_cases c11 : 0 ≤ (ji10)
      ·rw [if_pos c11] at H
       have c11b0 : decide (0 ≤ (ji10)) = true := decide_eq_true c11
       clear c11
       by_cases c12 : (ji10) < (x0_2.size : Int)
       ·rw [if_pos c12] at H
        have c12b0 : decide ((ji10) < (x0_2.size : Int)) = true := decide_eq_true c12
        clear c12
        replace H := Option.bind_eq_some_iff.mp H
        obtain ⟨t113, A140, H⟩ := H
        replace H : (if t113 = true then (if (ji10) ≤ (x0_2.size : Int) then (chars_Trim.l1 k2 (x0_2.extract 0 ((ji10) : Int).toNat)) else (none)) else (some x0_2)) = some r := H
        have A14 := Aside0.mk A140
        clear A140
        by_cases c15 : t113 = true
        ·subst c15
         have H1 : (if (ji10) ≤ (x0_2.size : Int) then (chars_Trim.l1 k2 (x0_2.extract 0 ((ji10) : Int).toNat)) else (none)) = some r := by rw [if_pos rfl] at H; exact H
         clear H
         have H := H1
         clear H1
         have c16b0 := eq_true (of_decide_eq_true (by first | (with_reducible assumption) | assumption) : 0 ≤ (ji10))
         by_cases c17 : (ji10) ≤ (x0_2.size : Int)
         ·rw [if_pos c17] at H
          have c17b0 := eq_true c17
          have c17b1 : decide ((ji10) ≤ (x0_2.size : Int)) = true := decide_eq_true c17
          clear c17
          have H' := Aside0.mk H
          clear H
          have p13 : 0 ≤ ((ji10) : Int) := of_decide_eq_true (by first | (with_reducible assumption) | assumption)
          have q13 : (ji10) < (x0_2.size : Int) := of_decide_eq_true (by first | (with_reducible assumption) | assumption)
          have hx13 := bt_at x0_2 (ji10)
          replace p13 := eq_true p13
          replace q13 := eq_true q13
          go_wp2_with (first | (go_at_call 33; (with_reducible refine (chars_Space.calls (bt x0_2 (ji10)) true _ ?side1 A14.out).mono ?_); (case side1 => exact Glob.drawn HG.out (by repeat (first | exact Drawn0.refl _ | apply Drawn0.step))); rintro e w' ⟨rfl, ⟨nd, rfl⟩⟩))
          go_roundg k2
          case measure => have := HJ1.out; have := HK2.out; omega
          case rel => exact ⟨(x0_2.extract 0 ((ji10) : Int).toNat), (by first | rfl | (simp; done) | (simp only [← hji10] <;> (first | rfl | simp)) | (simp [*]; done)), H', ⟨by have := HJ1.out; have := HK2.out; omega⟩, by repeat (first | exact Drawn0.refl _ | apply Drawn0.step)⟩
         ·rw [if_neg c17] at H
          exact absurd H (by simp)
        ·replace c15 := Bool.eq_false_iff.mpr c15
         subst c15
         have H1 : (some x0_2) = some r := by rw [if_neg (show ¬ (false = true) by decide)] at H; exact H
         clear H
         have H := H1
         clear H1
         obtain rfl := Option.some.inj H
         have p13 : 0 ≤ ((ji10) : Int) := of_decide_eq_true (by first | (with_reducible assumption) | assumption)
         have q13 : (ji10) < (x0_2.size : Int) := of_decide_eq_true (by first | (with_reducible assumption) | assumption)
         have hx13 := bt_at x0_2 (ji10)
         replace p13 := eq_true p13
         replace q13 := eq_true q13
         go_wp2_with (first | (go_at_call 33; (with_reducible refine (chars_Space.calls (bt x0_2 (ji10)) false _ ?side1 A14.out).mono ?_); (case side1 => exact Glob.drawn HG.out (by repeat (first | exact Drawn0.refl _ | apply Drawn0.step))); rintro e w' ⟨rfl, ⟨nd, rfl⟩⟩))
         go_ret
         exact ⟨by first | rfl | (simp; done) | (simp only [← hji10] <;> (first | rfl | simp)) | (simp [*]; done), by repeat (first | exact Drawn0.refl _ | apply Drawn0.step)⟩
       ·rw [if_neg c12] at H
        exact absurd H (by simp)
      ·rw [if_neg c11] at H
       exact absurd H (by simp)

end Go.Proofs.Ytkoogebfdinbnaa.Q

-- Printed by this session's wip/np.py over the kit's print program. Not trusted: Lean checks it.
namespace Go.Proofs.Ytkoogebfdinbnaa.Q
open Go.RowKit Go.Proofs.YtkoogebfdinbnaaW.PrintWords Go.Proofs.YtkoogebfdinbnaaW.PrintLast Go.Proofs.YtkoogebfdinbnaaW.Own Go.Proofs.YtkoogebfdinbnaaW.PrintMore
attribute [local go_sem] max2_int min2_int max_two min_two max_three min_three max_four min_four
set_option linter.unusedVariables false
set_option linter.unusedSimpArgs false

/-! ### token_walk_put: function 52 -/
/-- The walk at block g: what is left of the file, and the tokens so far; both are of the call's own (from block B on). -/
def WalkAt (w : World) (B g : Nat) (ok : Nat → Prop) (s : ByteArray) (L : List S40) : Prop :=
 ∃ v, w.heap[g]? = some (.cells #[.string s, v] 65 (0, 0)) ∧ Kd.S k40 40 w B (fun k => ok k ∧ k ≠ g) v L ∧ B ≤ g ∧ 0 < B
theorem WalkAt.below {w w1 : World} {B g : Nat} {ok : Nat → Prop} {s : ByteArray} {L : List S40} (h : WalkAt w B g ok s L) (hb : Below w.heap.size w w1) : WalkAt w1 B g ok s L := by
 obtain ⟨v, h1, h2, h3⟩ := h
 exact ⟨v, blk_below h1 hb, Kd.S_below h2 hb, h3⟩
theorem WalkAt.left {w : World} {B g : Nat} {ok : Nat → Prop} {s : ByteArray} {L : List S40} (h : WalkAt w B g ok s L) (x : ByteArray) : WalkAt (w.setCell ⟨g, 0, none⟩ (.string x)) B g ok x L := by
 obtain ⟨v, h1, h2, h3⟩ := h
 exact ⟨v, by simpa using blk_set h1 0 (.string x), Kd.S_set h2 h1 (by decide) 0 _, h3⟩
theorem WalkAt.more {w : World} {B g : Nat} {ok ok' : Nat → Prop} {s : ByteArray} {L : List S40} (h : WalkAt w B g ok s L) (hk : ∀ k, k < w.heap.size → ok k → ok' k) : WalkAt w B g ok' s L := by
 obtain ⟨v, h1, h2, h3⟩ := h
 exact ⟨v, h1, Kd.S_mono (Kd.S_bound h2) (fun k hk' => ⟨hk k hk'.2.2.1 hk'.1.1, hk'.1.2⟩), h3⟩
theorem WalkAt.far {w : World} {B g : Nat} {ok : Nat → Prop} {s : ByteArray} {L : List S40} (h : WalkAt w B g ok s L) {p : Addr} (hp : p.block ≠ g) (hk : ∀ k, ok k → k ≠ p.block) (u : Value) : WalkAt (w.setCell p u) B g ok s L := by
 obtain ⟨v, h1, h2, h3⟩ := h
 exact ⟨v, blk_far h1 (fun e => hp e.symm) u, Kd.S_far h2 (fun k hk' => hk k hk'.1) u, h3⟩
theorem WalkAt.cell0 {w : World} {B g : Nat} {ok : Nat → Prop} {s : ByteArray} {L : List S40} (h : WalkAt w B g ok s L) : w.cell? ⟨g, 0, none⟩ = some (.string s) := by
 obtain ⟨v, h1, h2, h3⟩ := h
 exact (blk_cell h1 0).trans rfl
theorem WalkAt.frozen {w : World} {B g : Nat} {ok : Nat → Prop} {s : ByteArray} {L : List S40} (h : WalkAt w B g ok s L) (i : Nat) : w.frozen? ⟨g, i, none⟩ = false := by
 obtain ⟨v, h1, h2, h3⟩ := h
 exact blk_frozen h1 i
theorem WalkAt.ge {w : World} {B g : Nat} {ok : Nat → Prop} {s : ByteArray} {L : List S40} (h : WalkAt w B g ok s L) : B ≤ g := h.choose_spec.2.2.1
theorem WalkAt.pos {w : World} {B g : Nat} {ok : Nat → Prop} {s : ByteArray} {L : List S40} (h : WalkAt w B g ok s L) : 0 < B := h.choose_spec.2.2.2
theorem WalkAt.lt {w : World} {B g : Nat} {ok : Nat → Prop} {s : ByteArray} {L : List S40} (h : WalkAt w B g ok s L) : g < w.heap.size := blk_lt h.choose_spec.1
theorem WalkAt.size {w : World} {B g : Nat} {ok : Nat → Prop} {s : ByteArray} {L : List S40} (h : WalkAt w B g ok s L) : B ≤ w.heap.size := Nat.le_of_lt (Nat.lt_of_le_of_lt h.ge h.lt)
/-- A row of other elements is none of the row that is written. -/
theorem WalkAt.apart {w : World} {B g : Nat} {ok okp : Nat → Prop} {v va : Value} {s : ByteArray} {L : List S40} {xs : List S68} (h1 : w.heap[g]? = some (.cells #[.string s, v] 65 (0, 0))) (h2 : Kd.S k40 40 w B ok v L) (ha : Kd.R k68 68 w B okp va xs) :
 Kd.R k68 68 w B (fun k => (okp k ∧ k ≠ g) ∧ some k ≠ v.ownBlock) va xs := by
 refine Kd.R_mono (Kd.R_bound ha) (fun k hk => ?_)
 obtain ⟨hok, _, _, q, hq, cells, hc⟩ := hk
 have hq' : q = 68 := by simpa [k68, Kd.iso, Kd.pair, Kd.string, Kd.scalar] using hq
 subst hq'
 refine ⟨⟨hok, ?_⟩, ?_⟩
 ·rintro rfl
  rw [h1] at hc
  injection hc with hc
  injection hc with _ hc
  exact absurd hc (by decide)
 ·intro he
  obtain ⟨cells', hc'⟩ := Kd.S_typed h2 k he.symm
  rw [hc'] at hc
  injection hc with hc
  injection hc with _ hc
  exact absurd hc (by decide)
theorem tokInfo : (Try.prog.info? 40).map (fun i => (i.zero, i.size, i.bytes)) = some (some (.agg #[.int .i64 0, .string ⟨#[]⟩, .string ⟨#[]⟩, .slice none 0 0, .bool false]), 5, 72) := by kernel_rfl
set_option maxHeartbeats 4000000 in
set_option maxRecDepth 100000 in
theorem token_walk_put.calls (B g : Nat) {ok : Nat → Prop} (okp : Nat → Prop) (s : ByteArray) (L : List S40) (t : S40) (va : Value) (w : World) (h : WalkAt w B g (fun k => ok k ∧ ¬ okp k) s L) (ha : Kd.R k68 68 w B okp va t.f3) (hop : ∀ k, okp k → ok k) (hok : ∀ k, w.heap.size ≤ k → ok k) (hl : L.length ≤ 100000) :
 Calls Try.prog 52 #[.pointer (some ⟨g, 0, none⟩), .agg #[.int .i64 t.f0, .string t.f1, .string t.f2, va, .bool t.f4]] w fun e w' => e = .returned (.bool true) ∧ WalkAt w' B g ok s (L ++ [t]) ∧ Below B w w' := by
 have hgB := h.ge
 have hpos := h.pos
 have hsz := h.size
 obtain ⟨v, h1, h2, h3, _⟩ := h
 have ha' := WalkAt.apart h1 h2 ha
 obtain ⟨A0, c0, rfl⟩ := Kd.R_slice ha
 obtain ⟨A1, c1, rfl⟩ := Kd.S_slice h2
 have H1 := Aside0.mk h1
 have H2 := Aside0.mk h2
 have HA := Aside0.mk ha'
 clear h1 h2 ha ha'
 go_enter Try.func52, Try.ntmps52
 go_wp2
 have hb0 : Below w.heap.size w (w.alloc (.cells #[.int .i64 t.f0, .string t.f1, .string t.f2, .slice A0 t.f3.length c0, .bool t.f4] 40)) := below_alloc (Below.refl _ _) _
 have X : (w.alloc (.cells #[.int .i64 t.f0, .string t.f1, .string t.f2, .slice A0 t.f3.length c0, .bool t.f4] 40)).heap[w.heap.size]? = some (.cells #[.int .i64 t.f0, .string t.f1, .string t.f2, .slice A0 t.f3.length c0, .bool t.f4] 40 (0, 0)) := heap_alloc_new w _
 have HT1 := Aside0.mk (blk_below H1.out hb0)
 have HT2 := Aside0.mk (Kd.S_below H2.out hb0)
 have HTA := Aside0.mk (Kd.R_below HA.out hb0)
 have HB := Aside0.mk (hb0.mono hsz)
 have hwW : w.heap.size ≤ (w.alloc (.cells #[.int .i64 t.f0, .string t.f1, .string t.f2, .slice A0 t.f3.length c0, .bool t.f4] 40)).heap.size := hb0.size
 clear H1 H2 HA hb0
 generalize w.alloc _ = W at *
 have HX := Aside0.mk X
 clear X
 have x0 := (blk_cell HX.out 0).trans rfl
 have x1 := (blk_cell HX.out 1).trans rfl
 have x2 := (blk_cell HX.out 2).trans rfl
 have x3 := (blk_cell HX.out 3).trans rfl
 have x4 := (blk_cell HX.out 4).trans rfl
 have y1 := (blk_cell HT1.out 1).trans rfl
 have z1 := blk_frozen HT1.out 1
 have y1a := fun o => (blk_cell (blk_alloc HT1.out o) 1).trans rfl
 have hW : B ≤ W.heap.size := Nat.le_trans hsz HB.out.size
 have hfr : ∀ k, W.drew.heap.size ≤ k → ok k ∧ k ≠ g := fun k hk => by have := blk_lt HT1.out; have e : W.drew.heap.size = W.heap.size := rfl; exact ⟨hok k (by omega), by omega⟩
 go_region_law (refine Kd.S_append_step k40 (w0 := w) (W := W.drew) B (by rfl) (.tmp 9) (.tmp 11) 41 40 _ 72 rfl Try.underlying41 tokInfo rfl (by decide) (by decide) (.slice A1 L.length c1) L t [.int .i64 t.f0, .string t.f1, .string t.f2, .slice A0 t.f3.length c0, .bool t.f4] (fun k => ok k ∧ k ≠ g) (fun k => (okp k ∧ k ≠ g) ∧ some k ≠ (Value.slice A1 L.length c1).ownBlock) rfl rfl (k40_mkM _ _ _ t (Kd.R_drew HTA.out)) (fun k hk => ⟨⟨hop k hk.1.1, hk.1.2⟩, hk.2⟩) hfr (Kd.S_mono (Kd.S_drew HT2.out) (fun k hk => ⟨⟨hk.1.1, hk.2⟩, fun h => hk.1.2 h.1.1⟩)) (below_drew HB.out) hW (by omega) ?_; intro v1 w1 r1 b1 g1 at1; obtain ⟨A2, c2, rfl⟩ := Kd.S_slice r1; have R1 := Aside0.mk r1; have B1 := Aside0.mk b1; have G1 := Aside0.mk (blk_grown (blk_drew HT1.out) g1 (Kd.S_away HT2.out (fun k hk => hk.2))); clear r1 b1 g1 at1; have z2 := blk_frozen G1.out 1; have y2 := (blk_cell G1.out 1).trans rfl)
 all_goals
  go_wp2
  go_ret
  have G2 := blk_set G1.out 1 (.slice A2 (L ++ [t]).length c2)
  have R2 := Kd.S_set R1.out G1.out (by decide) 1 (.slice A2 (L ++ [t]).length c2)
  have B2 := B1.out.setCell (p := ⟨g, 1, none⟩) hgB (.slice A2 (L ++ [t]).length c2)
  have el : (L ++ [t]).length = L.length + 1 := by simp
  rw [el] at G2 R2 B2
  exact ⟨rfl, ⟨_, by simpa using G2, R2, hgB, hpos⟩, B2⟩



end Go.Proofs.Ytkoogebfdinbnaa.Q

-- Printed by this session's wip/np.py over the kit's print program. Not trusted: Lean checks it.
namespace Go.Proofs.Ytkoogebfdinbnaa.Q
open Go.RowKit Go.Proofs.YtkoogebfdinbnaaW.PrintWords Go.Proofs.YtkoogebfdinbnaaW.PrintLast Go.Proofs.YtkoogebfdinbnaaW.Own Go.Proofs.YtkoogebfdinbnaaW.PrintMore
attribute [local go_sem] max2_int min2_int max_two min_two max_three min_three max_four min_four
set_option linter.unusedVariables false
set_option linter.unusedSimpArgs false

/-! ### token_walk_upTo: function 49 -/
theorem upto_some {x l a r : List UInt8} (h : Tk.upto x l = some (a, r)) : Lib.cut l x = (a, r, true) := by
 unfold Tk.upto at h
 unfold Lib.cut
 split at h
 ·rename_i hp
  injection h with h
  injection h with h1 h2
  rw [if_pos hp, h1, h2]
 ·cases h
theorem upto_none {x l : List UInt8} (h : Tk.upto x l = none) : Lib.cut l x = (l, [], false) := by
 unfold Tk.upto at h
 unfold Lib.cut
 split at h
 ·cases h
 ·rename_i hp
  rw [if_neg hp]
theorem bs_size (l : List UInt8) : (Tk.bs l).size = l.length := by rw [Lib.size_eq]; rfl
set_option maxHeartbeats 1000000 in
theorem token_walk_upTo.callsK (B g : Nat) {ok : Nat → Prop} (l x : List UInt8) (L : List S40) (w : World) (h : WalkAt w B g ok (Tk.bs l) L) (hG : Glob w) (hl : l.length ≤ 1000000) :
 Calls Try.prog 49 #[.pointer (some ⟨g, 0, none⟩), .string (Tk.bs x)] w fun e w' => e = .returned (.tuple #[.string (Tk.bs (Lib.cut l x).1), .bool (Lib.cut l x).2.2]) ∧ WalkAt w' B g ok (Tk.bs (Lib.cut l x).2.1) L ∧ Below B w w' ∧ KeepBut w w' g none := by
 have hs : (Tk.bs l).size < 4294967281 := by rw [bs_size]; omega
 have c0 := h.cell0
 have f0 := h.frozen 0
 obtain ⟨m, hm⟩ := hG
 have H := Aside0.mk h
 clear h
 go_enter Try.func49, Try.ntmps49
 go_wp2_with (first | (go_at_call 61; refine (Try.strings_Cut _ _ m _ hs hm).mono ?_; rintro e w' ⟨rfl, nd, rfl⟩))
 go_ret2
 have h1 : WalkAt (w.drewN nd) B g ok (Tk.bs l) L := H.out.below (pw_below_drewN (Below.refl _ _) nd)
 exact ⟨rfl, h1.left _, (pw_below_drewN (Below.refl _ _) nd).setCell (p := ⟨g, 0, none⟩) H.out.ge _, (keep_drewN (KeepBut.refl _ _ _) nd).set_ 0 _⟩
theorem token_walk_upTo.calls (B g : Nat) {ok : Nat → Prop} (l x : List UInt8) (L : List S40) (w : World) (h : WalkAt w B g ok (Tk.bs l) L) (hG : Glob w) (hl : l.length ≤ 1000000) :
 Calls Try.prog 49 #[.pointer (some ⟨g, 0, none⟩), .string (Tk.bs x)] w fun e w' => e = .returned (.tuple #[.string (Tk.bs (Lib.cut l x).1), .bool (Lib.cut l x).2.2]) ∧ WalkAt w' B g ok (Tk.bs (Lib.cut l x).2.1) L ∧ Below B w w' := (token_walk_upTo.callsK B g l x L w h hG hl).mono fun e w' h => ⟨h.1, h.2.1, h.2.2.1⟩
theorem token_walk_upTo.yesK (B g : Nat) {ok : Nat → Prop} (l x a r : List UInt8) (L : List S40) (w : World) (h : WalkAt w B g ok (Tk.bs l) L) (hG : Glob w) (hl : l.length ≤ 1000000) (hx : Tk.upto x l = some (a, r)) :
 Calls Try.prog 49 #[.pointer (some ⟨g, 0, none⟩), .string (Tk.bs x)] w fun e w' => e = .returned (.tuple #[.string (Tk.bs a), .bool true]) ∧ WalkAt w' B g ok (Tk.bs r) L ∧ Below B w w' ∧ KeepBut w w' g none := by
 have := token_walk_upTo.callsK B g l x L w h hG hl
 rwa [upto_some hx] at this
theorem token_walk_upTo.yes (B g : Nat) {ok : Nat → Prop} (l x a r : List UInt8) (L : List S40) (w : World) (h : WalkAt w B g ok (Tk.bs l) L) (hG : Glob w) (hl : l.length ≤ 1000000) (hx : Tk.upto x l = some (a, r)) :
 Calls Try.prog 49 #[.pointer (some ⟨g, 0, none⟩), .string (Tk.bs x)] w fun e w' => e = .returned (.tuple #[.string (Tk.bs a), .bool true]) ∧ WalkAt w' B g ok (Tk.bs r) L ∧ Below B w w' := (token_walk_upTo.yesK B g l x a r L w h hG hl hx).mono fun e w' h => ⟨h.1, h.2.1, h.2.2.1⟩
theorem token_walk_upTo.noK (B g : Nat) {ok : Nat → Prop} (l x : List UInt8) (L : List S40) (w : World) (h : WalkAt w B g ok (Tk.bs l) L) (hG : Glob w) (hl : l.length ≤ 1000000) (hx : Tk.upto x l = none) :
 Calls Try.prog 49 #[.pointer (some ⟨g, 0, none⟩), .string (Tk.bs x)] w fun e w' => e = .returned (.tuple #[.string (Tk.bs l), .bool false]) ∧ WalkAt w' B g ok (Tk.bs []) L ∧ Below B w w' ∧ KeepBut w w' g none := by
 have := token_walk_upTo.callsK B g l x L w h hG hl
 rwa [upto_none hx] at this

theorem token_walk_upTo.no (B g : Nat) {ok : Nat → Prop} (l x : List UInt8) (L : List S40) (w : World) (h : WalkAt w B g ok (Tk.bs l) L) (hG : Glob w) (hl : l.length ≤ 1000000) (hx : Tk.upto x l = none) :
 Calls Try.prog 49 #[.pointer (some ⟨g, 0, none⟩), .string (Tk.bs x)] w fun e w' => e = .returned (.tuple #[.string (Tk.bs l), .bool false]) ∧ WalkAt w' B g ok (Tk.bs []) L ∧ Below B w w' := (token_walk_upTo.noK B g l x L w h hG hl hx).mono fun e w' h => ⟨h.1, h.2.1, h.2.2.1⟩


end Go.Proofs.Ytkoogebfdinbnaa.Q

-- Printed by this session's wip/np.py over the kit's print program. Not trusted: Lean checks it.
namespace Go.Proofs.Ytkoogebfdinbnaa.Q
open Go.RowKit Go.Proofs.YtkoogebfdinbnaaW.PrintWords Go.Proofs.YtkoogebfdinbnaaW.PrintLast Go.Proofs.YtkoogebfdinbnaaW.Own Go.Proofs.YtkoogebfdinbnaaW.PrintMore
attribute [local go_sem] max2_int min2_int max_two min_two max_three min_three max_four min_four
set_option linter.unusedVariables false
set_option linter.unusedSimpArgs false

/-! ### token_walk_skip: function 54 -/
theorem tw_at {p : UInt8 → Bool} : ∀ {l : List UInt8} {i : Nat} (h : i < (l.takeWhile p).length), ∃ h' : i < l.length, p l[i] = true
 | [], i, h => by simp at h
 | c :: r, i, h => by
  by_cases hc : p c = true
  ·rw [List.takeWhile_cons, if_pos hc] at h
   cases i with
   | zero => exact ⟨by simp, hc⟩
   | succ i =>
    obtain ⟨h', e⟩ := tw_at (l := r) (i := i) (by simpa using h)
    exact ⟨by simp; exact h', by simpa using e⟩
  ·rw [List.takeWhile_cons, if_neg hc] at h
   simp at h
theorem tw_end {p : UInt8 → Bool} : ∀ {l : List UInt8} (h : (l.takeWhile p).length < l.length), p l[(l.takeWhile p).length] = false
 | [], h => by simp at h
 | c :: r, h => by
  by_cases hc : p c = true
  ·have h2 : (r.takeWhile p).length < r.length := by
    rw [List.takeWhile_cons, if_pos hc] at h
    simpa using h
   have := tw_end h2
   simpa [List.takeWhile_cons, hc] using this
  ·simp [List.takeWhile_cons, hc]
theorem tw_le {p : UInt8 → Bool} (l : List UInt8) : (l.takeWhile p).length ≤ l.length := (List.takeWhile_sublist p).length_le
theorem dw_drop {p : UInt8 → Bool} : ∀ (l : List UInt8), l.dropWhile p = l.drop (l.takeWhile p).length
 | [] => rfl
 | c :: r => by
  by_cases hc : p c = true
  ·rw [List.dropWhile_cons, if_pos hc, List.takeWhile_cons, if_pos hc, List.length_cons, List.drop_succ_cons]
   exact dw_drop r
  ·rw [List.dropWhile_cons, if_neg hc, List.takeWhile_cons, if_neg hc]; rfl
theorem bs_bt (l : List UInt8) (i : Nat) (h : i < l.length) : bt (Tk.bs l) (i : Int) = (l[i].toNat : Int) := by
 unfold bt
 rw [dif_pos (by rw [bs_size]; simpa using h)]
 rfl
theorem bs_drop (l : List UInt8) (i : Nat) : (Tk.bs l).extract i (Tk.bs l).size = Tk.bs (l.drop i) := by
 have : ((Tk.bs l).extract i (Tk.bs l).size).data.toList = (Tk.bs (l.drop i)).data.toList := by
  rw [Lib.extract_data, bs_size]
  show (l.drop i).take (l.length - i) = l.drop i
  rw [List.take_of_length_le (by rw [List.length_drop]; omega)]
 cases h1 : (Tk.bs l).extract i (Tk.bs l).size with
 | mk d => rw [h1] at this; cases d; simp at this; subst this; rfl
theorem space_f (c : UInt8) : chars_Space.f (c.toNat : Int) = some (Tk.space c) := by
 unfold chars_Space.f Tk.space
 by_cases h1 : (c.toNat : Int) = 9
 ·have : c.toNat = 9 := by omega
  rw [if_pos h1, this]; rfl
 by_cases h2 : (c.toNat : Int) = 10
 ·have : c.toNat = 10 := by omega
  rw [if_neg h1, if_pos h2, this]; rfl
 by_cases h3 : (c.toNat : Int) = 13
 ·have : c.toNat = 13 := by omega
  rw [if_neg h1, if_neg h2, if_pos h3, this]; rfl
 rw [if_neg h1, if_neg h2, if_neg h3]
 congr 1
 rw [Bool.eq_iff_iff]
 simp only [beq_iff_eq, Bool.or_eq_true]
 omega
set_option maxHeartbeats 4000000 in
set_option maxRecDepth 100000 in
theorem token_walk_skip.callsK (B g : Nat) {ok : Nat → Prop} (l : List UInt8) (L : List S40) (w : World) (h : WalkAt w B g ok (Tk.bs l) L) (hG : Glob w) (hl : l.length ≤ 1000000) :
 Calls Try.prog 54 #[.pointer (some ⟨g, 0, none⟩)] w fun e w' => e = .returned (.bool (decide ((Tk.skip l).length < l.length))) ∧ WalkAt w' B g ok (Tk.bs (Tk.skip l)) L ∧ Below B w w' ∧ KeepBut w w' g none := by
 have hn := tw_le (p := Tk.space) l
 have hsk : Tk.skip l = l.drop (l.takeWhile Tk.space).length := dw_drop l
 have hin := fun i => tw_at (p := Tk.space) (l := l) (i := i)
 have hend := tw_end (p := Tk.space) (l := l)
 have hB := h.ge
 have hpos := h.pos
 obtain ⟨n0, hn0⟩ : ∃ n0, n0 = (l.takeWhile Tk.space).length := ⟨_, rfl⟩
 rw [← hn0] at hn hsk hin hend
 have hsz := bs_size l
 have hbt := bs_bt l
 have hdr := bs_drop l
 obtain ⟨s, hs⟩ : ∃ s, s = Tk.bs l := ⟨_, rfl⟩
 rw [← hs] at hsz hbt hdr h
 have HS := Lib.hid hs
 have HN := Lib.hid hn0
 have HSK := Lib.hid hsk
 have HIN := Lib.hid hin
 have HEND := Lib.hid hend
 have HSZ := Lib.hid hsz
 have HBT := Lib.hid hbt
 have HDR := Lib.hid hdr
 have H := Aside0.mk h
 have HG := Aside0.mk hG
 clear hs hn0 hsk hin hend hsz hbt hdr h hG
 go_enter Try.func54, Try.ntmps54
 go_wp2
 go_loopg [3] (n0 + 1) (fun gk v3 w' => ∃ (i : Nat) (x : Int), i ≤ n0 ∧ i + gk = n0 + 1 ∧ v3 = .int .i64 x ∧ Aside0 (x = (i : Int)) ∧ Aside0 (WalkAt w' B g ok s L) ∧ Aside0 (Below B w w') ∧ Aside0 (KeepBut w w' g none))
 case atStart => exact ⟨0, 0, by omega, by omega, rfl, ⟨rfl⟩, H, ⟨Below.refl _ _⟩, ⟨KeepBut.refl _ _ _⟩⟩
 case round =>
  clear H
  obtain ⟨i, x, hi, hgk, rfl, HX, H, HB, HK⟩ := hrel
  have c0 := H.out.cell0
  have f0 := H.out.frozen 0
  have hG1 : Glob wr := HG.out.below HB.out hpos
  by_cases hlt : i < n0
  ·obtain ⟨g1, rfl⟩ : ∃ g1, gk = g1 + 1 := ⟨gk - 1, by omega⟩
   obtain ⟨hil, hsp⟩ := HIN.out i hlt
   have hsz := HSZ.out
   have hxi := HX.out
   have d1 : decide (x < (s.size : Int)) = true := decide_eq_true (by omega)
   have p1 := eq_true (show 0 ≤ x by omega)
   have p2 := eq_true (show x < (s.size : Int) by omega)
   have hx := bt_at s x
   have hf : chars_Space.f (bt s x) = some true := by rw [hxi, HBT.out i hil, space_f, hsp]
   have HF := Aside0.mk hf
   have HG1 := Aside0.mk hG1
   have hw : wrap64 (x + 1) = ((i + 1 : Nat) : Int) := by unfold wrap64; omega
   have HW := Aside0.mk hw
   clear hsz hf hG1 hsp hxi hw
   go_wp2_with (first | (go_at_call 33; (with_reducible refine (chars_Space.calls (bt s x) true _ HG1.out HF.out).mono ?_); rintro e w1 ⟨rfl, ⟨nd, rfl⟩⟩))
   go_roundg g1
   case measure => omega
   case rel => exact ⟨i + 1, _, by omega, by omega, by first | rfl | (simp; done), HW, ⟨H.out.below (pw_below_drewN (Below.refl _ _) nd)⟩, ⟨pw_below_drewN HB.out nd⟩, ⟨keep_drewN HK.out nd⟩⟩
  ·obtain rfl : i = n0 := by omega
   have hsz := HSZ.out
   have hxi := HX.out
   have hskl : (Tk.skip l).length = l.length - i := by rw [HSK.out, List.length_drop]
   have HSL := Lib.hid hskl
   have hbl : Below B w (wr.setCell ⟨g, 0, none⟩ (.string (s.extract x.toNat s.size))) := HB.out.setCell (p := ⟨g, 0, none⟩) hB _
   have p1 := eq_true (show 0 ≤ x by omega)
   have p3 := eq_true (show x ≤ (s.size : Int) by omega)
   have p3' : decide (x ≤ (s.size : Int)) = true := decide_eq_true (by omega)
   have hex : s.extract x.toNat s.size = Tk.bs (Tk.skip l) := by rw [hxi, Int.toNat_natCast, HDR.out, HSK.out]
   have hres : decide (x > 0) = decide ((Tk.skip l).length < l.length) := by rw [hskl]; congr 1; rw [eq_iff_iff]; omega
   have HEX := Lib.hid hex
   have HR := Lib.hid hres
   by_cases hl2 : i < l.length
   ·have hns := HEND.out hl2
    have d1 : decide (x < (s.size : Int)) = true := decide_eq_true (by omega)
    have p2 := eq_true (show x < (s.size : Int) by omega)
    have hx := bt_at s x
    have hf : chars_Space.f (bt s x) = some false := by rw [hxi, HBT.out i hl2, space_f, hns]
    have HF := Aside0.mk hf
    have HG1 := Aside0.mk hG1
    clear hsz hf hG1 hns hxi hskl hex hres
    go_wp2_with (first | (go_at_call 33; (with_reducible refine (chars_Space.calls (bt s x) false _ HG1.out HF.out).mono ?_); rintro e w1 ⟨rfl, ⟨nd, rfl⟩⟩))
    go_ret
    refine ⟨by rw [HR.out]; rfl, ?_, ?_⟩
    ·rw [← HEX.out]
     exact (H.out.below (pw_below_drewN (Below.refl _ _) nd)).left _
    ·exact ⟨(pw_below_drewN HB.out nd).setCell (p := ⟨g, 0, none⟩) hB _, (keep_drewN HK.out nd).set_ 0 _⟩
   ·have d1 : decide (x < (s.size : Int)) = false := decide_eq_false (by omega)
    clear hsz hG1 hxi hskl hex hres
    go_wp2
    go_ret
    refine ⟨by rw [HR.out]; rfl, ?_, ?_⟩
    ·rw [← HEX.out]
     exact H.out.left _
    ·exact ⟨HB.out.setCell (p := ⟨g, 0, none⟩) hB _, HK.out.set_ 0 _⟩

theorem token_walk_skip.calls (B g : Nat) {ok : Nat → Prop} (l : List UInt8) (L : List S40) (w : World) (h : WalkAt w B g ok (Tk.bs l) L) (hG : Glob w) (hl : l.length ≤ 1000000) :
 Calls Try.prog 54 #[.pointer (some ⟨g, 0, none⟩)] w fun e w' => e = .returned (.bool (decide ((Tk.skip l).length < l.length))) ∧ WalkAt w' B g ok (Tk.bs (Tk.skip l)) L ∧ Below B w w' := (token_walk_skip.callsK B g l L w h hG hl).mono fun e w' h => ⟨h.1, h.2.1, h.2.2.1⟩


end Go.Proofs.Ytkoogebfdinbnaa.Q

-- Printed by this session's wip/np.py over the kit's print program. Not trusted: Lean checks it.
namespace Go.Proofs.Ytkoogebfdinbnaa.Q
open Go.RowKit Go.Proofs.YtkoogebfdinbnaaW.PrintWords Go.Proofs.YtkoogebfdinbnaaW.PrintLast Go.Proofs.YtkoogebfdinbnaaW.Own Go.Proofs.YtkoogebfdinbnaaW.PrintMore
attribute [local go_sem] max2_int min2_int max_two min_two max_three min_three max_four min_four
set_option linter.unusedVariables false
set_option linter.unusedSimpArgs false

/-! ### chars_first: function 72 -/
def chars_first.f (a0 : Int) : Option (Bool) := if a0 ≥ 65 then (if a0 ≤ 90 then (some true) else (if a0 ≥ 97 then (if a0 ≤ 122 then (some true) else (some (a0 == 95))) else (some (a0 == 95)))) else (if a0 ≥ 97 then (if a0 ≤ 122 then (some true) else (some (a0 == 95))) else (some (a0 == 95)))
set_option maxHeartbeats 8000000 in
set_option maxRecDepth 100000 in
theorem chars_first.calls (a0 : Int) (r : Bool) (w : World) (hG : Glob w) (h : chars_first.f a0 = some r) :
 Calls Try.prog 72 #[.int .u8 a0] w fun e w' => e = .returned (.bool r) ∧ Drawn0 w w' := by
 have HG := Aside0.mk hG
 clear hG
 have H : (if a0 ≥ 65 then (if a0 ≤ 90 then (some true) else (if a0 ≥ 97 then (if a0 ≤ 122 then (some true) else (some (a0 == 95))) else (some (a0 == 95)))) else (if a0 ≥ 97 then (if a0 ≤ 122 then (some true) else (some (a0 == 95))) else (some (a0 == 95)))) = some r := h
 clear h
 by_cases c2 : a0 ≥ 65
 ·rw [if_pos c2] at H
  have c2b0 : decide (65 ≤ a0) = true := decide_eq_true c2
  clear c2
  by_cases c3 : a0 ≤ 90
  ·rw [if_pos c3] at H
   have c3b0 : decide (a0 ≤ 90) = true := decide_eq_true c3
   clear c3
   obtain rfl := Option.some.inj H
   go_enter Try.func72, Try.ntmps72
   go_wp2
   go_ret
   exact ⟨by first | rfl | (simp; done) | (simp [*]; done), by repeat (first | exact Drawn0.refl _ | apply Drawn0.step)⟩
  ·rw [if_neg c3] at H
   have c3b0 : decide (a0 ≤ 90) = false := decide_eq_false c3
   clear c3
   by_cases c4 : a0 ≥ 97
   ·rw [if_pos c4] at H
    have c4b0 : decide (97 ≤ a0) = true := decide_eq_true c4
    clear c4
    by_cases c5 : a0 ≤ 122
    ·rw [if_pos c5] at H
     have c5b0 : decide (a0 ≤ 122) = true := decide_eq_true c5
     clear c5
     obtain rfl := Option.some.inj H
     go_enter Try.func72, Try.ntmps72
     go_wp2
     go_ret
     exact ⟨by first | rfl | (simp; done) | (simp [*]; done), by repeat (first | exact Drawn0.refl _ | apply Drawn0.step)⟩
    ·rw [if_neg c5] at H
     have c5b0 : decide (a0 ≤ 122) = false := decide_eq_false c5
     clear c5
     obtain rfl := Option.some.inj H
     go_enter Try.func72, Try.ntmps72
     go_wp2
     go_ret
     exact ⟨by first | rfl | (simp; done) | (simp [*]; done), by repeat (first | exact Drawn0.refl _ | apply Drawn0.step)⟩
   ·rw [if_neg c4] at H
    have c4b0 : decide (97 ≤ a0) = false := decide_eq_false c4
    clear c4
    obtain rfl := Option.some.inj H
    go_enter Try.func72, Try.ntmps72
    go_wp2
    go_ret
    exact ⟨by first | rfl | (simp; done) | (simp [*]; done), by repeat (first | exact Drawn0.refl _ | apply Drawn0.step)⟩
 ·rw [if_neg c2] at H
  have c2b0 : decide (65 ≤ a0) = false := decide_eq_false c2
  clear c2
  by_cases c6 : a0 ≥ 97
  ·rw [if_pos c6] at H
   have c6b0 : decide (97 ≤ a0) = true := decide_eq_true c6
   clear c6
   by_cases c7 : a0 ≤ 122
   ·rw [if_pos c7] at H
    have c7b0 : decide (a0 ≤ 122) = true := decide_eq_true c7
    clear c7
    obtain rfl := Option.some.inj H
    go_enter Try.func72, Try.ntmps72
    go_wp2
    go_ret
    exact ⟨by first | rfl | (simp; done) | (simp [*]; done), by repeat (first | exact Drawn0.refl _ | apply Drawn0.step)⟩
   ·rw [if_neg c7] at H
    have c7b0 : decide (a0 ≤ 122) = false := decide_eq_false c7
    clear c7
    obtain rfl := Option.some.inj H
    go_enter Try.func72, Try.ntmps72
    go_wp2
    go_ret
    exact ⟨by first | rfl | (simp; done) | (simp [*]; done), by repeat (first | exact Drawn0.refl _ | apply Drawn0.step)⟩
  ·rw [if_neg c6] at H
   have c6b0 : decide (97 ≤ a0) = false := decide_eq_false c6
   clear c6
   obtain rfl := Option.some.inj H
   go_enter Try.func72, Try.ntmps72
   go_wp2
   go_ret
   exact ⟨by first | rfl | (simp; done) | (simp [*]; done), by repeat (first | exact Drawn0.refl _ | apply Drawn0.step)⟩

end Go.Proofs.Ytkoogebfdinbnaa.Q

-- Printed by this session's wip/np.py over the kit's print program. Not trusted: Lean checks it.
namespace Go.Proofs.Ytkoogebfdinbnaa.Q
open Go.RowKit Go.Proofs.YtkoogebfdinbnaaW.PrintWords Go.Proofs.YtkoogebfdinbnaaW.PrintLast Go.Proofs.YtkoogebfdinbnaaW.Own Go.Proofs.YtkoogebfdinbnaaW.PrintMore
attribute [local go_sem] max2_int min2_int max_two min_two max_three min_three max_four min_four
set_option linter.unusedVariables false
set_option linter.unusedSimpArgs false

/-! ### chars_Digit: function 81 -/
def chars_Digit.f (a0 : Int) : Option (Bool) := if a0 ≥ 48 then (some (decide (a0 ≤ 57))) else (some false)
set_option maxHeartbeats 8000000 in
set_option maxRecDepth 100000 in
theorem chars_Digit.calls (a0 : Int) (r : Bool) (w : World) (hG : Glob w) (h : chars_Digit.f a0 = some r) :
 Calls Try.prog 81 #[.int .u8 a0] w fun e w' => e = .returned (.bool r) ∧ Drawn0 w w' := by
 have HG := Aside0.mk hG
 clear hG
 have H : (if a0 ≥ 48 then (some (decide (a0 ≤ 57))) else (some false)) = some r := h
 clear h
 by_cases c2 : a0 ≥ 48
 ·rw [if_pos c2] at H
  have c2b0 : decide (48 ≤ a0) = true := decide_eq_true c2
  clear c2
  obtain rfl := Option.some.inj H
  go_enter Try.func81, Try.ntmps81
  go_wp2
  go_ret
  exact ⟨by first | rfl | (simp; done) | (simp [*]; done), by repeat (first | exact Drawn0.refl _ | apply Drawn0.step)⟩
 ·rw [if_neg c2] at H
  have c2b0 : decide (48 ≤ a0) = false := decide_eq_false c2
  clear c2
  obtain rfl := Option.some.inj H
  go_enter Try.func81, Try.ntmps81
  go_wp2
  go_ret
  exact ⟨by first | rfl | (simp; done) | (simp [*]; done), by repeat (first | exact Drawn0.refl _ | apply Drawn0.step)⟩

end Go.Proofs.Ytkoogebfdinbnaa.Q

-- Printed by this session's wip/np.py over the kit's print program. Not trusted: Lean checks it.
namespace Go.Proofs.Ytkoogebfdinbnaa.Q
open Go.RowKit Go.Proofs.YtkoogebfdinbnaaW.PrintWords Go.Proofs.YtkoogebfdinbnaaW.PrintLast Go.Proofs.YtkoogebfdinbnaaW.Own Go.Proofs.YtkoogebfdinbnaaW.PrintMore
attribute [local go_sem] max2_int min2_int max_two min_two max_three min_three max_four min_four
set_option linter.unusedVariables false
set_option linter.unusedSimpArgs false

/-! ### chars_Within: function 73 -/
def chars_Within.f (a0 : Int) : Option (Bool) := (chars_first.f a0).bind fun t106 => (if t106 = true then (some true) else ((chars_Digit.f a0).bind fun t107 => (if t107 = true then (some true) else (if a0 = 45 then (some true) else (if a0 = 46 then (some true) else (some (a0 == 58)))))))
set_option maxHeartbeats 8000000 in
set_option maxRecDepth 100000 in
theorem chars_Within.calls (a0 : Int) (r : Bool) (w : World) (hG : Glob w) (h : chars_Within.f a0 = some r) :
 Calls Try.prog 73 #[.int .u8 a0] w fun e w' => e = .returned (.bool r) ∧ Drawn0 w w' := by
 have HG := Aside0.mk hG
 clear hG
 have H : ((chars_first.f a0).bind fun t106 => (if t106 = true then (some true) else ((chars_Digit.f a0).bind fun t107 => (if t107 = true then (some true) else (if a0 = 45 then (some true) else (if a0 = 46 then (some true) else (some (a0 == 58)))))))) = some r := h
 clear h
 replace H := Option.bind_eq_some_iff.mp H
 obtain ⟨t106, A20, H⟩ := H
 replace H : (if t106 = true then (some true) else ((chars_Digit.f a0).bind fun t107 => (if t107 = true then (some true) else (if a0 = 45 then (some true) else (if a0 = 46 then (some true) else (some (a0 == 58))))))) = some r := H
 have A2 := Aside0.mk A20
 clear A20
 by_cases c3 : t106 = true
 ·subst c3
  have H1 : (some true) = some r := by rw [if_pos rfl] at H; exact H
  clear H
  have H := H1
  clear H1
  obtain rfl := Option.some.inj H
  go_enter Try.func73, Try.ntmps73
  go_wp2_with (first | ((with_reducible refine gate_callee (f := 72) rfl ?_); refine goesL_ (some 4) rfl rfl Try.func72 (by kernel_rfl) rfl #[.int .u8 a0] rfl (by (try simp only [List.map_toArray, List.map_cons, List.map_nil]); first | done | rfl | (simp only [List.length_drop, List.length_take]; rfl)) ?_; (with_reducible refine (chars_first.calls a0 true _ ?side1 A2.out).mono ?_); (case side1 => exact Glob.drawn HG.out (by repeat (first | exact Drawn0.refl _ | apply Drawn0.step))); rintro e w' ⟨rfl, ⟨nd, rfl⟩⟩; refine ⟨_, rfl, ?_⟩))
  go_ret
  exact ⟨by first | rfl | (simp; done) | (simp [*]; done), by repeat (first | exact Drawn0.refl _ | apply Drawn0.step)⟩
 ·replace c3 := Bool.eq_false_iff.mpr c3
  subst c3
  have H1 : ((chars_Digit.f a0).bind fun t107 => (if t107 = true then (some true) else (if a0 = 45 then (some true) else (if a0 = 46 then (some true) else (some (a0 == 58)))))) = some r := by rw [if_neg (show ¬ (false = true) by decide)] at H; exact H
  clear H
  have H := H1
  clear H1
  replace H := Option.bind_eq_some_iff.mp H
  obtain ⟨t107, A40, H⟩ := H
  replace H : (if t107 = true then (some true) else (if a0 = 45 then (some true) else (if a0 = 46 then (some true) else (some (a0 == 58))))) = some r := H
  have A4 := Aside0.mk A40
  clear A40
  by_cases c5 : t107 = true
  ·subst c5
   have H1 : (some true) = some r := by rw [if_pos rfl] at H; exact H
   clear H
   have H := H1
   clear H1
   obtain rfl := Option.some.inj H
   go_enter Try.func73, Try.ntmps73
   go_wp2_with (first | ((with_reducible refine gate_callee (f := 72) rfl ?_); refine goesL_ (some 4) rfl rfl Try.func72 (by kernel_rfl) rfl #[.int .u8 a0] rfl (by (try simp only [List.map_toArray, List.map_cons, List.map_nil]); first | done | rfl | (simp only [List.length_drop, List.length_take]; rfl)) ?_; (with_reducible refine (chars_first.calls a0 false _ ?side1 A2.out).mono ?_); (case side1 => exact Glob.drawn HG.out (by repeat (first | exact Drawn0.refl _ | apply Drawn0.step))); rintro e w' ⟨rfl, ⟨nd, rfl⟩⟩; refine ⟨_, rfl, ?_⟩) | (go_at_call 81; (with_reducible refine (chars_Digit.calls a0 true _ ?side1 A4.out).mono ?_); (case side1 => exact Glob.drawn HG.out (by repeat (first | exact Drawn0.refl _ | apply Drawn0.step))); rintro e w' ⟨rfl, ⟨nd, rfl⟩⟩))
   go_ret
   exact ⟨by first | rfl | (simp; done) | (simp [*]; done), by repeat (first | exact Drawn0.refl _ | apply Drawn0.step)⟩
  ·replace c5 := Bool.eq_false_iff.mpr c5
   subst c5
   have H1 : (if a0 = 45 then (some true) else (if a0 = 46 then (some true) else (some (a0 == 58)))) = some r := by rw [if_neg (show ¬ (false = true) by decide)] at H; exact H
   clear H
   have H := H1
   clear H1
   by_cases c6 : a0 = 45
   ·rw [if_pos c6] at H
    have c6b0 : (a0 == 45) = true := beq_iff_eq.mpr c6
    have c6b1 : (a0 != 45) = false := bne_eq_false_iff_eq.mpr c6
    clear c6
    obtain rfl := Option.some.inj H
    go_enter Try.func73, Try.ntmps73
    go_wp2_with (first | ((with_reducible refine gate_callee (f := 72) rfl ?_); refine goesL_ (some 4) rfl rfl Try.func72 (by kernel_rfl) rfl #[.int .u8 a0] rfl (by (try simp only [List.map_toArray, List.map_cons, List.map_nil]); first | done | rfl | (simp only [List.length_drop, List.length_take]; rfl)) ?_; (with_reducible refine (chars_first.calls a0 false _ ?side1 A2.out).mono ?_); (case side1 => exact Glob.drawn HG.out (by repeat (first | exact Drawn0.refl _ | apply Drawn0.step))); rintro e w' ⟨rfl, ⟨nd, rfl⟩⟩; refine ⟨_, rfl, ?_⟩) | (go_at_call 81; (with_reducible refine (chars_Digit.calls a0 false _ ?side1 A4.out).mono ?_); (case side1 => exact Glob.drawn HG.out (by repeat (first | exact Drawn0.refl _ | apply Drawn0.step))); rintro e w' ⟨rfl, ⟨nd, rfl⟩⟩))
    go_ret
    exact ⟨by first | rfl | (simp; done) | (simp [*]; done), by repeat (first | exact Drawn0.refl _ | apply Drawn0.step)⟩
   ·rw [if_neg c6] at H
    have c6b0 : (a0 == 45) = false := beq_eq_false_iff_ne.mpr c6
    have c6b1 : (a0 != 45) = true := bne_iff_ne.mpr c6
    by_cases c7 : a0 = 46
    ·rw [if_pos c7] at H
     have c7b0 : (a0 == 46) = true := beq_iff_eq.mpr c7
     have c7b1 : (a0 != 46) = false := bne_eq_false_iff_eq.mpr c7
     clear c7
     obtain rfl := Option.some.inj H
     go_enter Try.func73, Try.ntmps73
     go_wp2_with (first | ((with_reducible refine gate_callee (f := 72) rfl ?_); refine goesL_ (some 4) rfl rfl Try.func72 (by kernel_rfl) rfl #[.int .u8 a0] rfl (by (try simp only [List.map_toArray, List.map_cons, List.map_nil]); first | done | rfl | (simp only [List.length_drop, List.length_take]; rfl)) ?_; (with_reducible refine (chars_first.calls a0 false _ ?side1 A2.out).mono ?_); (case side1 => exact Glob.drawn HG.out (by repeat (first | exact Drawn0.refl _ | apply Drawn0.step))); rintro e w' ⟨rfl, ⟨nd, rfl⟩⟩; refine ⟨_, rfl, ?_⟩) | (go_at_call 81; (with_reducible refine (chars_Digit.calls a0 false _ ?side1 A4.out).mono ?_); (case side1 => exact Glob.drawn HG.out (by repeat (first | exact Drawn0.refl _ | apply Drawn0.step))); rintro e w' ⟨rfl, ⟨nd, rfl⟩⟩))
     go_ret
     exact ⟨by first | rfl | (simp; done) | (simp [*]; done), by repeat (first | exact Drawn0.refl _ | apply Drawn0.step)⟩
    ·rw [if_neg c7] at H
     have c7b0 : (a0 == 46) = false := beq_eq_false_iff_ne.mpr c7
     have c7b1 : (a0 != 46) = true := bne_iff_ne.mpr c7
     obtain rfl := Option.some.inj H
     go_enter Try.func73, Try.ntmps73
     go_wp2_with (first | ((with_reducible refine gate_callee (f := 72) rfl ?_); refine goesL_ (some 4) rfl rfl Try.func72 (by kernel_rfl) rfl #[.int .u8 a0] rfl (by (try simp only [List.map_toArray, List.map_cons, List.map_nil]); first | done | rfl | (simp only [List.length_drop, List.length_take]; rfl)) ?_; (with_reducible refine (chars_first.calls a0 false _ ?side1 A2.out).mono ?_); (case side1 => exact Glob.drawn HG.out (by repeat (first | exact Drawn0.refl _ | apply Drawn0.step))); rintro e w' ⟨rfl, ⟨nd, rfl⟩⟩; refine ⟨_, rfl, ?_⟩) | (go_at_call 81; (with_reducible refine (chars_Digit.calls a0 false _ ?side1 A4.out).mono ?_); (case side1 => exact Glob.drawn HG.out (by repeat (first | exact Drawn0.refl _ | apply Drawn0.step))); rintro e w' ⟨rfl, ⟨nd, rfl⟩⟩))
     go_ret
     exact ⟨by first | rfl | (simp; done) | (simp [*]; done), by repeat (first | exact Drawn0.refl _ | apply Drawn0.step)⟩

end Go.Proofs.Ytkoogebfdinbnaa.Q

-- Printed by this session's wip/np.py over the kit's print program. Not trusted: Lean checks it.
namespace Go.Proofs.Ytkoogebfdinbnaa.Q
open Go.RowKit Go.Proofs.YtkoogebfdinbnaaW.PrintWords Go.Proofs.YtkoogebfdinbnaaW.PrintLast Go.Proofs.YtkoogebfdinbnaaW.Own Go.Proofs.YtkoogebfdinbnaaW.PrintMore
attribute [local go_sem] max2_int min2_int max_two min_two max_three min_three max_four min_four
set_option linter.unusedVariables false
set_option linter.unusedSimpArgs false

/-! ### chars_Head: function 64 -/
mutual
def chars_Head.j0 : Nat → ByteArray → Bool → Option (ByteArray)
 | 0, _, _ => none
 | k + 1, x0, x11 => if x11 = true then (some (⟨#[]⟩ : ByteArray)) else (chars_Head.l0 k x0 1)
def chars_Head.l0 : Nat → ByteArray → Int → Option (ByteArray)
 | 0, _, _ => none
 | k + 1, x0, x3 => if x3 < (x0.size : Int) then (if 0 ≤ x3 then ((chars_Within.f (bt x0 x3)).bind fun t109 => (if t109 = true then (chars_Head.l0 k x0 (wrap64 (x3 + 1))) else (if x3 ≤ (x0.size : Int) then (some (x0.extract 0 (x3 : Int).toNat)) else (none)))) else (none)) else (if 0 ≤ x3 then (if x3 ≤ (x0.size : Int) then (some (x0.extract 0 (x3 : Int).toNat)) else (none)) else (none))
end
def chars_Head.f (k : Nat) (a0 : ByteArray) : Option (ByteArray) := if a0.toList = ([] : List UInt8) then (chars_Head.j0 k a0 true) else (if 0 < (a0.size : Int) then ((chars_first.f (bt a0 0)).bind fun t108 => (chars_Head.j0 k a0 (!t108))) else (none))
theorem chars_Head.mono_l : ∀ k, (∀ y0 y1, LeO (chars_Head.j0 k y0 y1) (chars_Head.j0 (k + 1) y0 y1)) ∧ (∀ y0 y1, LeO (chars_Head.l0 k y0 y1) (chars_Head.l0 (k + 1) y0 y1))
 | 0 => ⟨fun _ _ r h => by simp [chars_Head.j0] at h, fun _ _ r h => by simp [chars_Head.l0] at h⟩
 | k + 1 => by
  obtain ⟨ih0, ih1⟩ := chars_Head.mono_l k
  refine ⟨?_, ?_⟩
  ·intro y0 y1
   unfold chars_Head.j0
   repeat' first
   | (with_reducible exact ih0 _ _)
   | (with_reducible exact ih1 _ _)
   | (with_reducible exact LeO.refl _)
   | (with_reducible exact LeO.none _)
   | (with_reducible refine LeO.ite ?_ ?_)
   | (with_reducible refine LeO.bind ?_ (fun _ => ?_))
   | exact ih0 _ _
   | exact ih1 _ _
   | exact LeO.none _
   | refine LeO.ite ?_ ?_
   | refine LeO.bind ?_ (fun _ => ?_)
  ·intro y0 y1
   unfold chars_Head.l0
   repeat' first
   | (with_reducible exact ih0 _ _)
   | (with_reducible exact ih1 _ _)
   | (with_reducible exact LeO.refl _)
   | (with_reducible exact LeO.none _)
   | (with_reducible refine LeO.ite ?_ ?_)
   | (with_reducible refine LeO.bind ?_ (fun _ => ?_))
   | exact ih0 _ _
   | exact ih1 _ _
   | exact LeO.none _
   | refine LeO.ite ?_ ?_
   | refine LeO.bind ?_ (fun _ => ?_)
theorem chars_Head.mono : ∀ a0 k, LeO (chars_Head.f k a0) (chars_Head.f (k + 1) a0) := by
 intro a0 k
 obtain ⟨ih0, ih1⟩ := chars_Head.mono_l k
 unfold chars_Head.f
 repeat' first
  | (with_reducible exact ih0 _ _)
  | (with_reducible exact ih1 _ _)
  | (with_reducible exact LeO.refl _)
  | (with_reducible exact LeO.none _)
  | (with_reducible refine LeO.ite ?_ ?_)
  | (with_reducible refine LeO.bind ?_ (fun _ => ?_))
  | exact ih0 _ _
  | exact ih1 _ _
  | exact LeO.none _
  | refine LeO.ite ?_ ?_
  | refine LeO.bind ?_ (fun _ => ?_)
set_option maxHeartbeats 8000000 in
set_option maxRecDepth 100000 in
theorem chars_Head.calls (k : Nat) (a0 : ByteArray) (r : ByteArray) (w : World) (hG : Glob w) (h : chars_Head.f k a0 = some r) :
 Calls Try.prog 64 #[.string a0] w fun e w' => e = .returned (.string r) ∧ Drawn0 w w' := by
 have HG := Aside0.mk hG
 clear hG
 have H : (if a0.toList = ([] : List UInt8) then (chars_Head.j0 k a0 true) else (if 0 < (a0.size : Int) then ((chars_first.f (bt a0 0)).bind fun t108 => (chars_Head.j0 k a0 (!t108))) else (none))) = some r := h
 clear h
 have HS2 := Aside0.mk H
 clear H
 go_enter Try.func64, Try.ntmps64
 go_wp2
 refine wp_scope_loop 0 (by rfl) ?_
 have H := HS2.out
 clear HS2
 have HC3 := Aside0.mk H
 clear H
 go_upto_region 1 with (fail)
 go_cut [11] (fun v11 wc => ∃ (kq : Nat) (x11_2 : Bool), v11 = .bool x11_2 ∧ Aside0 (chars_Head.j0 kq a0 x11_2 = some r) ∧ Aside0 (kq ≤ k) ∧ Drawn0 w wc)
 case first =>
  have H := HC3.out
  clear HC3
  by_cases c4 : a0.toList = ([] : List UInt8)
  ·rw [if_pos c4] at H
   have c4b0 : (a0.toList == ([] : List UInt8)) = true := beq_iff_eq.mpr c4
   have c4b1 : (a0.toList != ([] : List UInt8)) = false := bne_eq_false_iff_eq.mpr c4
   (try (have c4b2 : a0.toList.isEmpty = true := by simpa using c4))
   clear c4
   (first | rw [c4b0] | rw [c4b2] | (simp only [i64_w, i32_w]; rw [c4b0]) | skip)
   have H' := Aside0.mk H
   clear H
   go_wp2
   go_meet
   case rel => exact ⟨_, (true), (by first | rfl | (simp; done) | (simp [*]; done) | (simp; exact isEmpty_bne _)), H', ⟨by first | omega | exact Nat.le_refl _⟩, by repeat (first | exact Drawn0.refl _ | apply Drawn0.step)⟩
  ·rw [if_neg c4] at H
   have c4b0 : (a0.toList == ([] : List UInt8)) = false := beq_eq_false_iff_ne.mpr c4
   have c4b1 : (a0.toList != ([] : List UInt8)) = true := bne_iff_ne.mpr c4
   (try (have c4b2 : a0.toList.isEmpty = false := by simpa using c4))
   (first | rw [c4b0] | rw [c4b2] | (simp only [i64_w, i32_w]; rw [c4b0]) | skip)
   by_cases c5 : 0 < (a0.size : Int)
   ·rw [if_pos c5] at H
    have c5b0 : decide (0 < (a0.size : Int)) = true := decide_eq_true c5
    have c5b1 : decide (0 < a0.size) = true := decide_eq_true (by omega)
    clear c5
    replace H := Option.bind_eq_some_iff.mp H
    obtain ⟨t108, A70, H⟩ := H
    replace H : (chars_Head.j0 k a0 (!t108)) = some r := H
    have A7 := Aside0.mk A70
    clear A70
    have H' := Aside0.mk H
    clear H
    have p6 : 0 ≤ (0 : Int) := (by omega)
    have q6 : 0 < a0.size := (by have : (0 : Int) < (a0.size : Int) := of_decide_eq_true (by first | (with_reducible assumption) | assumption); omega)
    have hx6 : ∀ h : 0 < a0.size, ((a0[0]'h).toNat : Int) = bt a0 0 := bt_at a0 0
    clear p6
    have qi6 : (0 < (a0.size : Int)) = True := eq_true (of_decide_eq_true (by first | (with_reducible assumption) | assumption))
    replace q6 := eq_true q6
    go_wp2_with (first | (go_at_call 72; (with_reducible refine (chars_first.calls (bt a0 0) t108 _ ?side1 A7.out).mono ?_); (case side1 => exact Glob.drawn HG.out (by repeat (first | exact Drawn0.refl _ | apply Drawn0.step))); rintro e w' ⟨rfl, ⟨nd, rfl⟩⟩))
    go_meet
    case rel => exact ⟨_, (!t108), (by first | rfl | (simp; done) | (simp [*]; done) | (simp; exact isEmpty_bne _)), H', ⟨by first | omega | exact Nat.le_refl _⟩, by repeat (first | exact Drawn0.refl _ | apply Drawn0.step)⟩
   ·rw [if_neg c5] at H
    exact absurd H (by simp)
 case rest =>
  clear HC3
  try clear p2
  try clear c4
  try clear c4b0
  try clear c4b1
  try clear c4b2
  try clear c5
  try clear c5b0
  try clear c5b1
  try clear c6
  try clear p6
  try clear q6
  try clear hx6
  try clear qi6
  try clear p6
  try clear q6
  obtain ⟨kq, x11_2, rfl, HA, HJ2, ⟨mc2, rfl⟩⟩ := hcut
  cases kq with
  | zero => exact absurd HA.out (by simp [chars_Head.j0])
  | succ kj2 =>
   have H := HA.out
   clear HA
   simp only [chars_Head.j0] at H
   (try simp only [toList_lit] at H)
   by_cases c8 : x11_2 = true
   ·subst c8
    have H1 : (some (⟨#[]⟩ : ByteArray)) = some r := by rw [if_pos rfl] at H; exact H
    clear H
    have H := H1
    clear H1
    obtain rfl := Option.some.inj H
    go_wp2
    (try simp only [Exit.inBlock, Exit.then, jump_ret])
    go_ret
    exact ⟨by first | rfl | (simp; done) | (simp [*]; done), by repeat (first | exact Drawn0.refl _ | apply Drawn0.step)⟩
   ·replace c8 := Bool.eq_false_iff.mpr c8
    subst c8
    have H1 : (chars_Head.l0 kj2 a0 1) = some r := by rw [if_neg (show ¬ (false = true) by decide)] at H; exact H
    clear H
    have H := H1
    clear H1
    have H' := Aside0.mk H
    clear H
    go_wp2
    refine wp_label ?_
    rename_i hlb
    refine hlb _ _ ?_
    refine wp_at_label ?_
    refine LoopAt.intro (fun aB_ kq_ a1 w1 => ∃ (u2 u3 u12 u13 u14 u15 u16 u17 u18 u19 u20 u21 u22 u23 u24 u25 u26 : Value), (fun kq v3 w' => ∃ (x3_2 : Int), v3 = .int .i64 x3_2 ∧ Aside0 (chars_Head.l0 kq a0 x3_2 = some r) ∧ Aside0 (kq ≤ kj2) ∧ Drawn0 w w') kq_ u3 w1 ∧ a1 = (((((((((((((((((aB_.put (some 2) u2).put (some 3) u3).put (some 12) u12).put (some 13) u13).put (some 14) u14).put (some 15) u15).put (some 16) u16).put (some 17) u17).put (some 18) u18).put (some 19) u19).put (some 20) u20).put (some 21) u21).put (some 22) u22).put (some 23) u23).put (some 24) u24).put (some 25) u25).put (some 26) u26)) kj2 ?_ ?_
    ·(repeat apply Exists.intro)
     (try simp only [Act.put, List.setIfInBounds_toArray, List.set_cons_zero, List.set_cons_succ])
     refine ⟨?_, rfl⟩
     exact ⟨(1), (by first | rfl | (simp; done) | (simp [*]; done) | (simp; exact isEmpty_bne _)), H', ⟨Nat.le_refl _⟩, by repeat (first | exact Drawn0.refl _ | apply Drawn0.step)⟩
    ·intro gk a1 wr hinv
     obtain ⟨u2, u3, u12, u13, u14, u15, u16, u17, u18, u19, u20, u21, u22, u23, u24, u25, u26, hrel, ha⟩ := hinv
     subst ha
     (try simp only [Act.put, List.setIfInBounds_toArray, List.set_cons_zero, List.set_cons_succ])
     intro Js0 Ks0 hJs0 hKs0
     clear H'
     try clear c2
     try clear p2
     try clear c4
     try clear c4b0
     try clear c4b1
     try clear c4b2
     try clear c5
     try clear c5b0
     try clear c5b1
     try clear c6
     try clear p6
     try clear q6
     try clear hx6
     try clear qi6
     try clear c8
     try clear p2
     try clear p6
     try clear q6
     obtain ⟨x3_2, rfl, HA, HK2, ⟨m2, rfl⟩⟩ := hrel
     cases gk with
     | zero => exact absurd HA.out (by simp [chars_Head.l0])
     | succ k2 =>
      have H := HA.out
      clear HA
      simp only [chars_Head.l0] at H
      by_cases c9 : x3_2 < (a0.size : Int)
      ·rw [if_pos c9] at H
       have c9b0 : decide (x3_2 < (a0.size : Int)) = true := decide_eq_true c9
       clear c9
       by_cases c10 : 0 ≤ x3_2
       ·rw [if_pos c10] at H
        have c10b0 : decide (0 ≤ x3_2) = true := decide_eq_true c10
        clear c10
        replace H := Option.bind_eq_some_iff.mp H
        obtain ⟨t109, A120, H⟩ := H
        replace H : (if t109 = true then (chars_Head.l0 k2 a0 (wrap64 (x3_2 + 1))) else (if x3_2 ≤ (a0.size : Int) then (some (a0.extract 0 (x3_2 : Int).toNat)) else (none))) = some r := H
        have A12 := Aside0.mk A120
        clear A120
        by_cases c13 : t109 = true
        ·subst c13
         have H1 : (chars_Head.l0 k2 a0 (wrap64 (x3_2 + 1))) = some r := by rw [if_pos rfl] at H; exact H
         clear H
         have H := H1
         clear H1
         have H' := Aside0.mk H
         clear H
         have p11 : 0 ≤ (x3_2 : Int) := of_decide_eq_true (by first | (with_reducible assumption) | assumption)
         have q11 : x3_2 < (a0.size : Int) := of_decide_eq_true (by first | (with_reducible assumption) | assumption)
         have hx11 := bt_at a0 x3_2
         replace p11 := eq_true p11
         replace q11 := eq_true q11
         go_wp2_with (first | (go_at_call 73; (with_reducible refine (chars_Within.calls (bt a0 x3_2) true _ ?side1 A12.out).mono ?_); (case side1 => exact Glob.drawn HG.out (by repeat (first | exact Drawn0.refl _ | apply Drawn0.step))); rintro e w' ⟨rfl, ⟨nd, rfl⟩⟩))
         refine wp_goto (And.intro rfl ?_)
         refine hKs0 _ _ ?_
         go_roundg k2
         case measure => have := HJ2.out; have := HK2.out; omega
         case rel => exact ⟨(wrap64 (x3_2 + 1)), (by first | rfl | (simp; done) | (simp [*]; done) | (simp; exact isEmpty_bne _)), H', ⟨by have := HJ2.out; have := HK2.out; omega⟩, by repeat (first | exact Drawn0.refl _ | apply Drawn0.step)⟩
        ·replace c13 := Bool.eq_false_iff.mpr c13
         subst c13
         have H1 : (if x3_2 ≤ (a0.size : Int) then (some (a0.extract 0 (x3_2 : Int).toNat)) else (none)) = some r := by rw [if_neg (show ¬ (false = true) by decide)] at H; exact H
         clear H
         have H := H1
         clear H1
         have c14b0 := eq_true (of_decide_eq_true (by first | (with_reducible assumption) | assumption) : 0 ≤ x3_2)
         by_cases c15 : x3_2 ≤ (a0.size : Int)
         ·rw [if_pos c15] at H
          have c15b0 := eq_true c15
          have c15b1 : decide (x3_2 ≤ (a0.size : Int)) = true := decide_eq_true c15
          clear c15
          obtain rfl := Option.some.inj H
          have p11 : 0 ≤ (x3_2 : Int) := of_decide_eq_true (by first | (with_reducible assumption) | assumption)
          have q11 : x3_2 < (a0.size : Int) := of_decide_eq_true (by first | (with_reducible assumption) | assumption)
          have hx11 := bt_at a0 x3_2
          replace p11 := eq_true p11
          replace q11 := eq_true q11
          go_wp2_with (first | (go_at_call 73; (with_reducible refine (chars_Within.calls (bt a0 x3_2) false _ ?side1 A12.out).mono ?_); (case side1 => exact Glob.drawn HG.out (by repeat (first | exact Drawn0.refl _ | apply Drawn0.step))); rintro e w' ⟨rfl, ⟨nd, rfl⟩⟩))
          (try simp only [Exit.inBlock, Exit.then, jump_ret])
          go_ret
          exact ⟨by first | rfl | (simp; done) | (simp [*]; done), by repeat (first | exact Drawn0.refl _ | apply Drawn0.step)⟩
         ·rw [if_neg c15] at H
          exact absurd H (by simp)
       ·rw [if_neg c10] at H
        exact absurd H (by simp)
      ·rw [if_neg c9] at H
       have c9b0 : decide (x3_2 < (a0.size : Int)) = false := decide_eq_false c9
       clear c9
       by_cases c16 : 0 ≤ x3_2
       ·rw [if_pos c16] at H
        have c16b0 := eq_true c16
        have c16b1 : decide (0 ≤ x3_2) = true := decide_eq_true c16
        clear c16
        by_cases c17 : x3_2 ≤ (a0.size : Int)
        ·rw [if_pos c17] at H
         have c17b0 := eq_true c17
         have c17b1 : decide (x3_2 ≤ (a0.size : Int)) = true := decide_eq_true c17
         clear c17
         obtain rfl := Option.some.inj H
         go_wp2
         (try simp only [Exit.inBlock, Exit.then, jump_ret])
         go_ret
         exact ⟨by first | rfl | (simp; done) | (simp [*]; done), by repeat (first | exact Drawn0.refl _ | apply Drawn0.step)⟩
        ·rw [if_neg c17] at H
         exact absurd H (by simp)
       ·rw [if_neg c16] at H
        exact absurd H (by simp)

end Go.Proofs.Ytkoogebfdinbnaa.Q

-- Printed by this session's wip/np.py over the kit's print program. Not trusted: Lean checks it.
namespace Go.Proofs.Ytkoogebfdinbnaa.Q
open Go.RowKit Go.Proofs.YtkoogebfdinbnaaW.PrintWords Go.Proofs.YtkoogebfdinbnaaW.PrintLast Go.Proofs.YtkoogebfdinbnaaW.Own Go.Proofs.YtkoogebfdinbnaaW.PrintMore
attribute [local go_sem] max2_int min2_int max_two min_two max_three min_three max_four min_four
set_option linter.unusedVariables false
set_option linter.unusedSimpArgs false

/-! ### token_walk_name: function 53 -/
theorem first_f (c : UInt8) : chars_first.f (c.toNat : Int) = some (Tk.letter c) := Tk.bytes_all (by kernel_rfl) c
theorem within_f (c : UInt8) : chars_Within.f (c.toNat : Int) = some (Tk.within c) := Tk.bytes_all (by kernel_rfl) c
theorem bs_take (l : List UInt8) (i : Nat) : (Tk.bs l).extract 0 i = Tk.bs (l.take i) := by
 have : ((Tk.bs l).extract 0 i).data.toList = (Tk.bs (l.take i)).data.toList := by
  rw [Lib.extract_data]
  show (l.drop 0).take (i - 0) = l.take i
  rw [List.drop_zero, Nat.sub_zero]
 cases h1 : (Tk.bs l).extract 0 i with
 | mk d => rw [h1] at this; cases d; simp at this; subst this; rfl
theorem bs_toList (l : List UInt8) : (Tk.bs l).toList = l := Lib.toList_data _
theorem head_loop (c : UInt8) (r : List UInt8) (hl : r.length ≤ 1000000) : ∀ (d i : Nat), i + d = (r.takeWhile Tk.within).length → chars_Head.l0 (d + 1) (Tk.bs (c :: r)) ((i + 1 : Nat) : Int) = some (Tk.bs (c :: r.takeWhile Tk.within)) := by
 have hsz := bs_size (c :: r)
 rw [List.length_cons] at hsz
 have hle := tw_le (p := Tk.within) r
 have hfin : ∀ i, i = (r.takeWhile Tk.within).length → (Tk.bs (c :: r)).extract 0 (((i + 1 : Nat) : Int)).toNat = Tk.bs (c :: r.takeWhile Tk.within) := by
  intro i hi
  rw [Int.toNat_natCast, bs_take, hi, List.take_succ_cons]
  congr 2
  conv => lhs; arg 2; rw [← List.takeWhile_append_dropWhile (p := Tk.within) (l := r)]
  exact List.take_left
 intro d
 induction d with
 | zero =>
  intro i hi
  rw [Nat.add_zero] at hi
  rw [chars_Head.l0]
  by_cases hlt : i < r.length
  ·rw [if_pos (by omega), if_pos (by omega), bs_bt _ (i + 1) (by rw [List.length_cons]; omega), within_f]
   have hend := tw_end (p := Tk.within) (l := r) (by omega)
   have hq : Tk.within ((c :: r)[i + 1]'(by rw [List.length_cons]; omega)) = false := by
    rw [List.getElem_cons_succ]
    subst hi
    exact hend
   rw [hq, Option.bind_some, if_neg (by decide), if_pos (by omega), hfin i hi]
  ·rw [if_neg (by omega), if_pos (by omega), if_pos (by omega), hfin i hi]
 | succ d ih =>
  intro i hi
  obtain ⟨hil, hw⟩ := tw_at (p := Tk.within) (l := r) (i := i) (by omega)
  rw [chars_Head.l0, if_pos (by omega), if_pos (by omega), bs_bt _ (i + 1) (by rw [List.length_cons]; omega), within_f]
  rw [show Tk.within ((c :: r)[i + 1]'(by rw [List.length_cons]; omega)) = true from by rw [List.getElem_cons_succ]; exact hw]
  rw [Option.bind_some, if_pos (show true = true from rfl)]
  have := ih (i + 1) (by omega)
  rw [show wrap64 (((i + 1 : Nat) : Int) + 1) = ((i + 1 + 1 : Nat) : Int) from by unfold wrap64; omega]
  exact this
theorem head_told (l : List UInt8) (hl : l.length ≤ 1000000) : ∃ k, chars_Head.f k (Tk.bs l) = some (Tk.bs (Tk.head l)) := by
 cases l with
 | nil => exact ⟨1, by kernel_rfl⟩
 | cons c r =>
  refine ⟨(r.takeWhile Tk.within).length + 2, ?_⟩
  rw [List.length_cons] at hl
  unfold chars_Head.f Tk.head
  rw [bs_toList, if_neg (by simp), bs_size, if_pos (by rw [List.length_cons]; omega)]
  rw [show (0 : Int) = ((0 : Nat) : Int) from rfl, bs_bt _ 0 (by simp), first_f]
  rw [Option.bind_some]
  show chars_Head.j0 _ _ (!Tk.letter c) = _
  rw [chars_Head.j0]
  by_cases hc : Tk.letter c = true
  ·rw [hc, if_neg (by decide)]
   show _ = some (Tk.bs (if Tk.letter c = true then _ else []))
   rw [if_pos hc]
   exact head_loop c r (by omega) (r.takeWhile Tk.within).length 0 (by omega)
  ·rw [Bool.eq_false_iff.2 hc, if_pos (by decide)]
   show _ = some (Tk.bs (if Tk.letter c = true then _ else []))
   rw [if_neg hc]; rfl
theorem head_pre (l : List UInt8) : Tk.head l = l.take (Tk.head l).length := by
 cases l with
 | nil => rfl
 | cons c r =>
  show (if Tk.letter c = true then c :: r.takeWhile Tk.within else []) = (c :: r).take (if Tk.letter c = true then c :: r.takeWhile Tk.within else []).length
  by_cases hc : Tk.letter c = true
  ·rw [if_pos hc, List.length_cons, List.take_succ_cons]
   congr 1
   conv => rhs; arg 2; rw [← List.takeWhile_append_dropWhile (p := Tk.within) (l := r)]
   exact List.take_left.symm
  ·rw [if_neg hc]; rfl
theorem head_le (l : List UInt8) : (Tk.head l).length ≤ l.length := by
 conv => lhs; rw [head_pre l]
 rw [List.length_take]; omega
set_option maxHeartbeats 4000000 in
set_option maxRecDepth 100000 in
theorem token_walk_name.callsK (B g : Nat) {ok : Nat → Prop} (l : List UInt8) (L : List S40) (w : World) (h : WalkAt w B g ok (Tk.bs l) L) (hG : Glob w) (hl : l.length ≤ 1000000) :
 Calls Try.prog 53 #[.pointer (some ⟨g, 0, none⟩)] w fun e w' => e = .returned (.string (Tk.bs (Tk.head l))) ∧ WalkAt w' B g ok (Tk.bs (l.drop (Tk.head l).length)) L ∧ Below B w w' ∧ KeepBut w w' g none := by
 obtain ⟨k, hk⟩ := head_told l hl
 have hle := head_le l
 have hB := h.ge
 have hsz := bs_size l
 have hsn := bs_size (Tk.head l)
 have hdr := bs_drop l (Tk.head l).length
 obtain ⟨s, hs⟩ : ∃ s, s = Tk.bs l := ⟨_, rfl⟩
 obtain ⟨nm, hnm⟩ : ∃ nm, nm = Tk.bs (Tk.head l) := ⟨_, rfl⟩
 rw [← hs] at hsz hdr h hk
 rw [← hnm] at hsn hk
 have c0 := h.cell0
 have f0 := h.frozen 0
 have HK := Aside0.mk hk
 have HS := Lib.hid hs
 have HNM := Lib.hid hnm
 have HDR := Lib.hid hdr
 have hle2 : (nm.size : Int) ≤ (s.size : Int) := by omega
 have p3 := eq_true hle2
 have p3' : decide ((nm.size : Int) ≤ (s.size : Int)) = true := decide_eq_true hle2
 have p4 : (nm.size ≤ s.size) = True := eq_true (by omega)
 have HSN := Lib.hid hsn
 have H := Aside0.mk h
 have HG := Aside0.mk hG
 clear hs hnm hdr hk hsz hsn h hle hG hle2
 go_enter Try.func53, Try.ntmps53
 go_wp2_with (first | (go_at_call 64; (with_reducible refine (chars_Head.calls k s nm _ HG.out HK.out).mono ?_); rintro e w1 ⟨rfl, ⟨nd, rfl⟩⟩))
 go_ret
 refine ⟨by rw [HNM.out]; rfl, ?_, ?_⟩
 ·have := (H.out.below (pw_below_drewN (Below.refl _ _) nd)).left (s.extract nm.size s.size)
  rw [← HDR.out, ← HSN.out]
  exact this
 ·exact ⟨(pw_below_drewN (Below.refl _ _) nd).setCell (p := ⟨g, 0, none⟩) hB _, (keep_drewN (KeepBut.refl _ _ _) nd).set_ 0 _⟩

theorem token_walk_name.calls (B g : Nat) {ok : Nat → Prop} (l : List UInt8) (L : List S40) (w : World) (h : WalkAt w B g ok (Tk.bs l) L) (hG : Glob w) (hl : l.length ≤ 1000000) :
 Calls Try.prog 53 #[.pointer (some ⟨g, 0, none⟩)] w fun e w' => e = .returned (.string (Tk.bs (Tk.head l))) ∧ WalkAt w' B g ok (Tk.bs (l.drop (Tk.head l).length)) L ∧ Below B w w' := (token_walk_name.callsK B g l L w h hG hl).mono fun e w' h => ⟨h.1, h.2.1, h.2.2.1⟩


end Go.Proofs.Ytkoogebfdinbnaa.Q

-- Printed by this session's wip/np.py over the kit's print program. Not trusted: Lean checks it.
namespace Go.Proofs.Ytkoogebfdinbnaa.Q
open Go.RowKit Go.Proofs.YtkoogebfdinbnaaW.PrintWords Go.Proofs.YtkoogebfdinbnaaW.PrintLast Go.Proofs.YtkoogebfdinbnaaW.Own Go.Proofs.YtkoogebfdinbnaaW.PrintMore
attribute [local go_sem] max2_int min2_int max_two min_two max_three min_three max_four min_four
set_option linter.unusedVariables false
set_option linter.unusedSimpArgs false

/-! ### token_digit: function 82 -/
mutual
def token_digit.j0 : Nat → Int → Int → Int → Bool → Option (Int)
 | 0, _, _, _, _ => none
 | k + 1, x0, x1, x5, x12 => if x12 = true then (if (((x0 - 97) % 256) + 10) ≥ x1 then (some (-1)) else (some (((x0 - 97) % 256) + 10))) else (if x0 ≥ 65 then (token_digit.j1 k x0 x1 x5 (decide (x0 ≤ 70))) else (token_digit.j1 k x0 x1 x5 false))
def token_digit.j1 : Nat → Int → Int → Int → Bool → Option (Int)
 | 0, _, _, _, _ => none
 | k + 1, x0, x1, x5, x23 => if x23 = true then (if (((x0 - 65) % 256) + 10) ≥ x1 then (some (-1)) else (some (((x0 - 65) % 256) + 10))) else (if x5 ≥ x1 then (some (-1)) else (some x5))
end
def token_digit.f (k : Nat) (a0 : Int) (a1 : Int) : Option (Int) := (chars_Digit.f a0).bind fun t111 => (if t111 = true then (if ((a0 - 48) % 256) ≥ a1 then (some (-1)) else (some ((a0 - 48) % 256))) else (if a0 ≥ 97 then (token_digit.j0 k a0 a1 (-1) (decide (a0 ≤ 102))) else (token_digit.j0 k a0 a1 (-1) false)))
theorem token_digit.mono_l : ∀ k, (∀ y0 y1 y2 y3, LeO (token_digit.j0 k y0 y1 y2 y3) (token_digit.j0 (k + 1) y0 y1 y2 y3)) ∧ (∀ y0 y1 y2 y3, LeO (token_digit.j1 k y0 y1 y2 y3) (token_digit.j1 (k + 1) y0 y1 y2 y3))
 | 0 => ⟨fun _ _ _ _ r h => by simp [token_digit.j0] at h, fun _ _ _ _ r h => by simp [token_digit.j1] at h⟩
 | k + 1 => by
  obtain ⟨ih0, ih1⟩ := token_digit.mono_l k
  refine ⟨?_, ?_⟩
  ·intro y0 y1 y2 y3
   unfold token_digit.j0
   repeat' first
   | (with_reducible exact ih0 _ _ _ _)
   | (with_reducible exact ih1 _ _ _ _)
   | (with_reducible exact LeO.refl _)
   | (with_reducible exact LeO.none _)
   | (with_reducible refine LeO.ite ?_ ?_)
   | (with_reducible refine LeO.bind ?_ (fun _ => ?_))
   | exact ih0 _ _ _ _
   | exact ih1 _ _ _ _
   | exact LeO.none _
   | refine LeO.ite ?_ ?_
   | refine LeO.bind ?_ (fun _ => ?_)
  ·intro y0 y1 y2 y3
   unfold token_digit.j1
   repeat' first
   | (with_reducible exact ih0 _ _ _ _)
   | (with_reducible exact ih1 _ _ _ _)
   | (with_reducible exact LeO.refl _)
   | (with_reducible exact LeO.none _)
   | (with_reducible refine LeO.ite ?_ ?_)
   | (with_reducible refine LeO.bind ?_ (fun _ => ?_))
   | exact ih0 _ _ _ _
   | exact ih1 _ _ _ _
   | exact LeO.none _
   | refine LeO.ite ?_ ?_
   | refine LeO.bind ?_ (fun _ => ?_)
theorem token_digit.mono : ∀ a0 a1 k, LeO (token_digit.f k a0 a1) (token_digit.f (k + 1) a0 a1) := by
 intro a0 a1 k
 obtain ⟨ih0, ih1⟩ := token_digit.mono_l k
 unfold token_digit.f
 repeat' first
  | (with_reducible exact ih0 _ _ _ _)
  | (with_reducible exact ih1 _ _ _ _)
  | (with_reducible exact LeO.refl _)
  | (with_reducible exact LeO.none _)
  | (with_reducible refine LeO.ite ?_ ?_)
  | (with_reducible refine LeO.bind ?_ (fun _ => ?_))
  | exact ih0 _ _ _ _
  | exact ih1 _ _ _ _
  | exact LeO.none _
  | refine LeO.ite ?_ ?_
  | refine LeO.bind ?_ (fun _ => ?_)
set_option maxHeartbeats 8000000 in
set_option maxRecDepth 100000 in
theorem token_digit.calls (k : Nat) (a0 : Int) (a1 : Int) (r : Int) (w : World) (hG : Glob w) (h : token_digit.f k a0 a1 = some r) :
 Calls Try.prog 82 #[.int .u8 a0, .int .i64 a1] w fun e w' => e = .returned (.int .i64 r) ∧ Drawn0 w w' := by
 have HG := Aside0.mk hG
 clear hG
 have H : ((chars_Digit.f a0).bind fun t111 => (if t111 = true then (if ((a0 - 48) % 256) ≥ a1 then (some (-1)) else (some ((a0 - 48) % 256))) else (if a0 ≥ 97 then (token_digit.j0 k a0 a1 (-1) (decide (a0 ≤ 102))) else (token_digit.j0 k a0 a1 (-1) false)))) = some r := h
 clear h
 replace H := Option.bind_eq_some_iff.mp H
 obtain ⟨t111, A30, H⟩ := H
 replace H : (if t111 = true then (if ((a0 - 48) % 256) ≥ a1 then (some (-1)) else (some ((a0 - 48) % 256))) else (if a0 ≥ 97 then (token_digit.j0 k a0 a1 (-1) (decide (a0 ≤ 102))) else (token_digit.j0 k a0 a1 (-1) false))) = some r := H
 have A3 := Aside0.mk A30
 clear A30
 by_cases c4 : t111 = true
 ·subst c4
  have H1 : (if ((a0 - 48) % 256) ≥ a1 then (some (-1)) else (some ((a0 - 48) % 256))) = some r := by rw [if_pos rfl] at H; exact H
  clear H
  have H := H1
  clear H1
  by_cases c5 : ((a0 - 48) % 256) ≥ a1
  ·rw [if_pos c5] at H
   have c5b0 : decide (a1 ≤ ((a0 - 48) % 256)) = true := decide_eq_true c5
   clear c5
   obtain rfl := Option.some.inj H
   go_enter Try.func82, Try.ntmps82
   go_wp2_with (first | ((with_reducible refine gate_callee (f := 81) rfl ?_); refine goesL_ (some 8) rfl rfl Try.func81 (by kernel_rfl) rfl #[.int .u8 a0] rfl (by (try simp only [List.map_toArray, List.map_cons, List.map_nil]); first | done | rfl | (simp only [List.length_drop, List.length_take]; rfl)) ?_; (with_reducible refine (chars_Digit.calls a0 true _ ?side1 A3.out).mono ?_); (case side1 => exact Glob.drawn HG.out (by repeat (first | exact Drawn0.refl _ | apply Drawn0.step))); rintro e w' ⟨rfl, ⟨nd, rfl⟩⟩; refine ⟨_, rfl, ?_⟩))
   go_ret
   exact ⟨by first | rfl | (simp; done) | (simp [*]; done), by repeat (first | exact Drawn0.refl _ | apply Drawn0.step)⟩
  ·rw [if_neg c5] at H
   have c5b0 : decide (a1 ≤ ((a0 - 48) % 256)) = false := decide_eq_false c5
   clear c5
   obtain rfl := Option.some.inj H
   go_enter Try.func82, Try.ntmps82
   go_wp2_with (first | ((with_reducible refine gate_callee (f := 81) rfl ?_); refine goesL_ (some 8) rfl rfl Try.func81 (by kernel_rfl) rfl #[.int .u8 a0] rfl (by (try simp only [List.map_toArray, List.map_cons, List.map_nil]); first | done | rfl | (simp only [List.length_drop, List.length_take]; rfl)) ?_; (with_reducible refine (chars_Digit.calls a0 true _ ?side1 A3.out).mono ?_); (case side1 => exact Glob.drawn HG.out (by repeat (first | exact Drawn0.refl _ | apply Drawn0.step))); rintro e w' ⟨rfl, ⟨nd, rfl⟩⟩; refine ⟨_, rfl, ?_⟩))
   go_ret
   exact ⟨by first | rfl | (simp; done) | (simp [*]; done), by repeat (first | exact Drawn0.refl _ | apply Drawn0.step)⟩
 ·replace c4 := Bool.eq_false_iff.mpr c4
  subst c4
  have H1 : (if a0 ≥ 97 then (token_digit.j0 k a0 a1 (-1) (decide (a0 ≤ 102))) else (token_digit.j0 k a0 a1 (-1) false)) = some r := by rw [if_neg (show ¬ (false = true) by decide)] at H; exact H
  clear H
  have H := H1
  clear H1
  have HC6 := Aside0.mk H
  clear H
  go_enter Try.func82, Try.ntmps82
  go_upto_region 4 with (first | ((with_reducible refine gate_callee (f := 81) rfl ?_); refine goesL_ (some 8) rfl rfl Try.func81 (by kernel_rfl) rfl #[.int .u8 a0] rfl (by (try simp only [List.map_toArray, List.map_cons, List.map_nil]); first | done | rfl | (simp only [List.length_drop, List.length_take]; rfl)) ?_; (with_reducible refine (chars_Digit.calls a0 false _ ?side1 A3.out).mono ?_); (case side1 => exact Glob.drawn HG.out (by repeat (first | exact Drawn0.refl _ | apply Drawn0.step))); rintro e w' ⟨rfl, ⟨nd, rfl⟩⟩; refine ⟨_, rfl, ?_⟩))
  (try simp only [Act.put, List.setIfInBounds_toArray, List.set_cons_zero, List.set_cons_succ])
  go_cut [12] (fun v12 wc => ∃ (kq : Nat) (x12_5 : Bool), v12 = .bool x12_5 ∧ Aside0 (token_digit.j0 kq a0 a1 (-1) x12_5 = some r) ∧ Aside0 (kq ≤ k) ∧ Drawn0 w wc)
  case first =>
   have H := HC6.out
   clear HC6
   by_cases c7 : a0 ≥ 97
   ·rw [if_pos c7] at H
    have c7b0 : decide (97 ≤ a0) = true := decide_eq_true c7
    clear c7
    (first | rw [c7b0] | (simp only [i64_w, i32_w]; rw [c7b0]) | skip)
    have H' := Aside0.mk H
    clear H
    go_wp2
    go_meet
    case rel => exact ⟨_, (decide (a0 ≤ 102)), (by first | rfl | (simp; done) | (simp [*]; done) | (simp; exact isEmpty_bne _)), H', ⟨by first | omega | exact Nat.le_refl _⟩, by repeat (first | exact Drawn0.refl _ | apply Drawn0.step)⟩
   ·rw [if_neg c7] at H
    have c7b0 : decide (97 ≤ a0) = false := decide_eq_false c7
    clear c7
    (first | rw [c7b0] | (simp only [i64_w, i32_w]; rw [c7b0]) | skip)
    have H' := Aside0.mk H
    clear H
    go_wp2
    go_meet
    case rel => exact ⟨_, (false), (by first | rfl | (simp; done) | (simp [*]; done) | (simp; exact isEmpty_bne _)), H', ⟨by first | omega | exact Nat.le_refl _⟩, by repeat (first | exact Drawn0.refl _ | apply Drawn0.step)⟩
  case rest =>
   clear HC6
   try clear p2
   try clear c4
   try clear c5
   try clear c5b0
   try clear c7
   try clear c7b0
   obtain ⟨kq, x12_5, rfl, HA, HJ5, ⟨mc5, rfl⟩⟩ := hcut
   cases kq with
   | zero => exact absurd HA.out (by simp [token_digit.j0])
   | succ kj5 =>
    have H := HA.out
    clear HA
    simp only [token_digit.j0] at H
    by_cases c8 : x12_5 = true
    ·subst c8
     have H1 : (if (((a0 - 97) % 256) + 10) ≥ a1 then (some (-1)) else (some (((a0 - 97) % 256) + 10))) = some r := by rw [if_pos rfl] at H; exact H
     clear H
     have H := H1
     clear H1
     by_cases c9 : (((a0 - 97) % 256) + 10) ≥ a1
     ·rw [if_pos c9] at H
      have c9b0 : decide (a1 ≤ (((a0 - 97) % 256) + 10)) = true := decide_eq_true c9
      clear c9
      obtain rfl := Option.some.inj H
      go_wp2
      go_ret
      exact ⟨by first | rfl | (simp; done) | (simp [*]; done), by repeat (first | exact Drawn0.refl _ | apply Drawn0.step)⟩
     ·rw [if_neg c9] at H
      have c9b0 : decide (a1 ≤ (((a0 - 97) % 256) + 10)) = false := decide_eq_false c9
      clear c9
      obtain rfl := Option.some.inj H
      go_wp2
      go_ret
      exact ⟨by first | rfl | (simp; done) | (simp [*]; done), by repeat (first | exact Drawn0.refl _ | apply Drawn0.step)⟩
    ·replace c8 := Bool.eq_false_iff.mpr c8
     subst c8
     have H1 : (if a0 ≥ 65 then (token_digit.j1 kj5 a0 a1 (-1) (decide (a0 ≤ 70))) else (token_digit.j1 kj5 a0 a1 (-1) false)) = some r := by rw [if_neg (show ¬ (false = true) by decide)] at H; exact H
     clear H
     have H := H1
     clear H1
     have HC10 := Aside0.mk H
     clear H
     go_upto_region 6 with (fail)
     go_cut [23] (fun v23 wc => ∃ (kq : Nat) (x23_9 : Bool), v23 = .bool x23_9 ∧ Aside0 (token_digit.j1 kq a0 a1 (-1) x23_9 = some r) ∧ Aside0 (kq ≤ kj5) ∧ Drawn0 w wc)
     case first =>
      have H := HC10.out
      clear HC10
      by_cases c11 : a0 ≥ 65
      ·rw [if_pos c11] at H
       have c11b0 : decide (65 ≤ a0) = true := decide_eq_true c11
       clear c11
       (first | rw [c11b0] | (simp only [i64_w, i32_w]; rw [c11b0]) | skip)
       have H' := Aside0.mk H
       clear H
       go_wp2
       go_meet
       case rel => exact ⟨_, (decide (a0 ≤ 70)), (by first | rfl | (simp; done) | (simp [*]; done) | (simp; exact isEmpty_bne _)), H', ⟨by have := HJ5.out; first | omega | exact Nat.le_refl _⟩, by repeat (first | exact Drawn0.refl _ | apply Drawn0.step)⟩
      ·rw [if_neg c11] at H
       have c11b0 : decide (65 ≤ a0) = false := decide_eq_false c11
       clear c11
       (first | rw [c11b0] | (simp only [i64_w, i32_w]; rw [c11b0]) | skip)
       have H' := Aside0.mk H
       clear H
       go_wp2
       go_meet
       case rel => exact ⟨_, (false), (by first | rfl | (simp; done) | (simp [*]; done) | (simp; exact isEmpty_bne _)), H', ⟨by have := HJ5.out; first | omega | exact Nat.le_refl _⟩, by repeat (first | exact Drawn0.refl _ | apply Drawn0.step)⟩
     case rest =>
      clear HC10
      try clear c1
      try clear p2
      try clear c4
      try clear c5
      try clear c5b0
      try clear c7
      try clear c7b0
      try clear c8
      try clear c9
      try clear c9b0
      try clear c11
      try clear c11b0
      try clear p2
      obtain ⟨kq, x23_9, rfl, HA, HJ9, ⟨mc9, rfl⟩⟩ := hcut
      cases kq with
      | zero => exact absurd HA.out (by simp [token_digit.j1])
      | succ kj9 =>
       have H := HA.out
       clear HA
       simp only [token_digit.j1] at H
       by_cases c12 : x23_9 = true
       ·subst c12
        have H1 : (if (((a0 - 65) % 256) + 10) ≥ a1 then (some (-1)) else (some (((a0 - 65) % 256) + 10))) = some r := by rw [if_pos rfl] at H; exact H
        clear H
        have H := H1
        clear H1
        by_cases c13 : (((a0 - 65) % 256) + 10) ≥ a1
        ·rw [if_pos c13] at H
         have c13b0 : decide (a1 ≤ (((a0 - 65) % 256) + 10)) = true := decide_eq_true c13
         clear c13
         obtain rfl := Option.some.inj H
         go_wp2
         go_ret
         exact ⟨by first | rfl | (simp; done) | (simp [*]; done), by repeat (first | exact Drawn0.refl _ | apply Drawn0.step)⟩
        ·rw [if_neg c13] at H
         have c13b0 : decide (a1 ≤ (((a0 - 65) % 256) + 10)) = false := decide_eq_false c13
         clear c13
         obtain rfl := Option.some.inj H
         go_wp2
         go_ret
         exact ⟨by first | rfl | (simp; done) | (simp [*]; done), by repeat (first | exact Drawn0.refl _ | apply Drawn0.step)⟩
       ·replace c12 := Bool.eq_false_iff.mpr c12
        subst c12
        have H1 : (if (-1) ≥ a1 then (some (-1)) else (some (-1))) = some r := by rw [if_neg (show ¬ (false = true) by decide)] at H; exact H
        clear H
        have H := H1
        clear H1
        by_cases c14 : (-1) ≥ a1
        ·rw [if_pos c14] at H
         have c14b0 : decide (a1 ≤ (-1)) = true := decide_eq_true c14
         clear c14
         obtain rfl := Option.some.inj H
         go_wp2
         go_ret
         exact ⟨by first | rfl | (simp; done) | (simp [*]; done), by repeat (first | exact Drawn0.refl _ | apply Drawn0.step)⟩
        ·rw [if_neg c14] at H
         have c14b0 : decide (a1 ≤ (-1)) = false := decide_eq_false c14
         clear c14
         obtain rfl := Option.some.inj H
         go_wp2
         go_ret
         exact ⟨by first | rfl | (simp; done) | (simp [*]; done), by repeat (first | exact Drawn0.refl _ | apply Drawn0.step)⟩

end Go.Proofs.Ytkoogebfdinbnaa.Q

-- Printed by this session's wip/np.py over the kit's print program. Not trusted: Lean checks it.
namespace Go.Proofs.Ytkoogebfdinbnaa.Q
open Go.RowKit Go.Proofs.YtkoogebfdinbnaaW.PrintWords Go.Proofs.YtkoogebfdinbnaaW.PrintLast Go.Proofs.YtkoogebfdinbnaaW.Own Go.Proofs.YtkoogebfdinbnaaW.PrintMore
attribute [local go_sem] max2_int min2_int max_two min_two max_three min_three max_four min_four
set_option linter.unusedVariables false
set_option linter.unusedSimpArgs false

/-! ### token_may: function 83 -/
def token_may.f (a0 : Int) : Option (Bool) := if a0 = 9 then (some true) else (if a0 = 10 then (some true) else (if a0 = 13 then (some true) else (if a0 ≥ 32 then (if a0 ≤ 1114111 then (if a0 < 55296 then (some true) else (some (decide (a0 > 57343)))) else (some false)) else (some false))))
set_option maxHeartbeats 8000000 in
set_option maxRecDepth 100000 in
theorem token_may.calls (a0 : Int) (r : Bool) (w : World) (hG : Glob w) (h : token_may.f a0 = some r) :
 Calls Try.prog 83 #[.int .i64 a0] w fun e w' => e = .returned (.bool r) ∧ Drawn0 w w' := by
 have HG := Aside0.mk hG
 clear hG
 have H : (if a0 = 9 then (some true) else (if a0 = 10 then (some true) else (if a0 = 13 then (some true) else (if a0 ≥ 32 then (if a0 ≤ 1114111 then (if a0 < 55296 then (some true) else (some (decide (a0 > 57343)))) else (some false)) else (some false))))) = some r := h
 clear h
 by_cases c2 : a0 = 9
 ·rw [if_pos c2] at H
  have c2b0 : (a0 == 9) = true := beq_iff_eq.mpr c2
  have c2b1 : (a0 != 9) = false := bne_eq_false_iff_eq.mpr c2
  clear c2
  obtain rfl := Option.some.inj H
  go_enter Try.func83, Try.ntmps83
  go_wp2
  go_ret
  exact ⟨by first | rfl | (simp; done) | (simp [*]; done), by repeat (first | exact Drawn0.refl _ | apply Drawn0.step)⟩
 ·rw [if_neg c2] at H
  have c2b0 : (a0 == 9) = false := beq_eq_false_iff_ne.mpr c2
  have c2b1 : (a0 != 9) = true := bne_iff_ne.mpr c2
  by_cases c3 : a0 = 10
  ·rw [if_pos c3] at H
   have c3b0 : (a0 == 10) = true := beq_iff_eq.mpr c3
   have c3b1 : (a0 != 10) = false := bne_eq_false_iff_eq.mpr c3
   clear c3
   obtain rfl := Option.some.inj H
   go_enter Try.func83, Try.ntmps83
   go_wp2
   go_ret
   exact ⟨by first | rfl | (simp; done) | (simp [*]; done), by repeat (first | exact Drawn0.refl _ | apply Drawn0.step)⟩
  ·rw [if_neg c3] at H
   have c3b0 : (a0 == 10) = false := beq_eq_false_iff_ne.mpr c3
   have c3b1 : (a0 != 10) = true := bne_iff_ne.mpr c3
   by_cases c4 : a0 = 13
   ·rw [if_pos c4] at H
    have c4b0 : (a0 == 13) = true := beq_iff_eq.mpr c4
    have c4b1 : (a0 != 13) = false := bne_eq_false_iff_eq.mpr c4
    clear c4
    obtain rfl := Option.some.inj H
    go_enter Try.func83, Try.ntmps83
    go_wp2
    go_ret
    exact ⟨by first | rfl | (simp; done) | (simp [*]; done), by repeat (first | exact Drawn0.refl _ | apply Drawn0.step)⟩
   ·rw [if_neg c4] at H
    have c4b0 : (a0 == 13) = false := beq_eq_false_iff_ne.mpr c4
    have c4b1 : (a0 != 13) = true := bne_iff_ne.mpr c4
    by_cases c5 : a0 ≥ 32
    ·rw [if_pos c5] at H
     have c5b0 : decide (32 ≤ a0) = true := decide_eq_true c5
     clear c5
     by_cases c6 : a0 ≤ 1114111
     ·rw [if_pos c6] at H
      have c6b0 : decide (a0 ≤ 1114111) = true := decide_eq_true c6
      clear c6
      by_cases c7 : a0 < 55296
      ·rw [if_pos c7] at H
       have c7b0 : decide (a0 < 55296) = true := decide_eq_true c7
       clear c7
       obtain rfl := Option.some.inj H
       go_enter Try.func83, Try.ntmps83
       go_wp2
       go_ret
       exact ⟨by first | rfl | (simp; done) | (simp [*]; done), by repeat (first | exact Drawn0.refl _ | apply Drawn0.step)⟩
      ·rw [if_neg c7] at H
       have c7b0 : decide (a0 < 55296) = false := decide_eq_false c7
       clear c7
       obtain rfl := Option.some.inj H
       go_enter Try.func83, Try.ntmps83
       go_wp2
       go_ret
       exact ⟨by first | rfl | (simp; done) | (simp [*]; done), by repeat (first | exact Drawn0.refl _ | apply Drawn0.step)⟩
     ·rw [if_neg c6] at H
      have c6b0 : decide (a0 ≤ 1114111) = false := decide_eq_false c6
      clear c6
      obtain rfl := Option.some.inj H
      go_enter Try.func83, Try.ntmps83
      go_wp2
      go_ret
      exact ⟨by first | rfl | (simp; done) | (simp [*]; done), by repeat (first | exact Drawn0.refl _ | apply Drawn0.step)⟩
    ·rw [if_neg c5] at H
     have c5b0 : decide (32 ≤ a0) = false := decide_eq_false c5
     clear c5
     obtain rfl := Option.some.inj H
     go_enter Try.func83, Try.ntmps83
     go_wp2
     go_ret
     exact ⟨by first | rfl | (simp; done) | (simp [*]; done), by repeat (first | exact Drawn0.refl _ | apply Drawn0.step)⟩

end Go.Proofs.Ytkoogebfdinbnaa.Q

-- Printed by this session's wip/np.py over the kit's print program. Not trusted: Lean checks it.
namespace Go.Proofs.Ytkoogebfdinbnaa.Q
open Go.RowKit Go.Proofs.YtkoogebfdinbnaaW.PrintWords Go.Proofs.YtkoogebfdinbnaaW.PrintLast Go.Proofs.YtkoogebfdinbnaaW.Own Go.Proofs.YtkoogebfdinbnaaW.PrintMore
attribute [local go_sem] max2_int min2_int max_two min_two max_three min_three max_four min_four
set_option linter.unusedVariables false
set_option linter.unusedSimpArgs false

/-! ### token_numbered: function 76 -/
/-- The number's character, or none, as the program tells it. -/
def numB (base : Nat) (l : List UInt8) : List UInt8 × Bool := match Tk.numbered base l with
 | some c => (c, true)
 | none => ([], false)
theorem digit_16 (c : UInt8) : token_digit.f 3 (c.toNat : Int) 16 = some (match Tk.digitOf 16 c with | some n => (n : Int) | none => -1) := Tk.bytes_all (f := fun x => token_digit.f 3 x 16) (g := fun c => match Tk.digitOf 16 c with | some n => (n : Int) | none => -1) (by kernel_rfl) c
theorem digit_10 (c : UInt8) : token_digit.f 3 (c.toNat : Int) 10 = some (match Tk.digitOf 10 c with | some n => (n : Int) | none => -1) := Tk.bytes_all (f := fun x => token_digit.f 3 x 10) (g := fun c => match Tk.digitOf 10 c with | some n => (n : Int) | none => -1) (by kernel_rfl) c
theorem digitOf_lt {base : Nat} {c : UInt8} {n : Nat} (h : Tk.digitOf base c = some n) : n < base := by
 unfold Tk.digitOf at h
 obtain ⟨m, _, h⟩ := Option.bind_eq_some_iff.1 h
 split at h
 ·rename_i hm
  injection h with h
  omega
 ·cases h
theorem may_f (v : Nat) : token_may.f (v : Int) = some (Tk.may v) := by
 unfold token_may.f Tk.may
 by_cases h1 : v = 9
 ·subst h1; rfl
 by_cases h2 : v = 10
 ·subst h2; rfl
 by_cases h3 : v = 13
 ·subst h3; rfl
 rw [if_neg (by omega), if_neg (by omega), if_neg (by omega)]
 have e1 : (v == 9) = false := by simpa using h1
 have e2 : (v == 10) = false := by simpa using h2
 have e3 : (v == 13) = false := by simpa using h3
 rw [e1, e2, e3]
 by_cases h4 : 32 ≤ v
 ·rw [if_pos (by omega), decide_eq_true h4]
  by_cases h5 : v ≤ 1114111
  ·rw [if_pos (by omega), decide_eq_true h5]
   by_cases h6 : v < 55296
   ·rw [if_pos (by omega), decide_eq_true h6]; rfl
   ·rw [if_neg (by omega), decide_eq_false h6]
    simp only [Bool.false_or, Bool.true_and, Option.some.injEq]
    rw [Bool.eq_iff_iff]
    simp only [decide_eq_true_eq]
    omega
  ·rw [if_neg (by omega), decide_eq_false h5]; rfl
 ·rw [if_neg (by omega), decide_eq_false h4]; rfl
theorem number_drop {base v : Nat} {l : List UInt8} {i : Nat} (h : i < l.length) : Tk.number base v (l.drop i) = (Tk.digitOf base l[i]).bind fun d => Tk.number base (v * base + d) (l.drop (i + 1)) := by
 rw [List.drop_eq_getElem_cons h]; rfl
theorem number_end {base v : Nat} {l : List UInt8} : Tk.number base v (l.drop l.length) = some v := by
 rw [List.drop_length]; rfl
theorem numB_short {base : Nat} {l : List UInt8} (h : l = [] ∨ 6 < l.length) : numB base l = ([], false) := by
 unfold numB Tk.numbered
 rw [if_pos h]
theorem numB_none {base : Nat} {l : List UInt8} (h : Tk.number base 0 l = none) : numB base l = ([], false) := by
 have e : Tk.numbered base l = none := by
  unfold Tk.numbered
  split
  ·rfl
  ·rw [h]; rfl
 unfold numB
 rw [e]
theorem numB_may {base v : Nat} {l : List UInt8} (hs : ¬ (l = [] ∨ 6 < l.length)) (h : Tk.number base 0 l = some v) (hm : Tk.may v = true) : numB base l = ((Utf8.encode (v : Int)).data.toList, true) := by
 unfold numB Tk.numbered
 rw [if_neg hs, h, Option.bind_some, if_pos hm]
theorem numB_not {base v : Nat} {l : List UInt8} (hs : ¬ (l = [] ∨ 6 < l.length)) (h : Tk.number base 0 l = some v) (hm : Tk.may v = false) : numB base l = ([], false) := by
 unfold numB Tk.numbered
 rw [if_neg hs, h, Option.bind_some, if_neg (by rw [hm]; decide)]
theorem bs_data (a : ByteArray) : Tk.bs a.data.toList = a := by
 cases a with
 | mk d => rfl
set_option maxHeartbeats 8000000 in
set_option maxRecDepth 100000 in
theorem token_numbered.calls16 (l : List UInt8) (w : World) (hG : Glob w) :
 Calls Try.prog 76 #[.string (Tk.bs (120 :: l))] w fun e w' => e = .returned (.tuple #[.string (Tk.bs (numB 16 l).1), .bool (numB 16 l).2]) ∧ Drawn0 w w' := by
 have CP : ∀ W, Calls Try.prog 74 #[.string (Tk.bs (120 :: l)), .string (Tk.bs [120])] W fun e w' => e = .returned (.bool true) ∧ W = w' := by
  intro W
  refine (Try.strings_HasPrefix (Tk.bs (120 :: l)) (Tk.bs [120]) W).mono ?_
  rintro e w' ⟨rfl, rfl⟩
  exact ⟨by rw [show Lib.hasPrefix (Tk.bs (120 :: l)).data.toList (Tk.bs [120]).data.toList = true from by show List.isPrefixOf [120] (120 :: l) = true; simp [List.isPrefixOf]], rfl⟩
 have hdr := bs_drop (120 :: l) 1
 rw [List.drop_succ_cons, List.drop_zero] at hdr
 have hz0 := bs_size (120 :: l)
 rw [List.length_cons] at hz0
 obtain ⟨s0, hs0⟩ : ∃ s, s = Tk.bs (120 :: l) := ⟨_, rfl⟩
 rw [← hs0] at hdr hz0 CP ⊢
 have q1 : ((1 : Int) ≤ (s0.size : Int)) = True := eq_true (by omega)
 have q2 : (1 ≤ s0.size) = True := eq_true (by omega)
 clear hs0 hz0
 have hsz := bs_size l
 have hbt := bs_bt l
 have htl := bs_toList l
 obtain ⟨s, hs⟩ : ∃ s, s = Tk.bs l := ⟨_, rfl⟩
 rw [← hs] at hsz hbt htl hdr
 have HS := Lib.hid hs
 have HSZ := Lib.hid hsz
 have HBT := Lib.hid hbt
 have HG := Aside0.mk hG
 clear hs hbt hG
 by_cases hsh : l = [] ∨ 6 < l.length
 ·have HR := Lib.hid (numB_short (base := 16) hsh)
  by_cases hcase : l = []
  ·have e1 : s.toList = [] := by rw [htl]; exact hcase
   clear hcase hsh htl hsz
   go_enter Try.func76, Try.ntmps76
   go_wp2_with (first | (go_at_call 74; refine (CP _).mono ?_; rintro e w1 ⟨rfl, rfl⟩))
   go_quiet (fail)
   go_wp2
   go_ret2
   exact ⟨by rw [HR.out]; rfl, (Drawn0.refl _).step _⟩
  ·have e1 : (s.toList = []) = False := by rw [htl]; exact eq_false hcase
   have e2 : s.toList.isEmpty = false := by rw [htl]; cases l with | nil => exact absurd rfl hcase | cons _ _ => rfl
   have e3 : (s.toList == []) = false := by rw [htl]; cases l with | nil => exact absurd rfl hcase | cons _ _ => rfl
   have hgt : 6 < l.length := hsh.resolve_left hcase
   have e4 : decide ((6 : Int) < (s.size : Int)) = true := decide_eq_true (by omega)
   have e5 : decide (6 < s.size) = true := decide_eq_true (by omega)
   clear hcase hsh htl hsz hgt
   go_enter Try.func76, Try.ntmps76
   go_wp2_with (first | (go_at_call 74; refine (CP _).mono ?_; rintro e w1 ⟨rfl, rfl⟩))
   go_quiet (fail)
   go_wp2
   go_ret2
   exact ⟨by rw [HR.out]; rfl, (Drawn0.refl _).step _⟩
 ·have hne : l ≠ [] := fun h => hsh (.inl h)
  have h6 : l.length ≤ 6 := Nat.le_of_not_lt fun h => hsh (.inr h)
  have e1 : (s.toList = []) = False := by rw [htl]; exact eq_false hne
  have e2 : s.toList.isEmpty = false := by rw [htl]; cases l with | nil => exact absurd rfl hne | cons _ _ => rfl
  have e3 : (s.toList == []) = false := by rw [htl]; cases l with | nil => exact absurd rfl hne | cons _ _ => rfl
  have e4 : decide ((6 : Int) < (s.size : Int)) = false := decide_eq_false (by omega)
  have e5 : decide (6 < s.size) = false := decide_eq_false (by omega)
  have HSH := Lib.hid hsh
  clear hsh htl hsz hne
  go_enter Try.func76, Try.ntmps76
  go_wp2_with (first | (go_at_call 74; refine (CP _).mono ?_; rintro e w1 ⟨rfl, rfl⟩))
  go_quiet (fail)
  go_wp2
  go_loopg [5, 21] (l.length + 1) (fun gk v5 v21 w' => ∃ (i v : Nat) (x y : Int), i ≤ l.length ∧ i + gk = l.length + 1 ∧ v5 = .int .i64 y ∧ v21 = .int .i64 x ∧ Aside0 (x = (i : Int)) ∧ Aside0 (y = (v : Int)) ∧ Aside0 (v < 16 ^ i) ∧ Aside0 (Tk.number 16 v (l.drop i) = Tk.number 16 0 l) ∧ Aside0 (Drawn0 w w'))
  case atStart => exact ⟨0, 0, 0, 0, by omega, by omega, rfl, rfl, ⟨rfl⟩, ⟨rfl⟩, ⟨by decide⟩, ⟨by rw [List.drop_zero]⟩, ⟨(Drawn0.refl _).step _⟩⟩
  case round =>
   obtain ⟨i, v, x, y, hi, hgk, rfl, rfl, HX, HY, HV, HN, HD⟩ := hrel
   have hG1 : Glob wr := HG.out.drawn HD.out
   have hxi := HX.out
   have hyv := HY.out
   have hvb := HV.out
   have hsz := HSZ.out
   have hpw : 16 ^ i ≤ 16 ^ 6 := Nat.pow_le_pow_right (by decide) (by omega)
   have hpw2 : 16 ^ 6 ≤ 16777216 := by decide
   have HG1 := Aside0.mk hG1
   by_cases hlt : i < l.length
   ·obtain ⟨g1, rfl⟩ : ∃ g1, gk = g1 + 1 := ⟨gk - 1, by omega⟩
    have d1 : decide (x < (s.size : Int)) = true := decide_eq_true (by omega)
    have p1 := eq_true (show 0 ≤ x by omega)
    have p2 := eq_true (show x < (s.size : Int) by omega)
    have hx := bt_at s x
    have hbx : bt s x = ((l[i]'hlt).toNat : Int) := by rw [hxi, HBT.out i hlt]
    have hnd := number_drop (base := 16) (v := v) hlt
    cases hd : Tk.digitOf 16 (l[i]'hlt) with
    | none =>
     have hf : token_digit.f 3 (bt s x) 16 = some (-1) := by rw [hbx, digit_16, hd]
     have hno2 : Tk.number 16 0 l = none := by rw [← HN.out, hnd, hd]; rfl
     have HR := Lib.hid (numB_none (base := 16) hno2)
     have HF := Aside0.mk hf
     clear hf hno2 hnd hd hbx hxi hyv hvb hsz hpw hpw2 hG1
     go_wp2_with (first | (go_at_call 82; (with_reducible refine (token_digit.calls 3 (bt s x) 16 (-1) _ HG1.out HF.out).mono ?_); rintro e w1 ⟨rfl, ⟨nd, rfl⟩⟩))
     go_ret2
     exact ⟨by rw [HR.out]; rfl, HD.out.step nd⟩
    | some d =>
     have hdl := digitOf_lt hd
     obtain ⟨z, hz⟩ : ∃ z : Int, z = (d : Int) := ⟨_, rfl⟩
     have hf : token_digit.f 3 (bt s x) 16 = some z := by rw [hbx, digit_16, hd, hz]
     have z0 : decide (z < 0) = false := decide_eq_false (by omega)
     have HF := Aside0.mk hf
     have hw1 : wrap64 (x + 1) = ((i + 1 : Nat) : Int) := by unfold wrap64; omega
     have hw2 : wrap64 (wrap64 (y * 16) + z) = ((v * 16 + d : Nat) : Int) := by unfold wrap64; omega
     have hvn : v * 16 + d < 16 ^ (i + 1) := by rw [Nat.pow_succ]; omega
     have hnn : Tk.number 16 (v * 16 + d) (l.drop (i + 1)) = Tk.number 16 0 l := by rw [← HN.out, hnd, hd]; rfl
     have HW1 := Aside0.mk hw1
     have HW2 := Aside0.mk hw2
     have HVN := Aside0.mk hvn
     have HNN := Aside0.mk hnn
     clear hf hnd hd hbx hxi hyv hvb hsz hpw hpw2 hG1 hw1 hw2 hvn hnn hz hdl
     go_wp2_with (first | (go_at_call 82; (with_reducible refine (token_digit.calls 3 (bt s x) 16 z _ HG1.out HF.out).mono ?_); rintro e w1 ⟨rfl, ⟨nd, rfl⟩⟩))
     go_roundg g1
     case measure => omega
     case rel => exact ⟨i + 1, v * 16 + d, _, _, by omega, by omega, by first | rfl | (simp; done), by first | rfl | (simp; done), HW1, HW2, HVN, HNN, ⟨HD.out.step nd⟩⟩
   ·obtain rfl : i = l.length := by omega
    have d1 : decide (x < (s.size : Int)) = false := decide_eq_false (by omega)
    have hnum : Tk.number 16 0 l = some v := by rw [← HN.out, number_end]
    have hmf : token_may.f y = some (Tk.may v) := by rw [hyv, may_f]
    have hwi : IntKind.i32.wrap y = (v : Int) := by rw [i32_w]; unfold wrap32; omega
    have y0 : 0 ≤ y := by omega
    have y1 : y ≤ 16777216 := by omega
    cases hm : Tk.may v with
    | true =>
     have HR := Lib.hid (numB_may (base := 16) HSH.out hnum hm)
     have HM := Aside0.mk (hmf.trans (congrArg some hm))
     have HWI := Lib.hid hwi
     have HYV := Lib.hid hyv
     clear hmf hm hnum hxi hyv hvb hsz hpw hpw2 hG1 hwi
     go_wp2_with (first | (go_at_call 83; (with_reducible refine (token_may.calls y true _ HG1.out HM.out).mono ?_); rintro e w1 ⟨rfl, ⟨nd, rfl⟩⟩))
     go_ret2
     refine ⟨?_, HD.out.step nd⟩
     rw [HR.out, bs_data, ← HYV.out]; rfl
    | false =>
     have HR := Lib.hid (numB_not (base := 16) HSH.out hnum hm)
     have HM := Aside0.mk (hmf.trans (congrArg some hm))
     clear hmf hm hnum hxi hyv hvb hsz hpw hpw2 hG1 hwi
     go_wp2_with (first | (go_at_call 83; (with_reducible refine (token_may.calls y false _ HG1.out HM.out).mono ?_); rintro e w1 ⟨rfl, ⟨nd, rfl⟩⟩))
     go_ret2
     exact ⟨by rw [HR.out]; rfl, HD.out.step nd⟩
set_option maxHeartbeats 8000000 in
set_option maxRecDepth 100000 in
theorem token_numbered.calls10 (l : List UInt8) (w : World) (hG : Glob w) (hno : Lib.hasPrefix l [120] = false) :
 Calls Try.prog 76 #[.string (Tk.bs l)] w fun e w' => e = .returned (.tuple #[.string (Tk.bs (numB 10 l).1), .bool (numB 10 l).2]) ∧ Drawn0 w w' := by
 have CP : ∀ W, Calls Try.prog 74 #[.string (Tk.bs l), .string (Tk.bs [120])] W fun e w' => e = .returned (.bool false) ∧ W = w' := by
  intro W
  refine (Try.strings_HasPrefix (Tk.bs l) (Tk.bs [120]) W).mono ?_
  rintro e w' ⟨rfl, rfl⟩
  exact ⟨by rw [show Lib.hasPrefix (Tk.bs l).data.toList (Tk.bs [120]).data.toList = false from hno], rfl⟩
 clear hno
 have hsz := bs_size l
 have hbt := bs_bt l
 have htl := bs_toList l
 obtain ⟨s, hs⟩ : ∃ s, s = Tk.bs l := ⟨_, rfl⟩
 rw [← hs] at hsz hbt htl CP ⊢
 have HS := Lib.hid hs
 have HSZ := Lib.hid hsz
 have HBT := Lib.hid hbt
 have HG := Aside0.mk hG
 clear hs hbt hG
 by_cases hsh : l = [] ∨ 6 < l.length
 ·have HR := Lib.hid (numB_short (base := 10) hsh)
  by_cases hcase : l = []
  ·have e1 : s.toList = [] := by rw [htl]; exact hcase
   clear hcase hsh htl hsz
   go_enter Try.func76, Try.ntmps76
   go_wp2_with (first | (go_at_call 74; refine (CP _).mono ?_; rintro e w1 ⟨rfl, rfl⟩))
   go_ret2
   exact ⟨by rw [HR.out]; rfl, Drawn0.refl _⟩
  ·have e1 : (s.toList = []) = False := by rw [htl]; exact eq_false hcase
   have e2 : s.toList.isEmpty = false := by rw [htl]; cases l with | nil => exact absurd rfl hcase | cons _ _ => rfl
   have e3 : (s.toList == []) = false := by rw [htl]; cases l with | nil => exact absurd rfl hcase | cons _ _ => rfl
   have hgt : 6 < l.length := hsh.resolve_left hcase
   have e4 : decide ((6 : Int) < (s.size : Int)) = true := decide_eq_true (by omega)
   have e5 : decide (6 < s.size) = true := decide_eq_true (by omega)
   clear hcase hsh htl hsz hgt
   go_enter Try.func76, Try.ntmps76
   go_wp2_with (first | (go_at_call 74; refine (CP _).mono ?_; rintro e w1 ⟨rfl, rfl⟩))
   go_ret2
   exact ⟨by rw [HR.out]; rfl, Drawn0.refl _⟩
 ·have hne : l ≠ [] := fun h => hsh (.inl h)
  have h6 : l.length ≤ 6 := Nat.le_of_not_lt fun h => hsh (.inr h)
  have e1 : (s.toList = []) = False := by rw [htl]; exact eq_false hne
  have e2 : s.toList.isEmpty = false := by rw [htl]; cases l with | nil => exact absurd rfl hne | cons _ _ => rfl
  have e3 : (s.toList == []) = false := by rw [htl]; cases l with | nil => exact absurd rfl hne | cons _ _ => rfl
  have e4 : decide ((6 : Int) < (s.size : Int)) = false := decide_eq_false (by omega)
  have e5 : decide (6 < s.size) = false := decide_eq_false (by omega)
  have HSH := Lib.hid hsh
  clear hsh htl hsz hne
  go_enter Try.func76, Try.ntmps76
  go_wp2_with (first | (go_at_call 74; refine (CP _).mono ?_; rintro e w1 ⟨rfl, rfl⟩))
  go_loopg [5, 21] (l.length + 1) (fun gk v5 v21 w' => ∃ (i v : Nat) (x y : Int), i ≤ l.length ∧ i + gk = l.length + 1 ∧ v5 = .int .i64 y ∧ v21 = .int .i64 x ∧ Aside0 (x = (i : Int)) ∧ Aside0 (y = (v : Int)) ∧ Aside0 (v < 10 ^ i) ∧ Aside0 (Tk.number 10 v (l.drop i) = Tk.number 10 0 l) ∧ Aside0 (Drawn0 w w'))
  case atStart => exact ⟨0, 0, 0, 0, by omega, by omega, rfl, rfl, ⟨rfl⟩, ⟨rfl⟩, ⟨by decide⟩, ⟨by rw [List.drop_zero]⟩, ⟨Drawn0.refl _⟩⟩
  case round =>
   obtain ⟨i, v, x, y, hi, hgk, rfl, rfl, HX, HY, HV, HN, HD⟩ := hrel
   have hG1 : Glob wr := HG.out.drawn HD.out
   have hxi := HX.out
   have hyv := HY.out
   have hvb := HV.out
   have hsz := HSZ.out
   have hpw : 10 ^ i ≤ 10 ^ 6 := Nat.pow_le_pow_right (by decide) (by omega)
   have hpw2 : 10 ^ 6 ≤ 16777216 := by decide
   have HG1 := Aside0.mk hG1
   by_cases hlt : i < l.length
   ·obtain ⟨g1, rfl⟩ : ∃ g1, gk = g1 + 1 := ⟨gk - 1, by omega⟩
    have d1 : decide (x < (s.size : Int)) = true := decide_eq_true (by omega)
    have p1 := eq_true (show 0 ≤ x by omega)
    have p2 := eq_true (show x < (s.size : Int) by omega)
    have hx := bt_at s x
    have hbx : bt s x = ((l[i]'hlt).toNat : Int) := by rw [hxi, HBT.out i hlt]
    have hnd := number_drop (base := 10) (v := v) hlt
    cases hd : Tk.digitOf 10 (l[i]'hlt) with
    | none =>
     have hf : token_digit.f 3 (bt s x) 10 = some (-1) := by rw [hbx, digit_10, hd]
     have hno2 : Tk.number 10 0 l = none := by rw [← HN.out, hnd, hd]; rfl
     have HR := Lib.hid (numB_none (base := 10) hno2)
     have HF := Aside0.mk hf
     clear hf hno2 hnd hd hbx hxi hyv hvb hsz hpw hpw2 hG1
     go_wp2_with (first | (go_at_call 82; (with_reducible refine (token_digit.calls 3 (bt s x) 10 (-1) _ HG1.out HF.out).mono ?_); rintro e w1 ⟨rfl, ⟨nd, rfl⟩⟩))
     go_ret2
     exact ⟨by rw [HR.out]; rfl, HD.out.step nd⟩
    | some d =>
     have hdl := digitOf_lt hd
     obtain ⟨z, hz⟩ : ∃ z : Int, z = (d : Int) := ⟨_, rfl⟩
     have hf : token_digit.f 3 (bt s x) 10 = some z := by rw [hbx, digit_10, hd, hz]
     have z0 : decide (z < 0) = false := decide_eq_false (by omega)
     have HF := Aside0.mk hf
     have hw1 : wrap64 (x + 1) = ((i + 1 : Nat) : Int) := by unfold wrap64; omega
     have hw2 : wrap64 (wrap64 (y * 10) + z) = ((v * 10 + d : Nat) : Int) := by unfold wrap64; omega
     have hvn : v * 10 + d < 10 ^ (i + 1) := by rw [Nat.pow_succ]; omega
     have hnn : Tk.number 10 (v * 10 + d) (l.drop (i + 1)) = Tk.number 10 0 l := by rw [← HN.out, hnd, hd]; rfl
     have HW1 := Aside0.mk hw1
     have HW2 := Aside0.mk hw2
     have HVN := Aside0.mk hvn
     have HNN := Aside0.mk hnn
     clear hf hnd hd hbx hxi hyv hvb hsz hpw hpw2 hG1 hw1 hw2 hvn hnn hz hdl
     go_wp2_with (first | (go_at_call 82; (with_reducible refine (token_digit.calls 3 (bt s x) 10 z _ HG1.out HF.out).mono ?_); rintro e w1 ⟨rfl, ⟨nd, rfl⟩⟩))
     go_roundg g1
     case measure => omega
     case rel => exact ⟨i + 1, v * 10 + d, _, _, by omega, by omega, by first | rfl | (simp; done), by first | rfl | (simp; done), HW1, HW2, HVN, HNN, ⟨HD.out.step nd⟩⟩
   ·obtain rfl : i = l.length := by omega
    have d1 : decide (x < (s.size : Int)) = false := decide_eq_false (by omega)
    have hnum : Tk.number 10 0 l = some v := by rw [← HN.out, number_end]
    have hmf : token_may.f y = some (Tk.may v) := by rw [hyv, may_f]
    have hwi : IntKind.i32.wrap y = (v : Int) := by rw [i32_w]; unfold wrap32; omega
    have y0 : 0 ≤ y := by omega
    have y1 : y ≤ 16777216 := by omega
    cases hm : Tk.may v with
    | true =>
     have HR := Lib.hid (numB_may (base := 10) HSH.out hnum hm)
     have HM := Aside0.mk (hmf.trans (congrArg some hm))
     have HWI := Lib.hid hwi
     have HYV := Lib.hid hyv
     clear hmf hm hnum hxi hyv hvb hsz hpw hpw2 hG1 hwi
     go_wp2_with (first | (go_at_call 83; (with_reducible refine (token_may.calls y true _ HG1.out HM.out).mono ?_); rintro e w1 ⟨rfl, ⟨nd, rfl⟩⟩))
     go_ret2
     refine ⟨?_, HD.out.step nd⟩
     rw [HR.out, bs_data, ← HYV.out]; rfl
    | false =>
     have HR := Lib.hid (numB_not (base := 10) HSH.out hnum hm)
     have HM := Aside0.mk (hmf.trans (congrArg some hm))
     clear hmf hm hnum hxi hyv hvb hsz hpw hpw2 hG1 hwi
     go_wp2_with (first | (go_at_call 83; (with_reducible refine (token_may.calls y false _ HG1.out HM.out).mono ?_); rintro e w1 ⟨rfl, ⟨nd, rfl⟩⟩))
     go_ret2
     exact ⟨by rw [HR.out]; rfl, HD.out.step nd⟩


end Go.Proofs.Ytkoogebfdinbnaa.Q

-- Printed by this session's wip/np.py over the kit's print program. Not trusted: Lean checks it.
namespace Go.Proofs.Ytkoogebfdinbnaa.Q
open Go.RowKit Go.Proofs.YtkoogebfdinbnaaW.PrintWords Go.Proofs.YtkoogebfdinbnaaW.PrintLast Go.Proofs.YtkoogebfdinbnaaW.Own Go.Proofs.YtkoogebfdinbnaaW.PrintMore
attribute [local go_sem] max2_int min2_int max_two min_two max_three min_three max_four min_four
set_option linter.unusedVariables false
set_option linter.unusedSimpArgs false

/-! ### element_builder_text: function 31 -/
theorem space_told (c : UInt8) : chars_Space.f (c.toNat : Int) = some (Tk.space c) := Tk.bytes_all (by kernel_rfl) c
theorem bs_nil_eq (l : List UInt8) : ((Tk.bs l).toList = ([] : List UInt8)) = (l = []) := by rw [toList_data]; rfl
theorem bs_ext {x : ByteArray} {l : List UInt8} (h : x.data.toList = l) : x = Tk.bs l := by subst h; exact (bs_data x).symm
theorem trim_right : ∀ (n : Nat) (l : List UInt8), l.length = n → l.length ≤ 1000000000 → ∃ k r, chars_Trim.l1 k (Tk.bs l) = some r ∧ r.toList.isEmpty = l.all Tk.space := by
 intro n
 induction n with
 | zero =>
  intro l h _
  obtain rfl := List.eq_nil_of_length_eq_zero h
  exact ⟨1, Tk.bs [], by rw [chars_Trim.l1, if_pos (by rw [bs_nil_eq])], by rw [toList_data]; rfl⟩
 | succ n ih =>
  intro l h hl
  have hne : l ≠ [] := fun he => by rw [he] at h; cases h
  have hs := bs_size l
  obtain ⟨m, c, rfl⟩ : ∃ m c, l = m ++ [c] := ⟨l.dropLast, l.getLast hne, (List.dropLast_concat_getLast hne).symm⟩
  rw [List.length_append, List.length_singleton] at h hs hl
  have hw : wrap64 (((Tk.bs (m ++ [c])).size : Int) - 1) = (m.length : Int) := by rw [hs]; unfold wrap64; omega
  have hb : bt (Tk.bs (m ++ [c])) (m.length : Int) = (c.toNat : Int) := by rw [bs_bt (m ++ [c]) m.length (by simp)]; simp
  by_cases hc : Tk.space c = true
  ·obtain ⟨k, r, hk, hr⟩ := ih m (by omega) (by omega)
   refine ⟨k + 1, r, ?_, by rw [hr, List.all_append]; simp [hc]⟩
   rw [chars_Trim.l1, if_neg (by rw [bs_nil_eq]; exact hne), hw, if_pos (by omega), if_pos (by rw [hs]; omega), hb, space_told, hc, Option.bind_some, if_pos rfl, if_pos (by rw [hs]; omega)]
   have e : (Tk.bs (m ++ [c])).extract 0 ((m.length : Int)).toNat = Tk.bs m := by
    apply bs_ext
    rw [Int.toNat_natCast]
    simp [Tk.bs, ByteArray.data_extract]
   rw [e]; exact hk
  ·refine ⟨1, Tk.bs (m ++ [c]), ?_, ?_⟩
   ·rw [chars_Trim.l1, if_neg (by rw [bs_nil_eq]; exact hne), hw, if_pos (by omega), if_pos (by rw [hs]; omega), hb, space_told, Option.bind_some, if_neg hc]
   ·rw [toList_data, List.all_append]
    have : Tk.space c = false := Bool.eq_false_iff.2 hc
    simp [Tk.bs, this]
theorem trim_left : ∀ (l : List UInt8), l.length ≤ 1000000000 → ∃ k r, chars_Trim.l0 k (Tk.bs l) = some r ∧ r.toList.isEmpty = l.all Tk.space := by
 intro l
 induction l with
 | nil =>
  intro _
  obtain ⟨k, r, hk, hr⟩ := trim_right 0 [] rfl (by simp)
  exact ⟨k + 2, r, by rw [chars_Trim.l0, if_pos (by rw [bs_nil_eq]), chars_Trim.j1]; exact hk, hr⟩
 | cons c l ih =>
  intro hl
  have hs := bs_size (c :: l)
  rw [List.length_cons] at hs hl
  have hb : bt (Tk.bs (c :: l)) 0 = (c.toNat : Int) := by have := bs_bt (c :: l) 0 (by simp); simpa using this
  by_cases hc : Tk.space c = true
  ·obtain ⟨k, r, hk, hr⟩ := ih (by omega)
   refine ⟨k + 1, r, ?_, by rw [hr, List.all_cons, hc, Bool.true_and]⟩
   rw [chars_Trim.l0, if_neg (by rw [bs_nil_eq]; simp), if_pos (by rw [hs]; omega), hb, space_told, hc, Option.bind_some, if_pos rfl, if_pos (by rw [hs]; omega)]
   have e : (Tk.bs (c :: l)).extract 1 (Tk.bs (c :: l)).size = Tk.bs l := by
    apply bs_ext
    rw [hs]
    simp [Tk.bs, ByteArray.data_extract]
   rw [e]; exact hk
  ·obtain ⟨k, r, hk, hr⟩ := trim_right _ (c :: l) rfl (by rw [List.length_cons]; omega)
   refine ⟨k + 2, r, ?_, hr⟩
   rw [chars_Trim.l0, if_neg (by rw [bs_nil_eq]; simp), if_pos (by rw [hs]; omega), hb, space_told, Option.bind_some, if_neg hc, chars_Trim.j1]
   exact hk
theorem trim_blank (s : ByteArray) (hs : s.size ≤ 1000000000) : ∃ k r, chars_Trim.f k s = some r ∧ r.toList.isEmpty = El.blank s := by
 have e : s = Tk.bs s.data.toList := (bs_data s).symm
 have hz := bs_size s.data.toList
 rw [← e] at hz
 obtain ⟨k, r, hk, hr⟩ := trim_left s.data.toList (by omega)
 rw [← e] at hk
 exact ⟨k, r, hk, hr⟩
theorem zeroInt (w : World) : (zeroValue 3).run Try.prog w = .ok (.int .i64 0) w := by kernel_rfl
theorem look_told {m n : Nat} {D : DataW Unit} {w : World} {l : List El.Nd} (hm : w.ownsMap Try.prog 3 (plainElem (H := Unit) Try.prog 3) m n D) (hmi : El.MapIs D l) (p : Int) (hp : (Lit.int .i64 p).wf = true) :
 ∃ c : Int, (∀ W : World, W.heap = w.heap → (Instr.lookup 57 (.map (some m)) (.int .i64 p) true).run Try.prog W = .ok (.tuple #[.int .i64 c, .bool (El.lastI l p).isSome]) W) ∧ ∀ k, El.lastI l p = some k → c = (k : Int) := by
 have one : ∀ W : World, W.heap = w.heap → ∃ c : Int, (Instr.lookup 57 (.map (some m)) (.int .i64 p) true).run Try.prog W = .ok (.tuple #[.int .i64 c, .bool (El.lastI l p).isSome]) W ∧ D.atKey (.int .i64 p) (.lit (.int .i64 0)) = .lit (.int .i64 c) := by
  intro W hW
  obtain ⟨v, ps, hrun, hv⟩ := (map_at hm (w1 := W) (by rw [hW])).look_ok (Maps.int_keyed Try.underlying3) Try.underlying57 (zeroInt W) (plainElem_int Try.underlying3 (by decide)) (Maps.keyOf_int_mk Try.underlying3 hp)
  obtain ⟨c, rfl, hc, _⟩ := plainElem_int_inv Try.underlying3 hv
  rw [(hmi p hp).1] at hrun
  exact ⟨c, hrun, congrArg Prod.fst hc⟩
 obtain ⟨c, _, hat⟩ := one w rfl
 refine ⟨c, fun W hW => ?_, fun k hk => ?_⟩
 ·obtain ⟨c', hrun, hat'⟩ := one W hW
  rw [hat] at hat'
  injection hat' with h3
  injection h3 with _ h3
  rw [h3]; exact hrun
 ·rw [(hmi p hp).2 k hk] at hat
  injection hat with h3
  injection h3 with _ h3
  exact h3.symm
set_option maxHeartbeats 8000000 in
set_option maxRecDepth 100000 in
theorem element_builder_text.out (B g N : Nat) (l : List El.Nd) (op : List Int) (s : ByteArray) (r : Int) (w : World) (h : BAt w B g N l op) (hG : Glob w) (hop : op.length ≤ 100000) (hs : s.size ≤ 1000000000) (hneg : El.inner op < 0) (hr : r = if El.blank s = true then 0 else 6) :
 Calls Try.prog 31 #[.pointer (some ⟨g, 0, none⟩), .string s] w fun e w' => e = .returned (.int .i64 r) ∧ Below w.heap.size w w' := by
 have CI := Aside0.mk (fun W (hW : Below w.heap.size w W) => element_builder_inner.calls B g N l op W (h.below hW) hop)
 obtain ⟨p, hp⟩ : ∃ p, p = El.inner op := ⟨_, rfl⟩
 rw [← hp] at CI hneg
 have d1 : decide (p < 0) = true := decide_eq_true hneg
 obtain ⟨k, x, hk, hx⟩ := trim_blank s hs
 have HK := Aside0.mk hk
 have HG := Aside0.mk hG
 have HR := Lib.hid hr
 obtain ⟨b, hb⟩ : ∃ b, b = El.blank s := ⟨_, rfl⟩
 rw [← hb] at hx
 have HBL := Lib.hid hb
 clear h hp hk hG hr hb
 go_enter Try.func31, Try.ntmps31
 cases b with
 | true =>
  go_wp2_with (first | (go_at_call 46; (with_reducible refine (CI.out _ (Below.refl _ _)).mono ?_); rintro e w1 ⟨rfl, ⟨nd1, rfl⟩⟩) | (go_at_call 47; (with_reducible refine (chars_Trim.calls k s x _ (Glob.drawn HG.out ⟨_, rfl⟩) HK.out).mono ?_); rintro e w2 ⟨rfl, ⟨nd2, rfl⟩⟩))
  go_ret
  exact ⟨by rw [HR.out, ← HBL.out, if_pos rfl]; rfl, pw_below_drewN (Below.refl _ _) _⟩
 | false =>
  go_wp2_with (first | (go_at_call 46; (with_reducible refine (CI.out _ (Below.refl _ _)).mono ?_); rintro e w1 ⟨rfl, ⟨nd1, rfl⟩⟩) | (go_at_call 47; (with_reducible refine (chars_Trim.calls k s x _ (Glob.drawn HG.out ⟨_, rfl⟩) HK.out).mono ?_); rintro e w2 ⟨rfl, ⟨nd2, rfl⟩⟩))
  go_ret
  exact ⟨by rw [HR.out, ← HBL.out]; rfl, pw_below_drewN (Below.refl _ _) _⟩
set_option maxHeartbeats 8000000 in
set_option maxRecDepth 100000 in
theorem element_builder_text.same (B g N : Nat) (l : List El.Nd) (op : List Int) (s : ByteArray) (w : World) (h : BAt w B g N l op) (hop : op.length ≤ 100000) (h0 : 0 ≤ El.inner op) (hs : s = El.nul) :
 Calls Try.prog 31 #[.pointer (some ⟨g, 0, none⟩), .string s] w fun e w' => e = .returned (.int .i64 0) ∧ Below w.heap.size w w' := by
 have CI := Aside0.mk (fun W (hW : Below w.heap.size w W) => element_builder_inner.calls B g N l op W (h.below hW) hop)
 obtain ⟨p, hp⟩ : ∃ p, p = El.inner op := ⟨_, rfl⟩
 rw [← hp] at CI h0
 have d1 : decide (p < 0) = false := decide_eq_false (by omega)
 have s1 := size_nul s
 rw [decide_eq_true hs] at s1
 clear h hp hs
 go_enter Try.func31, Try.ntmps31
 go_wp2_with (first | (go_at_call 46; (with_reducible refine (CI.out _ (Below.refl _ _)).mono ?_); rintro e w1 ⟨rfl, ⟨nd1, rfl⟩⟩))
 go_ret
 exact ⟨rfl, pw_below_drewN (Below.refl _ _) _⟩
set_option maxHeartbeats 8000000 in
set_option maxRecDepth 100000 in
theorem element_builder_text.putfull (B g N : Nat) (l : List El.Nd) (op : List Int) (s : ByteArray) (w : World) (h : BAt w B g N l op) (hop : op.length ≤ 100000) (h0 : 0 ≤ El.inner op) (h1 : El.inner op < (l.length : Int)) (hs : s ≠ El.nul) (hnew : ∀ k, El.lastI l (El.inner op) = some k → ¬ (rd_T29 l (k : Int)).f1 = El.nul) (hl : 2000 ≤ l.length) (hl2 : l.length ≤ 100000) :
 Calls Try.prog 31 #[.pointer (some ⟨g, 0, none⟩), .string s] w fun e w' => e = .returned (.int .i64 3) ∧ Below w.heap.size w w' := by
 have H := Aside0.mk h
 have CI := Aside0.mk (fun W (hW : Below w.heap.size w W) => element_builder_inner.calls B g N l op W (h.below hW) hop)
 obtain ⟨v1, v2, m, n, D, g1, g2, g3, g4, g5, g6, _⟩ := h
 obtain ⟨A1, c1, rfl⟩ := Kd.S_slice g2
 obtain ⟨p, hp⟩ : ∃ p, p = El.inner op := ⟨_, rfl⟩
 have x0 := (blk_cell g1 0).trans rfl
 have x2 := (blk_cell g1 2).trans rfl
 have G1 := Aside0.mk g1
 have G2 := Aside0.mk g2
 have HP := Lib.hid hp
 rw [← hp] at CI h0 h1 hnew
 obtain ⟨c, hrun, hck⟩ := look_told g4 g6 p (int_wf p (by omega) (by omega))
 have hlk : ∀ j, (Instr.lookup 57 (.map (some m)) (.int .i64 p) true).run Try.prog (w.drewN j) = .ok (.tuple #[.int .i64 c, .bool (El.lastI l p).isSome]) (w.drewN j) := fun j => hrun _ rfl
 have d1 : decide (p < 0) = false := decide_eq_false (by omega)
 have s1 := size_nul s
 rw [decide_eq_false hs] at s1
 have hu := Try.underlying59
 have hu2 := Try.underlying29
 clear g1 g2 g3 g4 g5 g6 hp hs hrun
 go_enter Try.func31, Try.ntmps31
 cases hk : El.lastI l p with
 | none =>
  (try rw [hk] at hlk)
  have hlk : ∀ j, (Instr.lookup 57 (.map (some m)) (.int .i64 p) true).run Try.prog (w.drewN j) = .ok (.tuple #[.int .i64 c, .bool false]) (w.drewN j) := fun j => hlk j
  clear hck hnew
  go_wp2_with (first | (go_at_call 46; (with_reducible refine (CI.out _ (Below.refl _ _)).mono ?_); rintro e w1 ⟨rfl, ⟨nd1, rfl⟩⟩) | (go_at_call 44; (with_reducible refine (element_builder_put.full B g N l op (⟨0, (⟨#[]⟩ : ByteArray), s, []⟩ : El.Nd) _ _ (H.out.below (pw_below_drewN (Below.refl _ _) _)) hl hl2).mono ?_); rintro e w2 ⟨rfl, hb2⟩; have B2 := Aside0.mk (below_step (pw_below_drewN (Below.refl _ _) _) hb2); clear hb2))
  go_ret
  exact ⟨rfl, B2.out⟩
 | some k =>
  (try rw [hk] at hlk)
  have hc := hck k hk
  subst hc
  have hkl := El.lastI_lt l p k hk
  obtain ⟨ad, A3, c3, e_, q0, q1, _⟩ := at_T29 (Kd.S_reads' G2.out).2.2 (k : Int) (by omega) (by omega)
  cases e_
  simp only [Int.toNat_natCast] at q0 q1
  have s2 := size_nul (rd_T29 l (k : Int)).f1
  rw [decide_eq_false (hnew k hk)] at s2
  have p1 := eq_true (show (0 : Int) ≤ (k : Int) by omega)
  have p2 := eq_true (show (k : Int) < (l.length : Int) by omega)
  have p3 := eq_true (show k < l.length by omega)
  have hlk : ∀ j, (Instr.lookup 57 (.map (some m)) (.int .i64 p) true).run Try.prog (w.drewN j) = .ok (.tuple #[.int .i64 (k : Int), .bool true]) (w.drewN j) := fun j => hlk j
  clear hck hnew hk hkl
  go_wp2_with (first | (go_at_call 46; (with_reducible refine (CI.out _ (Below.refl _ _)).mono ?_); rintro e w1 ⟨rfl, ⟨nd1, rfl⟩⟩) | (go_at_call 44; (with_reducible refine (element_builder_put.full B g N l op (⟨0, (⟨#[]⟩ : ByteArray), s, []⟩ : El.Nd) _ _ (H.out.below (pw_below_drewN (Below.refl _ _) _)) hl hl2).mono ?_); rintro e w2 ⟨rfl, hb2⟩; have B2 := Aside0.mk (below_step (pw_below_drewN (Below.refl _ _) _) hb2); clear hb2))
  go_ret
  exact ⟨rfl, B2.out⟩
set_option maxHeartbeats 8000000 in
set_option maxRecDepth 100000 in
theorem element_builder_text.putroom (B g N : Nat) (l : List El.Nd) (op : List Int) (s : ByteArray) (w : World) (h : BAt w B g N l op) (hop : op.length ≤ 100000) (h0 : 0 ≤ El.inner op) (h1 : El.inner op < (l.length : Int)) (hs : s ≠ El.nul) (hnew : ∀ k, El.lastI l (El.inner op) = some k → ¬ (rd_T29 l (k : Int)).f1 = El.nul) (hl : l.length < 2000) (hN : N ≤ w.heap.size) (hin : ∀ i ∈ op, 0 ≤ i ∧ i < (l.length : Int)) :
 Calls Try.prog 31 #[.pointer (some ⟨g, 0, none⟩), .string s] w fun e w' => e = .returned (.int .i64 0) ∧ BAt w' B g w'.heap.size (l ++ [⟨El.inner op, El.nul, s, []⟩]) op ∧ Below B w w' := by
 have hN' : ∀ j, N ≤ (w.drewN j).heap.size := fun _ => hN
 have H := Aside0.mk h
 have CI := Aside0.mk (fun W (hW : Below w.heap.size w W) => element_builder_inner.calls B g N l op W (h.below hW) hop)
 obtain ⟨v1, v2, m, n, D, g1, g2, g3, g4, g5, g6, _⟩ := h
 obtain ⟨A1, c1, rfl⟩ := Kd.S_slice g2
 obtain ⟨p, hp⟩ : ∃ p, p = El.inner op := ⟨_, rfl⟩
 have x0 := (blk_cell g1 0).trans rfl
 have x2 := (blk_cell g1 2).trans rfl
 have G1 := Aside0.mk g1
 have G2 := Aside0.mk g2
 have HP := Lib.hid hp
 rw [← hp] at CI h0 h1 hnew
 obtain ⟨c, hrun, hck⟩ := look_told g4 g6 p (int_wf p (by omega) (by omega))
 have hlk : ∀ j, (Instr.lookup 57 (.map (some m)) (.int .i64 p) true).run Try.prog (w.drewN j) = .ok (.tuple #[.int .i64 c, .bool (El.lastI l p).isSome]) (w.drewN j) := fun j => hrun _ rfl
 have d1 : decide (p < 0) = false := decide_eq_false (by omega)
 have s1 := size_nul s
 rw [decide_eq_false hs] at s1
 have hu := Try.underlying59
 have hu2 := Try.underlying29
 clear g1 g2 g3 g4 g5 g6 hp hs hrun
 go_enter Try.func31, Try.ntmps31
 cases hk : El.lastI l p with
 | none =>
  (try rw [hk] at hlk)
  have hlk : ∀ j, (Instr.lookup 57 (.map (some m)) (.int .i64 p) true).run Try.prog (w.drewN j) = .ok (.tuple #[.int .i64 c, .bool false]) (w.drewN j) := fun j => hlk j
  clear hck hnew
  go_wp2_with (first | (go_at_call 46; (with_reducible refine (CI.out _ (Below.refl _ _)).mono ?_); rintro e w1 ⟨rfl, ⟨nd1, rfl⟩⟩) | (go_at_call 44; (with_reducible refine (element_builder_put.room B g N l op (⟨0, (⟨#[]⟩ : ByteArray), s, []⟩ : El.Nd) (.slice none 0 0) _ (H.out.below (pw_below_drewN (Below.refl _ _) _)) (hN' _) (Kd.R_nil _ _ _ _ _) hl hop hin).mono ?_); rintro e w2 ⟨rfl, hbt, hb2, _⟩; have B2 := Aside0.mk (show Below B w w2 from (pw_below_drewN (Below.refl B w) _).trans hb2); have T2 := Aside0.mk hbt; clear hb2 hbt))
  go_ret
  exact ⟨rfl, T2.out, B2.out⟩
 | some k =>
  (try rw [hk] at hlk)
  have hc := hck k hk
  subst hc
  have hkl := El.lastI_lt l p k hk
  obtain ⟨ad, A3, c3, e_, q0, q1, _⟩ := at_T29 (Kd.S_reads' G2.out).2.2 (k : Int) (by omega) (by omega)
  cases e_
  simp only [Int.toNat_natCast] at q0 q1
  have s2 := size_nul (rd_T29 l (k : Int)).f1
  rw [decide_eq_false (hnew k hk)] at s2
  have p1 := eq_true (show (0 : Int) ≤ (k : Int) by omega)
  have p2 := eq_true (show (k : Int) < (l.length : Int) by omega)
  have p3 := eq_true (show k < l.length by omega)
  have hlk : ∀ j, (Instr.lookup 57 (.map (some m)) (.int .i64 p) true).run Try.prog (w.drewN j) = .ok (.tuple #[.int .i64 (k : Int), .bool true]) (w.drewN j) := fun j => hlk j
  clear hck hnew hk hkl
  go_wp2_with (first | (go_at_call 46; (with_reducible refine (CI.out _ (Below.refl _ _)).mono ?_); rintro e w1 ⟨rfl, ⟨nd1, rfl⟩⟩) | (go_at_call 44; (with_reducible refine (element_builder_put.room B g N l op (⟨0, (⟨#[]⟩ : ByteArray), s, []⟩ : El.Nd) (.slice none 0 0) _ (H.out.below (pw_below_drewN (Below.refl _ _) _)) (hN' _) (Kd.R_nil _ _ _ _ _) hl hop hin).mono ?_); rintro e w2 ⟨rfl, hbt, hb2, _⟩; have B2 := Aside0.mk (show Below B w w2 from (pw_below_drewN (Below.refl B w) _).trans hb2); have T2 := Aside0.mk hbt; clear hb2 hbt))
  go_ret
  exact ⟨rfl, T2.out, B2.out⟩
set_option maxHeartbeats 8000000 in
set_option maxRecDepth 100000 in
theorem element_builder_text.add (B g N : Nat) (l : List El.Nd) (op : List Int) (s : ByteArray) (k : Nat) (w : World) (h : BAt w B g N l op) (hop : op.length ≤ 100000) (h0 : 0 ≤ El.inner op) (h1 : El.inner op < (l.length : Int)) (hl2 : l.length ≤ 100000) (hs : s ≠ El.nul) (hk : El.lastI l (El.inner op) = some k) (hname : (rd_T29 l (k : Int)).f1 = El.nul) (hsz : (rd_T29 l (k : Int)).f2.size + s.size ≤ 1000000000000) :
 Calls Try.prog 31 #[.pointer (some ⟨g, 0, none⟩), .string s] w fun e w' => e = .returned (.int .i64 0) ∧ BAt w' B g w'.heap.size (l.set k { rd_T29 l (k : Int) with f2 := (rd_T29 l (k : Int)).f2 ++ s }) op ∧ Below B w w' := by
 have hkl := El.lastI_lt l _ k hk
 have CI := Aside0.mk (fun W (hW : Below w.heap.size w W) => element_builder_inner.calls B g N l op W (h.below hW) hop)
 obtain ⟨v1, v2, m, n, D, g1, g2, g3, g4, g5, g6, g7, g8, g9⟩ := h
 obtain ⟨gn, c1, rfl, hgn1, hgn2, _⟩ := Kd.S_form g2 (by omega)
 obtain ⟨p, hp⟩ : ∃ p, p = El.inner op := ⟨_, rfl⟩
 obtain ⟨x, hx⟩ : ∃ x, x = rd_T29 l (k : Int) := ⟨_, rfl⟩
 rw [← hx] at hname hsz ⊢
 rw [← hp] at CI h0 h1 hk
 have x0 := (blk_cell g1 0).trans rfl
 have x2 := (blk_cell g1 2).trans rfl
 obtain ⟨c, hrun, hck⟩ := look_told g4 g6 p (int_wf p (by omega) (by omega))
 have hc := hck k hk
 subst hc
 rw [hk] at hrun
 have hlk : ∀ j, (Instr.lookup 57 (.map (some m)) (.int .i64 p) true).run Try.prog (w.drewN j) = .ok (.tuple #[.int .i64 (k : Int), .bool true]) (w.drewN j) := fun j => hrun _ rfl
 obtain ⟨oki, cc, hcl, hM, hcc, hfr, hoki, hH⟩ := Kd.S_elem g2 El.zn (k : Int) (by omega) (by omega)
 have hx' : l.getD ((k : Int)).toNat El.zn = x := hx.symm
 rw [hx'] at hM
 obtain ⟨v3, rfl, hv3⟩ := k29_openM hM
 have q1 : w.cell? ⟨gn, k * 4 + 1, none⟩ = some (.string x.f1) := hcc 1 _ rfl
 have q2 : w.cell? ⟨gn, k * 4 + 2, none⟩ = some (.string x.f2) := hcc 2 _ rfl
 have qf : w.frozen? ⟨gn, k * 4 + 2, none⟩ = false := hfr 2
 have d1 : decide (p < 0) = false := decide_eq_false (by omega)
 have s1 := size_nul s
 rw [decide_eq_false hs] at s1
 have s2 := size_nul x.f1
 rw [decide_eq_true hname] at s2
 have p1 := eq_true (show (0 : Int) ≤ (k : Int) by omega)
 have p2 := eq_true (show (k : Int) < (l.length : Int) by omega)
 have p3 := eq_true (show k < l.length by omega)
 have z1 := eq_false (show ¬ 9223372036854775807 < x.f2.size + s.size by omega)
 have z2 := eq_true (show x.f2.size + s.size ≤ 9223372036854775807 by omega)
 have G1 := Aside0.mk g1
 have G2 := Aside0.mk g2
 have G3 := Aside0.mk g3
 have G4 := Aside0.mk g4
 have HH := Lib.hid (show n ≤ l.length ∧ El.MapIs D l ∧ B ≤ g ∧ B ≤ m ∧ 0 < B from ⟨g5, g6, g7, g8, g9⟩)
 have HX := Lib.hid (show x = rd_T29 l (k : Int) ∧ k < l.length ∧ B ≤ gn from ⟨hx, hkl, hgn1⟩)
 have HM := Aside0.mk (And.intro hH hv3)
 have HOK := Lib.hid hoki
 have hu := Try.underlying59
 have hu2 := Try.underlying29
 clear g1 g2 g3 g4 g5 g6 g7 g8 g9 hp hs hk hname hsz hx hx' hM hcc hfr hoki hH hv3 hrun hck hkl hcl hgn1 hgn2
 go_enter Try.func31, Try.ntmps31
 go_wp2_with (first | (go_at_call 46; (with_reducible refine (CI.out _ (Below.refl _ _)).mono ?_); rintro e w1 ⟨rfl, ⟨nd1, rfl⟩⟩))
 go_ret
 obtain ⟨W, hW⟩ : ∃ W, W = w.drewN nd1 := ⟨_, rfl⟩
 rw [← hW]
 have k1 : W.heap[g]? = some (.cells #[.slice (some ⟨gn, 0, none⟩) l.length c1, v2, .map (some m)] 59 (0, 0)) := by rw [hW]; exact G1.out
 have k2 : Kd.S k29 29 W B (fun k => k < N) (.slice (some ⟨gn, 0, none⟩) l.length c1) l := by rw [hW]; exact Kd.S_drewN G2.out _
 have k3 : Kd.R (Kd.int .i64) 3 W B (fun _ => True) v2 op := by rw [hW]; exact Kd.R_drewN G3.out _
 have k4 : W.ownsMap Try.prog 3 (plainElem (H := Unit) Try.prog 3) m n D := by rw [hW]; exact map_at G4.out rfl
 have kH : Kd.H k29 29 W B (fun k => k < N) (.slice (some ⟨gn, 0, none⟩) l.length c1) l (k : Int) oki [.int .i64 x.f0, .string x.f1, .string x.f2, v3] := by rw [hW]; exact Kd.H_drewN HM.out.1 _
 have kv : Kd.R k68 68 W B oki v3 x.f3 := by rw [hW]; exact Kd.R_drewN HM.out.2 _
 have kB : Below B w W := by rw [hW]; exact pw_below_drewN (Below.refl _ _) _
 clear hW
 have hkl := HX.out.2.1
 obtain ⟨r1, r2⟩ := Kd.S_seg (okg := fun _ => False) (okp := oki) (Kd.H_mono (ok' := fun k => k < N ∧ ¬ False) kH (fun k hk => ⟨hk, fun h => h⟩)) (by omega) (by omega) (seg := [.string (x.f2 ++ s)]) (j := 2) (by show 2 + 1 ≤ 4; omega) (x' := { x with f2 := x.f2 ++ s }) (k29_mkM _ _ _ { x with f2 := x.f2 ++ s } kv) (fun k hk => .inl hk) (fun _ h => h.elim)
 have ec : W.setCells gn (((k : Int)).toNat * k29.sz + 2) [.string (x.f2 ++ s)] = W.setCell ⟨gn, k * 4 + 2, none⟩ (.string (x.f2 ++ s)) := rfl
 rw [ec] at r1 r2
 have hty := Kd.S_typed k2
 have P1 : (W.setCell ⟨gn, k * 4 + 2, none⟩ (.string (x.f2 ++ s))).heap[g]? = some (.cells #[.slice (some ⟨gn, 0, none⟩) l.length c1, v2, .map (some m)] 59 (0, 0)) := blk_grown k1 r2 (Kd.S_ne k2 k1 (by decide))
 have P3 := Kd.R_over' (v := .slice (some ⟨gn, 0, none⟩) l.length c1) k3 hty (by decide) r2
 have P4 := World.ownsMap.kept k4 r2 (map_off k4 k2)
 have PB := kB.setCell (p := ⟨gn, k * 4 + 2, none⟩) HX.out.2.2 (.string (x.f2 ++ s))
 have hH := HH.out
 refine ⟨rfl, ⟨.slice (some ⟨gn, 0, none⟩) l.length c1, v2, m, n, D, P1, Kd.S_mono (Kd.S_bound r1) (fun k hk => hk.2.2.1), P3, P4, by rw [List.length_set]; exact hH.1, ?_, hH.2.2.1, hH.2.2.2.1, hH.2.2.2.2⟩, PB⟩
 refine El.MapIs.set hH.2.1 k _ (fun y hy => ?_)
 show x.f0 = y.f0
 rw [HX.out.1]
 unfold rd_T29
 rw [Int.toNat_natCast, List.getD_eq_getElem?_getD, hy]
 rfl


end Go.Proofs.Ytkoogebfdinbnaa.Q
