/- Texts put together: what functions of the program compute, and plain words about them. -/
import Derived.Test.YtkoogebfdinbnaaLawElementKidsM1
import Derived.Test.YtkoogebfdinbnaaLawElementKidsM2
import Derived.Test.YtkoogebfdinbnaaLawElementKidsM3
import Derived.Test.YtkoogebfdinbnaaProg
import Derived.Test.YtkoogebfdinbnaaRows
import Derived.ChangeArms
import Derived.Deep.DeepHandedRow
import Derived.Shelf.Vars
import Derived.Below
import Derived.Deep.Draws
import Derived.Deep.AppendLies
import Derived.Maps.AppendAt
import Derived.OwnWalk
import Derived.Laws.BytesArg
import Derived.Laws.MakeOwn
import Derived.Laws.OwnMore
import Derived.Deep.OwnRows
import Derived.Tactics
import Derived.Lib.ConvBytes
import Derived.Laws.Slices
import Derived.WalkKit
import Derived.KernelRfl
import Derived.RowKit3
import Derived.Deep.LoopGhost
import Derived.Deep.QuietTactic
import Derived.BigQuiet
import Derived.WideLaws
import Derived.Deep.DeepCutAuto
import Derived.Deep.CutBlock
import Derived.Deep.RegionHeld3
import Derived.Laws.Rows
import Derived.Lib.AppendStr
import Derived.ArgAppend
import Derived.Laws.IdiomCopy
import Derived.OrdersHeld
import Derived.Laws.BitsLemmas
import Derived.RowKit

-- Printed by this session's wip/np.py over the kit's print program. Not trusted: Lean checks it.
namespace Go.Proofs.Ytkoogebfdinbnaa.Q
open Go.RowKit Go.Proofs.YtkoogebfdinbnaaW.PrintWords Go.Proofs.YtkoogebfdinbnaaW.PrintLast Go.Proofs.YtkoogebfdinbnaaW.Own Go.Proofs.YtkoogebfdinbnaaW.PrintMore
attribute [local go_sem] max2_int min2_int max_two min_two max_three min_three max_four min_four
set_option linter.unusedVariables false
set_option linter.unusedSimpArgs false

/-! ### newellaw03_ElementKids: function 6 -/
mutual
def newellaw03_ElementKids.l0 : Nat → List (S29) → Int → Int → Option (Bool)
 | 0, _, _, _ => none
 | k + 1, x3, x5, x6 => if x6 < (x3.length : Int) then ((element_Kids.f k x3 x6).bind fun t248 => (newellaw03_ElementKids.l1 k x3 (wrap64 (x5 + (t248.length : Int))) x6 t248 0)) else ((newellaw03_awake.f k).bind fun t259 => (if t259 = true then (if x5 = (wrap64 ((x3.length : Int) - 1)) then ((element_Kids.f k x3 (-1)).bind fun t260 => (if (t260.length : Int) = 0 then ((element_Kids.f k x3 (x3.length : Int)).bind fun t263 => (if (t263.length : Int) = 0 then ((element_Inner.f k x3 (-1)).bind fun t266 => (some (t266.toList == ([] : List UInt8)))) else (some false))) else (some false))) else (some false)) else (some false)))
def newellaw03_ElementKids.l1 : Nat → List (S29) → Int → Int → List Int → Int → Option (Bool)
 | 0, _, _, _, _, _ => none
 | k + 1, x3, x5, x6, x7, x8 => if x8 < (x7.length : Int) then (if 0 ≤ x8 then (if (rd x7 x8) ≤ x6 then (some false) else (if (rd x7 x8) ≥ (x3.length : Int) then (some false) else (if 0 ≤ (rd x7 x8) then (if (rd x7 x8) < (x3.length : Int) then (if ((rd_T29 x3 (rd x7 x8)).f0) = x6 then (if x8 > 0 then (if 0 ≤ (wrap64 (x8 - 1)) then (if (wrap64 (x8 - 1)) < (x7.length : Int) then (if (rd x7 x8) ≤ (rd x7 (wrap64 (x8 - 1))) then (some false) else (if 0 ≤ x6 then (if x6 < (x3.length : Int) then (if ((rd_T29 x3 x6).f1).toList = ([] : List UInt8) then (some false) else (newellaw03_ElementKids.l1 k x3 x5 x6 x7 (wrap64 (x8 + 1)))) else (none)) else (none))) else (none)) else (none)) else (if 0 ≤ x6 then (if x6 < (x3.length : Int) then (if ((rd_T29 x3 x6).f1).toList = ([] : List UInt8) then (some false) else (newellaw03_ElementKids.l1 k x3 x5 x6 x7 (wrap64 (x8 + 1)))) else (none)) else (none))) else (some false)) else (none)) else (none)))) else (none)) else (newellaw03_ElementKids.l0 k x3 x5 (wrap64 (x6 + 1)))
end
def newellaw03_ElementKids.f (k : Nat) (a0 : ByteArray) : Option (Bool) := if (a0.size : Int) > 2000 then ((newellaw03_awake.f k).bind fun t242 => (some t242)) else ((element_Parse.f a0).bind fun bt243 => (if bt243.2 = 0 then (newellaw03_ElementKids.l0 k bt243.1 0 0) else ((newellaw03_awake.f k).bind fun t247 => (some t247))))
theorem newellaw03_ElementKids.mono_l : ∀ k, (∀ y0 y1 y2, LeO (newellaw03_ElementKids.l0 k y0 y1 y2) (newellaw03_ElementKids.l0 (k + 1) y0 y1 y2)) ∧ (∀ y0 y1 y2 y3 y4, LeO (newellaw03_ElementKids.l1 k y0 y1 y2 y3 y4) (newellaw03_ElementKids.l1 (k + 1) y0 y1 y2 y3 y4))
 | 0 => ⟨fun _ _ _ r h => by simp [newellaw03_ElementKids.l0] at h, fun _ _ _ _ _ r h => by simp [newellaw03_ElementKids.l1] at h⟩
 | k + 1 => by
  obtain ⟨ih0, ih1⟩ := newellaw03_ElementKids.mono_l k
  refine ⟨?_, ?_⟩
  ·intro y0 y1 y2
   unfold newellaw03_ElementKids.l0
   repeat' first
   | (with_reducible exact ih0 _ _ _)
   | (with_reducible exact ih1 _ _ _ _ _)
   | (with_reducible exact element_Inner.mono _ _ _)
   | (with_reducible exact element_Kids.mono _ _ _)
   | (with_reducible exact newellaw03_awake.mono _)
   | (with_reducible exact LeO.refl _)
   | (with_reducible exact LeO.none _)
   | (with_reducible refine LeO.ite ?_ ?_)
   | (with_reducible refine LeO.bind ?_ (fun _ => ?_))
   | exact ih0 _ _ _
   | exact ih1 _ _ _ _ _
   | exact element_Inner.mono _ _ _
   | exact element_Kids.mono _ _ _
   | exact newellaw03_awake.mono _
   | exact LeO.none _
   | refine LeO.ite ?_ ?_
   | refine LeO.bind ?_ (fun _ => ?_)
  ·intro y0 y1 y2 y3 y4
   unfold newellaw03_ElementKids.l1
   repeat' first
   | (with_reducible exact ih0 _ _ _)
   | (with_reducible exact ih1 _ _ _ _ _)
   | (with_reducible exact element_Inner.mono _ _ _)
   | (with_reducible exact element_Kids.mono _ _ _)
   | (with_reducible exact newellaw03_awake.mono _)
   | (with_reducible exact LeO.refl _)
   | (with_reducible exact LeO.none _)
   | (with_reducible refine LeO.ite ?_ ?_)
   | (with_reducible refine LeO.bind ?_ (fun _ => ?_))
   | exact ih0 _ _ _
   | exact ih1 _ _ _ _ _
   | exact element_Inner.mono _ _ _
   | exact element_Kids.mono _ _ _
   | exact newellaw03_awake.mono _
   | exact LeO.none _
   | refine LeO.ite ?_ ?_
   | refine LeO.bind ?_ (fun _ => ?_)
theorem newellaw03_ElementKids.mono : ∀ a0 k, LeO (newellaw03_ElementKids.f k a0) (newellaw03_ElementKids.f (k + 1) a0) := by
 intro a0 k
 obtain ⟨ih0, ih1⟩ := newellaw03_ElementKids.mono_l k
 unfold newellaw03_ElementKids.f
 repeat' first
  | (with_reducible exact ih0 _ _ _)
  | (with_reducible exact ih1 _ _ _ _ _)
  | (with_reducible exact element_Inner.mono _ _ _)
  | (with_reducible exact element_Kids.mono _ _ _)
  | (with_reducible exact newellaw03_awake.mono _)
  | (with_reducible exact LeO.refl _)
  | (with_reducible exact LeO.none _)
  | (with_reducible refine LeO.ite ?_ ?_)
  | (with_reducible refine LeO.bind ?_ (fun _ => ?_))
  | exact ih0 _ _ _
  | exact ih1 _ _ _ _ _
  | exact element_Inner.mono _ _ _
  | exact element_Kids.mono _ _ _
  | exact newellaw03_awake.mono _
  | exact LeO.none _
  | refine LeO.ite ?_ ?_
  | refine LeO.bind ?_ (fun _ => ?_)
set_option maxHeartbeats 8000000 in
set_option maxRecDepth 100000 in
theorem newellaw03_ElementKids.calls (k : Nat) (a0 : ByteArray) (r : Bool) (w : World) (hG : Glob w) (h : newellaw03_ElementKids.f k a0 = some r) (hr_ : r = true) :
 Calls Try.prog 6 #[.string a0] w fun e w' => e = .returned (.bool r) ∧ Below w.heap.size w w' := by
 have HG := Aside0.mk hG
 clear hG
 have HB := Aside0.mk (Below.refl w.heap.size w)
 have H : (if (a0.size : Int) > 2000 then ((newellaw03_awake.f k).bind fun t242 => (some t242)) else ((element_Parse.f a0).bind fun bt243 => (if bt243.2 = 0 then (newellaw03_ElementKids.l0 k bt243.1 0 0) else ((newellaw03_awake.f k).bind fun t247 => (some t247))))) = some r := h
 clear h
 by_cases c2 : (a0.size : Int) > 2000
 ·rw [if_pos c2] at H
  have c2b0 : decide (2000 < (a0.size : Int)) = true := decide_eq_true c2
  have c2b1 : decide (2000 < a0.size) = true := decide_eq_true (by omega)
  clear c2
  replace H := Option.bind_eq_some_iff.mp H
  obtain ⟨t242, A30, H⟩ := H
  replace H : (some t242) = some r := H
  have A3 := Aside0.mk A30
  clear A30
  obtain rfl := Option.some.inj H
  go_enter Try.func6, Try.ntmps6
  go_wp2_with (first | (go_at_call 8; (with_reducible refine (newellaw03_awake.calls k  t242 _ ?side1 A3.out).mono ?_); (case side1 => exact Glob.step HG.out (by repeat (first | (with_reducible first | exact HB.out | apply below_alloc | apply pw_below_drewN | apply below_drew1) | exact HB.out))); rintro e w4 ⟨rfl, hb⟩; have n0_ := Aside0.mk (below_step (by repeat (first | (with_reducible first | exact HB.out | apply below_alloc | apply pw_below_drewN | apply below_drew1) | exact HB.out)) hb); clear HB; have HB := n0_; clear n0_; (try clear hb); (try clear hb2); (try clear hk); (try clear hi)))
  repeat (go_quiet (first | (go_at_call 8; (with_reducible refine (newellaw03_awake.calls k  t242 _ ?side1 A3.out).mono ?_); (case side1 => exact Glob.step HG.out (by repeat (first | (with_reducible first | exact HB.out | apply below_alloc | apply pw_below_drewN | apply below_drew1) | exact HB.out))); rintro e w4 ⟨rfl, hb⟩; have n0_ := Aside0.mk (below_step (by repeat (first | (with_reducible first | exact HB.out | apply below_alloc | apply pw_below_drewN | apply below_drew1) | exact HB.out)) hb); clear HB; have HB := n0_; clear n0_; (try clear hb); (try clear hb2); (try clear hk); (try clear hi))); try go_wp2_with (first | (go_at_call 8; (with_reducible refine (newellaw03_awake.calls k  t242 _ ?side1 A3.out).mono ?_); (case side1 => exact Glob.step HG.out (by repeat (first | (with_reducible first | exact HB.out | apply below_alloc | apply pw_below_drewN | apply below_drew1) | exact HB.out))); rintro e w4 ⟨rfl, hb⟩; have n0_ := Aside0.mk (below_step (by repeat (first | (with_reducible first | exact HB.out | apply below_alloc | apply pw_below_drewN | apply below_drew1) | exact HB.out)) hb); clear HB; have HB := n0_; clear n0_; (try clear hb); (try clear hb2); (try clear hk); (try clear hi))))
  go_ret
  exact ⟨by first | rfl | (simp [errW_none, errW_some] <;> rfl) | (simp [*, errW_none, errW_some] <;> rfl), by repeat (first | (with_reducible first | exact HB.out | apply below_alloc | apply pw_below_drewN | apply below_drew1) | exact HB.out)⟩
 ·rw [if_neg c2] at H
  have c2b0 : decide (2000 < (a0.size : Int)) = false := decide_eq_false c2
  have c2b1 : decide (2000 < a0.size) = false := decide_eq_false (by omega)
  clear c2
  replace H := Option.bind_eq_some_iff.mp H
  obtain ⟨⟨t243, t244⟩, A50, H⟩ := H
  replace H : (if t244 = 0 then (newellaw03_ElementKids.l0 k t243 0 0) else ((newellaw03_awake.f k).bind fun t247 => (some t247))) = some r := H
  have A5 := Aside0.mk A50
  clear A50
  by_cases c6 : t244 = 0
  ·rw [if_pos c6] at H
   have c6b0 : (t244 == 0) = true := beq_iff_eq.mpr c6
   have c6b1 : (t244 != 0) = false := bne_eq_false_iff_eq.mpr c6
   clear c6
   have H' := Aside0.mk H
   clear H
   go_enter Try.func6, Try.ntmps6
   go_wp2_with (first | (go_at_call 9; (with_reducible refine (element_Parse.calls a0 t243 t244 _ ?side1 A5.out).mono ?_); (case side1 => exact Glob.step HG.out (by repeat (first | (with_reducible first | exact HB.out | apply below_alloc | apply pw_below_drewN | apply below_drew1) | exact HB.out))); rintro e w7 ⟨v245, rfl, ho0, hb⟩; have n0_ := Aside0.mk (Kd.S_lower ho0 (below_size (by repeat (first | (with_reducible first | exact HB.out | apply below_alloc | apply pw_below_drewN | apply below_drew1) | exact HB.out)))); have n1_ := Aside0.mk (below_step (by repeat (first | (with_reducible first | exact HB.out | apply below_alloc | apply pw_below_drewN | apply below_drew1) | exact HB.out)) hb); clear HB; have HO246 := n0_; have HB := n1_; clear n0_ n1_; (try clear hb); (try clear hb2); (try clear hk); (try clear hi); (try clear ho0)))
   repeat (go_quiet (first | (go_at_call 9; (with_reducible refine (element_Parse.calls a0 t243 t244 _ ?side1 A5.out).mono ?_); (case side1 => exact Glob.step HG.out (by repeat (first | (with_reducible first | exact HB.out | apply below_alloc | apply pw_below_drewN | apply below_drew1) | exact HB.out))); rintro e w7 ⟨v245, rfl, ho0, hb⟩; have n0_ := Aside0.mk (Kd.S_lower ho0 (below_size (by repeat (first | (with_reducible first | exact HB.out | apply below_alloc | apply pw_below_drewN | apply below_drew1) | exact HB.out)))); have n1_ := Aside0.mk (below_step (by repeat (first | (with_reducible first | exact HB.out | apply below_alloc | apply pw_below_drewN | apply below_drew1) | exact HB.out)) hb); clear HB; have HO246 := n0_; have HB := n1_; clear n0_ n1_; (try clear hb); (try clear hb2); (try clear hk); (try clear hi); (try clear ho0))); try go_wp2_with (first | (go_at_call 9; (with_reducible refine (element_Parse.calls a0 t243 t244 _ ?side1 A5.out).mono ?_); (case side1 => exact Glob.step HG.out (by repeat (first | (with_reducible first | exact HB.out | apply below_alloc | apply pw_below_drewN | apply below_drew1) | exact HB.out))); rintro e w7 ⟨v245, rfl, ho0, hb⟩; have n0_ := Aside0.mk (Kd.S_lower ho0 (below_size (by repeat (first | (with_reducible first | exact HB.out | apply below_alloc | apply pw_below_drewN | apply below_drew1) | exact HB.out)))); have n1_ := Aside0.mk (below_step (by repeat (first | (with_reducible first | exact HB.out | apply below_alloc | apply pw_below_drewN | apply below_drew1) | exact HB.out)) hb); clear HB; have HO246 := n0_; have HB := n1_; clear n0_ n1_; (try clear hb); (try clear hb2); (try clear hk); (try clear hi); (try clear ho0))))
   (try simp only [Act.put, List.setIfInBounds_toArray, List.set_cons_zero, List.set_cons_succ])
   go_loopg [5, 6] k (fun kq v5 v6 w' => ∃ (x5_1 : Int) (x6_1 : Int), v5 = .int .i64 x5_1 ∧ v6 = .int .i64 x6_1 ∧ Aside0 (newellaw03_ElementKids.l0 kq t243 x5_1 x6_1 = some r) ∧ Aside0 (kq ≤ k) ∧ Aside0 (Kd.S k29 29 w' w.heap.size (fun _ => True) v245 t243) ∧ Aside0 (Below w.heap.size w w'))
   case atStart => exact ⟨(0), (0), (by first | rfl | (simp; done) | (simp [*]; done) | (simp; exact isEmpty_bne _)), (by first | rfl | (simp; done) | (simp [*]; done) | (simp; exact isEmpty_bne _)), H', ⟨Nat.le_refl _⟩, ⟨by (with_reducible repeat (first | apply Kd.S_alloc | apply Kd.S_drewN | apply Kd.S_drew)); exact HO246.out⟩, ⟨by repeat (first | (with_reducible first | exact HB.out | apply below_alloc | apply pw_below_drewN | apply below_drew1) | exact HB.out)⟩⟩
   case round =>
    clear H'
    try clear c2
    try clear c2b0
    try clear c2b1
    try clear p2
    try clear c6
    try clear c6b0
    try clear c6b1
    obtain ⟨x5_1, x6_1, rfl, rfl, HA, HK1, HO_3, HB⟩ := hrel
    cases gk with
    | zero => exact absurd HA.out (by simp [newellaw03_ElementKids.l0])
    | succ k1 =>
     have H := HA.out
     clear HA
     simp only [newellaw03_ElementKids.l0] at H
     by_cases c8 : x6_1 < (t243.length : Int)
     ·rw [if_pos c8] at H
      have c8b0 : decide (x6_1 < (t243.length : Int)) = true := decide_eq_true c8
      clear c8
      replace H := Option.bind_eq_some_iff.mp H
      obtain ⟨t248, A90, H⟩ := H
      replace H : (newellaw03_ElementKids.l1 k1 t243 (wrap64 (x5_1 + (t248.length : Int))) x6_1 t248 0) = some r := H
      have A9 := Aside0.mk A90
      clear A90
      have H' := Aside0.mk H
      clear H
      obtain ⟨Ao10, co10, eo10⟩ := Kd.S_slice HO_3.out
      subst eo10
      go_wp2_with (first | (go_at_call 11; (with_reducible refine (element_Kids.calls k1 _ _ t243 x6_1 t248 _ ?side1 ?side2 ?side3 A9.out).mono ?_); (case side1 => repeat (first | exact (Kd.S_reads' HO_3.out).2.2 | (with_reducible refine Kd.C_alloc ?_ _) | (with_reducible refine Kd.C_drewN ?_ _) | (with_reducible refine Kd.C_drew ?_))); (case side2 => exact (Kd.S_reads' HO_3.out).2.1); (case side3 => exact Glob.step HG.out (by repeat (first | (with_reducible first | exact HB.out | apply below_alloc | apply pw_below_drewN | apply below_drew1) | exact HB.out))); rintro e w11 ⟨v249, rfl, ho0, hb⟩; have n0_ := Aside0.mk (Kd.S_below (by (with_reducible repeat (first | apply Kd.S_alloc | apply Kd.S_drewN | apply Kd.S_drew)); exact HO_3.out) hb); have n1_ := Aside0.mk (Kd.R_lower ho0 (below_size (by repeat (first | (with_reducible first | exact HB.out | apply below_alloc | apply pw_below_drewN | apply below_drew1) | exact HB.out)))); have n2_ := Aside0.mk (below_step (by repeat (first | (with_reducible first | exact HB.out | apply below_alloc | apply pw_below_drewN | apply below_drew1) | exact HB.out)) hb); clear HO_3; clear HB; have HO_3 := n0_; have HO250 := n1_; have HB := n2_; clear n0_ n1_ n2_; (try clear hb); (try clear hb2); (try clear hk); (try clear hi); (try clear ho0); obtain ⟨Ao12, co12, eo12⟩ := Kd.R_slice HO250.out; subst eo12))
      repeat (go_quiet (first | (go_at_call 11; (with_reducible refine (element_Kids.calls k1 _ _ t243 x6_1 t248 _ ?side1 ?side2 ?side3 A9.out).mono ?_); (case side1 => repeat (first | exact (Kd.S_reads' HO_3.out).2.2 | (with_reducible refine Kd.C_alloc ?_ _) | (with_reducible refine Kd.C_drewN ?_ _) | (with_reducible refine Kd.C_drew ?_))); (case side2 => exact (Kd.S_reads' HO_3.out).2.1); (case side3 => exact Glob.step HG.out (by repeat (first | (with_reducible first | exact HB.out | apply below_alloc | apply pw_below_drewN | apply below_drew1) | exact HB.out))); rintro e w11 ⟨v249, rfl, ho0, hb⟩; have n0_ := Aside0.mk (Kd.S_below (by (with_reducible repeat (first | apply Kd.S_alloc | apply Kd.S_drewN | apply Kd.S_drew)); exact HO_3.out) hb); have n1_ := Aside0.mk (Kd.R_lower ho0 (below_size (by repeat (first | (with_reducible first | exact HB.out | apply below_alloc | apply pw_below_drewN | apply below_drew1) | exact HB.out)))); have n2_ := Aside0.mk (below_step (by repeat (first | (with_reducible first | exact HB.out | apply below_alloc | apply pw_below_drewN | apply below_drew1) | exact HB.out)) hb); clear HO_3; clear HB; have HO_3 := n0_; have HO250 := n1_; have HB := n2_; clear n0_ n1_ n2_; (try clear hb); (try clear hb2); (try clear hk); (try clear hi); (try clear ho0); obtain ⟨Ao12, co12, eo12⟩ := Kd.R_slice HO250.out; subst eo12)); try go_wp2_with (first | (go_at_call 11; (with_reducible refine (element_Kids.calls k1 _ _ t243 x6_1 t248 _ ?side1 ?side2 ?side3 A9.out).mono ?_); (case side1 => repeat (first | exact (Kd.S_reads' HO_3.out).2.2 | (with_reducible refine Kd.C_alloc ?_ _) | (with_reducible refine Kd.C_drewN ?_ _) | (with_reducible refine Kd.C_drew ?_))); (case side2 => exact (Kd.S_reads' HO_3.out).2.1); (case side3 => exact Glob.step HG.out (by repeat (first | (with_reducible first | exact HB.out | apply below_alloc | apply pw_below_drewN | apply below_drew1) | exact HB.out))); rintro e w11 ⟨v249, rfl, ho0, hb⟩; have n0_ := Aside0.mk (Kd.S_below (by (with_reducible repeat (first | apply Kd.S_alloc | apply Kd.S_drewN | apply Kd.S_drew)); exact HO_3.out) hb); have n1_ := Aside0.mk (Kd.R_lower ho0 (below_size (by repeat (first | (with_reducible first | exact HB.out | apply below_alloc | apply pw_below_drewN | apply below_drew1) | exact HB.out)))); have n2_ := Aside0.mk (below_step (by repeat (first | (with_reducible first | exact HB.out | apply below_alloc | apply pw_below_drewN | apply below_drew1) | exact HB.out)) hb); clear HO_3; clear HB; have HO_3 := n0_; have HO250 := n1_; have HB := n2_; clear n0_ n1_ n2_; (try clear hb); (try clear hb2); (try clear hk); (try clear hi); (try clear ho0); obtain ⟨Ao12, co12, eo12⟩ := Kd.R_slice HO250.out; subst eo12)))
      (try simp only [Act.put, List.setIfInBounds_toArray, List.set_cons_zero, List.set_cons_succ])
      go_loopg [8] k1 (fun kq v8 w' => ∃ (x8_2 : Int), v8 = .int .i64 x8_2 ∧ Aside0 (newellaw03_ElementKids.l1 kq t243 (wrap64 (x5_1 + (t248.length : Int))) x6_1 t248 x8_2 = some r) ∧ Aside0 (kq ≤ k1) ∧ Aside0 (Kd.S k29 29 w' w.heap.size (fun _ => True) (.slice Ao10 t243.length co10) t243) ∧ Aside0 (Kd.R (Kd.int .i64) 3 w' w.heap.size (fun _ => True) (.slice Ao12 t248.length co12) t248) ∧ Aside0 (Below w.heap.size w w'))
      case atStart => exact ⟨(0), (by first | rfl | (simp; done) | (simp [*]; done) | (simp; exact isEmpty_bne _)), H', ⟨Nat.le_refl _⟩, ⟨by (with_reducible repeat (first | apply Kd.S_alloc | apply Kd.S_drewN | apply Kd.S_drew)); exact HO_3.out⟩, ⟨by (with_reducible repeat (first | apply Kd.R_alloc | apply Kd.R_drewN | apply Kd.R_drew)); exact HO250.out⟩, ⟨by repeat (first | (with_reducible first | exact HB.out | apply below_alloc | apply pw_below_drewN | apply below_drew1) | exact HB.out)⟩⟩
      case round =>
       clear H'
       try clear c2
       try clear c2b0
       try clear c2b1
       try clear p2
       try clear c6
       try clear c6b0
       try clear c6b1
       try clear p6
       try clear c8
       try clear c8b0
       try clear p2
       obtain ⟨x8_2, rfl, HA, HK2, HO_3, HO_7, HB⟩ := hrel
       cases gk with
       | zero => exact absurd HA.out (by simp [newellaw03_ElementKids.l1])
       | succ k2 =>
        have H := HA.out
        clear HA
        simp only [newellaw03_ElementKids.l1] at H
        by_cases c13 : x8_2 < (t248.length : Int)
        ·rw [if_pos c13] at H
         have c13b0 : decide (x8_2 < (t248.length : Int)) = true := decide_eq_true c13
         clear c13
         by_cases c14 : 0 ≤ x8_2
         ·rw [if_pos c14] at H
          have c14b0 : decide (0 ≤ x8_2) = true := decide_eq_true c14
          clear c14
          by_cases c15 : (rd t248 x8_2) ≤ x6_1
          ·rw [if_pos c15] at H
           have c15b0 : decide ((rd t248 x8_2) ≤ x6_1) = true := decide_eq_true c15
           clear c15
           exfalso
           obtain rfl := Option.some.inj H
           exact absurd hr_ (by decide)
          ·rw [if_neg c15] at H
           have c15b0 : decide ((rd t248 x8_2) ≤ x6_1) = false := decide_eq_false c15
           clear c15
           by_cases c16 : (rd t248 x8_2) ≥ (t243.length : Int)
           ·rw [if_pos c16] at H
            have c16b0 : decide ((t243.length : Int) ≤ (rd t248 x8_2)) = true := decide_eq_true c16
            clear c16
            exfalso
            obtain rfl := Option.some.inj H
            exact absurd hr_ (by decide)
           ·rw [if_neg c16] at H
            have c16b0 : decide ((t243.length : Int) ≤ (rd t248 x8_2)) = false := decide_eq_false c16
            clear c16
            by_cases c17 : 0 ≤ (rd t248 x8_2)
            ·rw [if_pos c17] at H
             have c17b0 : decide (0 ≤ (rd t248 x8_2)) = true := decide_eq_true c17
             clear c17
             by_cases c18 : (rd t248 x8_2) < (t243.length : Int)
             ·rw [if_pos c18] at H
              have c18b0 : decide ((rd t248 x8_2) < (t243.length : Int)) = true := decide_eq_true c18
              clear c18
              by_cases c19 : ((rd_T29 t243 (rd t248 x8_2)).f0) = x6_1
              ·rw [if_pos c19] at H
               have c19b0 : (((rd_T29 t243 (rd t248 x8_2)).f0) == x6_1) = true := beq_iff_eq.mpr c19
               have c19b1 : (((rd_T29 t243 (rd t248 x8_2)).f0) != x6_1) = false := bne_eq_false_iff_eq.mpr c19
               clear c19
               by_cases c20 : x8_2 > 0
               ·rw [if_pos c20] at H
                have c20b0 : decide (0 < x8_2) = true := decide_eq_true c20
                clear c20
                obtain ⟨ji21, hji21⟩ : ∃ j_ : Int, (wrap64 (x8_2 - 1)) = j_ := ⟨_, rfl⟩
                replace H : (if 0 ≤ (ji21) then (if (ji21) < (t248.length : Int) then (if (rd t248 x8_2) ≤ (rd t248 (ji21)) then (some false) else (if 0 ≤ x6_1 then (if x6_1 < (t243.length : Int) then (if ((rd_T29 t243 x6_1).f1).toList = ([] : List UInt8) then (some false) else (newellaw03_ElementKids.l1 k2 t243 (wrap64 (x5_1 + (t248.length : Int))) x6_1 t248 (wrap64 (x8_2 + 1)))) else (none)) else (none))) else (none)) else (none)) = some r := by first | (rw [hji21] at H; exact H) | (simp only [hji21] at H ⊢; exact H)
                have hji21w : (IntKind.i64.wrap (x8_2 - 1)) = ji21 := (i64_w _).trans hji21
                by_cases c22 : 0 ≤ (ji21)
                ·rw [if_pos c22] at H
                 have c22b0 : decide (0 ≤ (ji21)) = true := decide_eq_true c22
                 clear c22
                 by_cases c23 : (ji21) < (t248.length : Int)
                 ·rw [if_pos c23] at H
                  have c23b0 : decide ((ji21) < (t248.length : Int)) = true := decide_eq_true c23
                  clear c23
                  by_cases c24 : (rd t248 x8_2) ≤ (rd t248 (ji21))
                  ·rw [if_pos c24] at H
                   have c24b0 : decide ((rd t248 x8_2) ≤ (rd t248 (ji21))) = true := decide_eq_true c24
                   clear c24
                   exfalso
                   obtain rfl := Option.some.inj H
                   exact absurd hr_ (by decide)
                  ·rw [if_neg c24] at H
                   have c24b0 : decide ((rd t248 x8_2) ≤ (rd t248 (ji21))) = false := decide_eq_false c24
                   clear c24
                   by_cases c25 : 0 ≤ x6_1
                   ·rw [if_pos c25] at H
                    have c25b0 : decide (0 ≤ x6_1) = true := decide_eq_true c25
                    clear c25
                    by_cases c26 : x6_1 < (t243.length : Int)
                    ·rw [if_pos c26] at H
                     have c26b0 : decide (x6_1 < (t243.length : Int)) = true := decide_eq_true c26
                     clear c26
                     by_cases c27 : ((rd_T29 t243 x6_1).f1).toList = ([] : List UInt8)
                     ·rw [if_pos c27] at H
                      have c27b0 : (((rd_T29 t243 x6_1).f1).toList == ([] : List UInt8)) = true := beq_iff_eq.mpr c27
                      have c27b1 : (((rd_T29 t243 x6_1).f1).toList != ([] : List UInt8)) = false := bne_eq_false_iff_eq.mpr c27
                      (try (have c27b2 : (((rd_T29 t243 x6_1).f1).toList).isEmpty = true := by simpa using c27))
                      clear c27
                      exfalso
                      obtain rfl := Option.some.inj H
                      exact absurd hr_ (by decide)
                     ·rw [if_neg c27] at H
                      have c27b0 : (((rd_T29 t243 x6_1).f1).toList == ([] : List UInt8)) = false := beq_eq_false_iff_ne.mpr c27
                      have c27b1 : (((rd_T29 t243 x6_1).f1).toList != ([] : List UInt8)) = true := bne_iff_ne.mpr c27
                      (try (have c27b2 : (((rd_T29 t243 x6_1).f1).toList).isEmpty = false := by simpa using c27))
                      have H' := Aside0.mk H
                      clear H
                      have p251 : 0 ≤ (x8_2 : Int) := of_decide_eq_true (by first | (with_reducible assumption) | assumption)
                      have q251 : x8_2 < (t248.length : Int) := of_decide_eq_true (by first | (with_reducible assumption) | assumption)
                      (try (obtain ⟨Ao_, co_, eo_⟩ := Kd.R_slice HO_7.out; subst eo_))
                      obtain ⟨ad251, e251, hx251_0⟩ := Kd.at_int (Kd.R_reads' HO_7.out).2.2 x8_2 p251 q251
                      cases e251
                      replace p251 := eq_true p251
                      replace q251 := eq_true q251
                      have p252 : 0 ≤ (x8_2 : Int) := of_decide_eq_true (by first | (with_reducible assumption) | assumption)
                      have q252 : x8_2 < (t248.length : Int) := of_decide_eq_true (by first | (with_reducible assumption) | assumption)
                      (try (obtain ⟨Ao_, co_, eo_⟩ := Kd.R_slice HO_7.out; subst eo_))
                      obtain ⟨ad252, e252, hx252_0⟩ := Kd.at_int (Kd.R_reads' HO_7.out).2.2 x8_2 p252 q252
                      obtain rfl : ad251 = ad252 := (by injection e252)
                      replace p252 := eq_true p252
                      replace q252 := eq_true q252
                      have p253 : 0 ≤ (x8_2 : Int) := of_decide_eq_true (by first | (with_reducible assumption) | assumption)
                      have q253 : x8_2 < (t248.length : Int) := of_decide_eq_true (by first | (with_reducible assumption) | assumption)
                      (try (obtain ⟨Ao_, co_, eo_⟩ := Kd.R_slice HO_7.out; subst eo_))
                      obtain ⟨ad253, e253, hx253_0⟩ := Kd.at_int (Kd.R_reads' HO_7.out).2.2 x8_2 p253 q253
                      obtain rfl : ad251 = ad253 := (by injection e253)
                      replace p253 := eq_true p253
                      replace q253 := eq_true q253
                      have p254 : 0 ≤ ((rd t248 x8_2) : Int) := of_decide_eq_true (by first | (with_reducible assumption) | assumption)
                      have q254 : (rd t248 x8_2) < (t243.length : Int) := of_decide_eq_true (by first | (with_reducible assumption) | assumption)
                      obtain ⟨ad254, A254_3, c254_3, e254, hx254_0, hx254_1, hx254_2, hx254_3, hl254_3, hi254_3⟩ := at_T29 (Kd.S_reads' HO_3.out).2.2 (rd t248 x8_2) p254 q254
                      cases e254
                      obtain ⟨ce254, hce254, hMe254, hcc254⟩ := Kd.S_get HO_3.out z29 (rd t248 x8_2) p254 (by first | exact q254 | exact of_decide_eq_true (by first | (with_reducible assumption) | assumption) | (have e_ := (Kd.S_reads' HO_3.out).1; omega))
                      obtain ⟨ve254_3, rfl, ge254_3⟩ := k29_openM hMe254
                      have hv254_3 := hcc254 3 _ rfl
                      rw [add_field _ _ 3 (by omega)] at hv254_3
                      replace hv254_3 := Option.some.inj (hv254_3.symm.trans hx254_3)
                      rw [hv254_3] at ge254_3
                      have HL254_3 := Aside0.mk (show Kd.R k68 68 _ _ _ _ ((rd_T29 t243 (rd t248 x8_2)).f3) from ge254_3)
                      clear hv254_3 ge254_3
                      clear hcc254 hce254
                      have HR254_3 := Aside0.mk hi254_3
                      have HC254_3 := Aside0.mk hl254_3
                      clear hi254_3 hl254_3
                      replace p254 := eq_true p254
                      replace q254 := eq_true q254
                      have p255 : 0 ≤ (x8_2 : Int) := of_decide_eq_true (by first | (with_reducible assumption) | assumption)
                      have q255 : x8_2 < (t248.length : Int) := of_decide_eq_true (by first | (with_reducible assumption) | assumption)
                      (try (obtain ⟨Ao_, co_, eo_⟩ := Kd.R_slice HO_7.out; subst eo_))
                      obtain ⟨ad255, e255, hx255_0⟩ := Kd.at_int (Kd.R_reads' HO_7.out).2.2 x8_2 p255 q255
                      obtain rfl : ad251 = ad255 := (by injection e255)
                      replace p255 := eq_true p255
                      replace q255 := eq_true q255
                      have p256 : 0 ≤ ((ji21) : Int) := of_decide_eq_true (by first | (with_reducible assumption) | assumption)
                      have q256 : (ji21) < (t248.length : Int) := of_decide_eq_true (by first | (with_reducible assumption) | assumption)
                      (try (obtain ⟨Ao_, co_, eo_⟩ := Kd.R_slice HO_7.out; subst eo_))
                      obtain ⟨ad256, e256, hx256_0⟩ := Kd.at_int (Kd.R_reads' HO_7.out).2.2 (ji21) p256 q256
                      obtain rfl : ad251 = ad256 := (by injection e256)
                      replace p256 := eq_true p256
                      replace q256 := eq_true q256
                      have p257 : 0 ≤ (x6_1 : Int) := of_decide_eq_true (by first | (with_reducible assumption) | assumption)
                      have q257 : x6_1 < (t243.length : Int) := of_decide_eq_true (by first | (with_reducible assumption) | assumption)
                      obtain ⟨ad257, A257_3, c257_3, e257, hx257_0, hx257_1, hx257_2, hx257_3, hl257_3, hi257_3⟩ := at_T29 (Kd.S_reads' HO_3.out).2.2 x6_1 p257 q257
                      obtain rfl : ad254 = ad257 := (by injection e257)
                      obtain ⟨ce257, hce257, hMe257, hcc257⟩ := Kd.S_get HO_3.out z29 x6_1 p257 (by first | exact q257 | exact of_decide_eq_true (by first | (with_reducible assumption) | assumption) | (have e_ := (Kd.S_reads' HO_3.out).1; omega))
                      obtain ⟨ve257_3, rfl, ge257_3⟩ := k29_openM hMe257
                      have hv257_3 := hcc257 3 _ rfl
                      rw [add_field _ _ 3 (by omega)] at hv257_3
                      replace hv257_3 := Option.some.inj (hv257_3.symm.trans hx257_3)
                      rw [hv257_3] at ge257_3
                      have HL257_3 := Aside0.mk (show Kd.R k68 68 _ _ _ _ ((rd_T29 t243 x6_1).f3) from ge257_3)
                      clear hv257_3 ge257_3
                      clear hcc257 hce257
                      have HR257_3 := Aside0.mk hi257_3
                      have HC257_3 := Aside0.mk hl257_3
                      clear hi257_3 hl257_3
                      replace p257 := eq_true p257
                      replace q257 := eq_true q257
                      go_wp2
                      repeat (go_quiet (fail); try go_wp2)
                      go_roundg k2
                      case measure => have := HK1.out; have := HK2.out; omega
                      case rel => exact ⟨(wrap64 (x8_2 + 1)), (by first | rfl | (simp; done) | (simp [*]; done) | (simp; exact isEmpty_bne _)), H', ⟨by have := HK1.out; have := HK2.out; omega⟩, ⟨by (with_reducible repeat (first | apply Kd.S_alloc | apply Kd.S_drewN | apply Kd.S_drew)); exact HO_3.out⟩, ⟨by (with_reducible repeat (first | apply Kd.R_alloc | apply Kd.R_drewN | apply Kd.R_drew)); exact HO_7.out⟩, ⟨by repeat (first | (with_reducible first | exact HB.out | apply below_alloc | apply pw_below_drewN | apply below_drew1) | exact HB.out)⟩⟩
                    ·rw [if_neg c26] at H
                     exact absurd H (by simp)
                   ·rw [if_neg c25] at H
                    exact absurd H (by simp)
                 ·rw [if_neg c23] at H
                  exact absurd H (by simp)
                ·rw [if_neg c22] at H
                 exact absurd H (by simp)
               ·rw [if_neg c20] at H
                have c20b0 : decide (0 < x8_2) = false := decide_eq_false c20
                clear c20
                by_cases c28 : 0 ≤ x6_1
                ·rw [if_pos c28] at H
                 have c28b0 : decide (0 ≤ x6_1) = true := decide_eq_true c28
                 clear c28
                 by_cases c29 : x6_1 < (t243.length : Int)
                 ·rw [if_pos c29] at H
                  have c29b0 : decide (x6_1 < (t243.length : Int)) = true := decide_eq_true c29
                  clear c29
                  by_cases c30 : ((rd_T29 t243 x6_1).f1).toList = ([] : List UInt8)
                  ·rw [if_pos c30] at H
                   have c30b0 : (((rd_T29 t243 x6_1).f1).toList == ([] : List UInt8)) = true := beq_iff_eq.mpr c30
                   have c30b1 : (((rd_T29 t243 x6_1).f1).toList != ([] : List UInt8)) = false := bne_eq_false_iff_eq.mpr c30
                   (try (have c30b2 : (((rd_T29 t243 x6_1).f1).toList).isEmpty = true := by simpa using c30))
                   clear c30
                   exfalso
                   obtain rfl := Option.some.inj H
                   exact absurd hr_ (by decide)
                  ·rw [if_neg c30] at H
                   have c30b0 : (((rd_T29 t243 x6_1).f1).toList == ([] : List UInt8)) = false := beq_eq_false_iff_ne.mpr c30
                   have c30b1 : (((rd_T29 t243 x6_1).f1).toList != ([] : List UInt8)) = true := bne_iff_ne.mpr c30
                   (try (have c30b2 : (((rd_T29 t243 x6_1).f1).toList).isEmpty = false := by simpa using c30))
                   have H' := Aside0.mk H
                   clear H
                   have p251 : 0 ≤ (x8_2 : Int) := of_decide_eq_true (by first | (with_reducible assumption) | assumption)
                   have q251 : x8_2 < (t248.length : Int) := of_decide_eq_true (by first | (with_reducible assumption) | assumption)
                   (try (obtain ⟨Ao_, co_, eo_⟩ := Kd.R_slice HO_7.out; subst eo_))
                   obtain ⟨ad251, e251, hx251_0⟩ := Kd.at_int (Kd.R_reads' HO_7.out).2.2 x8_2 p251 q251
                   cases e251
                   replace p251 := eq_true p251
                   replace q251 := eq_true q251
                   have p252 : 0 ≤ (x8_2 : Int) := of_decide_eq_true (by first | (with_reducible assumption) | assumption)
                   have q252 : x8_2 < (t248.length : Int) := of_decide_eq_true (by first | (with_reducible assumption) | assumption)
                   (try (obtain ⟨Ao_, co_, eo_⟩ := Kd.R_slice HO_7.out; subst eo_))
                   obtain ⟨ad252, e252, hx252_0⟩ := Kd.at_int (Kd.R_reads' HO_7.out).2.2 x8_2 p252 q252
                   obtain rfl : ad251 = ad252 := (by injection e252)
                   replace p252 := eq_true p252
                   replace q252 := eq_true q252
                   have p253 : 0 ≤ (x8_2 : Int) := of_decide_eq_true (by first | (with_reducible assumption) | assumption)
                   have q253 : x8_2 < (t248.length : Int) := of_decide_eq_true (by first | (with_reducible assumption) | assumption)
                   (try (obtain ⟨Ao_, co_, eo_⟩ := Kd.R_slice HO_7.out; subst eo_))
                   obtain ⟨ad253, e253, hx253_0⟩ := Kd.at_int (Kd.R_reads' HO_7.out).2.2 x8_2 p253 q253
                   obtain rfl : ad251 = ad253 := (by injection e253)
                   replace p253 := eq_true p253
                   replace q253 := eq_true q253
                   have p254 : 0 ≤ ((rd t248 x8_2) : Int) := of_decide_eq_true (by first | (with_reducible assumption) | assumption)
                   have q254 : (rd t248 x8_2) < (t243.length : Int) := of_decide_eq_true (by first | (with_reducible assumption) | assumption)
                   obtain ⟨ad254, A254_3, c254_3, e254, hx254_0, hx254_1, hx254_2, hx254_3, hl254_3, hi254_3⟩ := at_T29 (Kd.S_reads' HO_3.out).2.2 (rd t248 x8_2) p254 q254
                   cases e254
                   obtain ⟨ce254, hce254, hMe254, hcc254⟩ := Kd.S_get HO_3.out z29 (rd t248 x8_2) p254 (by first | exact q254 | exact of_decide_eq_true (by first | (with_reducible assumption) | assumption) | (have e_ := (Kd.S_reads' HO_3.out).1; omega))
                   obtain ⟨ve254_3, rfl, ge254_3⟩ := k29_openM hMe254
                   have hv254_3 := hcc254 3 _ rfl
                   rw [add_field _ _ 3 (by omega)] at hv254_3
                   replace hv254_3 := Option.some.inj (hv254_3.symm.trans hx254_3)
                   rw [hv254_3] at ge254_3
                   have HL254_3 := Aside0.mk (show Kd.R k68 68 _ _ _ _ ((rd_T29 t243 (rd t248 x8_2)).f3) from ge254_3)
                   clear hv254_3 ge254_3
                   clear hcc254 hce254
                   have HR254_3 := Aside0.mk hi254_3
                   have HC254_3 := Aside0.mk hl254_3
                   clear hi254_3 hl254_3
                   replace p254 := eq_true p254
                   replace q254 := eq_true q254
                   have p258 : 0 ≤ (x6_1 : Int) := of_decide_eq_true (by first | (with_reducible assumption) | assumption)
                   have q258 : x6_1 < (t243.length : Int) := of_decide_eq_true (by first | (with_reducible assumption) | assumption)
                   obtain ⟨ad258, A258_3, c258_3, e258, hx258_0, hx258_1, hx258_2, hx258_3, hl258_3, hi258_3⟩ := at_T29 (Kd.S_reads' HO_3.out).2.2 x6_1 p258 q258
                   obtain rfl : ad254 = ad258 := (by injection e258)
                   obtain ⟨ce258, hce258, hMe258, hcc258⟩ := Kd.S_get HO_3.out z29 x6_1 p258 (by first | exact q258 | exact of_decide_eq_true (by first | (with_reducible assumption) | assumption) | (have e_ := (Kd.S_reads' HO_3.out).1; omega))
                   obtain ⟨ve258_3, rfl, ge258_3⟩ := k29_openM hMe258
                   have hv258_3 := hcc258 3 _ rfl
                   rw [add_field _ _ 3 (by omega)] at hv258_3
                   replace hv258_3 := Option.some.inj (hv258_3.symm.trans hx258_3)
                   rw [hv258_3] at ge258_3
                   have HL258_3 := Aside0.mk (show Kd.R k68 68 _ _ _ _ ((rd_T29 t243 x6_1).f3) from ge258_3)
                   clear hv258_3 ge258_3
                   clear hcc258 hce258
                   have HR258_3 := Aside0.mk hi258_3
                   have HC258_3 := Aside0.mk hl258_3
                   clear hi258_3 hl258_3
                   replace p258 := eq_true p258
                   replace q258 := eq_true q258
                   go_wp2
                   repeat (go_quiet (fail); try go_wp2)
                   go_roundg k2
                   case measure => have := HK1.out; have := HK2.out; omega
                   case rel => exact ⟨(wrap64 (x8_2 + 1)), (by first | rfl | (simp; done) | (simp [*]; done) | (simp; exact isEmpty_bne _)), H', ⟨by have := HK1.out; have := HK2.out; omega⟩, ⟨by (with_reducible repeat (first | apply Kd.S_alloc | apply Kd.S_drewN | apply Kd.S_drew)); exact HO_3.out⟩, ⟨by (with_reducible repeat (first | apply Kd.R_alloc | apply Kd.R_drewN | apply Kd.R_drew)); exact HO_7.out⟩, ⟨by repeat (first | (with_reducible first | exact HB.out | apply below_alloc | apply pw_below_drewN | apply below_drew1) | exact HB.out)⟩⟩
                 ·rw [if_neg c29] at H
                  exact absurd H (by simp)
                ·rw [if_neg c28] at H
                 exact absurd H (by simp)
              ·rw [if_neg c19] at H
               have c19b0 : (((rd_T29 t243 (rd t248 x8_2)).f0) == x6_1) = false := beq_eq_false_iff_ne.mpr c19
               have c19b1 : (((rd_T29 t243 (rd t248 x8_2)).f0) != x6_1) = true := bne_iff_ne.mpr c19
               exfalso
               obtain rfl := Option.some.inj H
               exact absurd hr_ (by decide)
             ·rw [if_neg c18] at H
              exact absurd H (by simp)
            ·rw [if_neg c17] at H
             exact absurd H (by simp)
         ·rw [if_neg c14] at H
          exact absurd H (by simp)
        ·rw [if_neg c13] at H
         have c13b0 : decide (x8_2 < (t248.length : Int)) = false := decide_eq_false c13
         clear c13
         have H' := Aside0.mk H
         clear H
         go_wp2
         repeat (go_quiet (fail); try go_wp2)
         go_roundg k2
         case measure => have := HK1.out; have := HK2.out; omega
         case rel => exact ⟨((wrap64 (x5_1 + (t248.length : Int)))), (wrap64 (x6_1 + 1)), (by first | rfl | (simp; done) | (simp [*]; done) | (simp; exact isEmpty_bne _)), (by first | rfl | (simp; done) | (simp [*]; done) | (simp; exact isEmpty_bne _)), H', ⟨by have := HK1.out; have := HK2.out; omega⟩, ⟨by (with_reducible repeat (first | apply Kd.S_alloc | apply Kd.S_drewN | apply Kd.S_drew)); exact HO_3.out⟩, ⟨by repeat (first | (with_reducible first | exact HB.out | apply below_alloc | apply pw_below_drewN | apply below_drew1) | exact HB.out)⟩⟩
     ·rw [if_neg c8] at H
      have c8b0 : decide (x6_1 < (t243.length : Int)) = false := decide_eq_false c8
      clear c8
      replace H := Option.bind_eq_some_iff.mp H
      obtain ⟨t259, A310, H⟩ := H
      replace H : (if t259 = true then (if x5_1 = (wrap64 ((t243.length : Int) - 1)) then ((element_Kids.f k1 t243 (-1)).bind fun t260 => (if (t260.length : Int) = 0 then ((element_Kids.f k1 t243 (t243.length : Int)).bind fun t263 => (if (t263.length : Int) = 0 then ((element_Inner.f k1 t243 (-1)).bind fun t266 => (some (t266.toList == ([] : List UInt8)))) else (some false))) else (some false))) else (some false)) else (some false)) = some r := H
      have A31 := Aside0.mk A310
      clear A310
      by_cases c32 : t259 = true
      ·subst c32
       have H1 : (if x5_1 = (wrap64 ((t243.length : Int) - 1)) then ((element_Kids.f k1 t243 (-1)).bind fun t260 => (if (t260.length : Int) = 0 then ((element_Kids.f k1 t243 (t243.length : Int)).bind fun t263 => (if (t263.length : Int) = 0 then ((element_Inner.f k1 t243 (-1)).bind fun t266 => (some (t266.toList == ([] : List UInt8)))) else (some false))) else (some false))) else (some false)) = some r := by rw [if_pos rfl] at H; exact H
       clear H
       have H := H1
       clear H1
       by_cases c33 : x5_1 = (wrap64 ((t243.length : Int) - 1))
       ·rw [if_pos c33] at H
        have c33b0 : (x5_1 == (wrap64 ((t243.length : Int) - 1))) = true := beq_iff_eq.mpr c33
        have c33b1 : (x5_1 != (wrap64 ((t243.length : Int) - 1))) = false := bne_eq_false_iff_eq.mpr c33
        clear c33
        replace H := Option.bind_eq_some_iff.mp H
        obtain ⟨t260, A340, H⟩ := H
        replace H : (if (t260.length : Int) = 0 then ((element_Kids.f k1 t243 (t243.length : Int)).bind fun t263 => (if (t263.length : Int) = 0 then ((element_Inner.f k1 t243 (-1)).bind fun t266 => (some (t266.toList == ([] : List UInt8)))) else (some false))) else (some false)) = some r := H
        have A34 := Aside0.mk A340
        clear A340
        by_cases c35 : (t260.length : Int) = 0
        ·rw [if_pos c35] at H
         have c35b0 : ((t260.length : Int) == 0) = true := beq_iff_eq.mpr c35
         have c35b1 : ((t260.length : Int) != 0) = false := bne_eq_false_iff_eq.mpr c35
         clear c35
         replace H := Option.bind_eq_some_iff.mp H
         obtain ⟨t263, A360, H⟩ := H
         replace H : (if (t263.length : Int) = 0 then ((element_Inner.f k1 t243 (-1)).bind fun t266 => (some (t266.toList == ([] : List UInt8)))) else (some false)) = some r := H
         have A36 := Aside0.mk A360
         clear A360
         by_cases c37 : (t263.length : Int) = 0
         ·rw [if_pos c37] at H
          have c37b0 : ((t263.length : Int) == 0) = true := beq_iff_eq.mpr c37
          have c37b1 : ((t263.length : Int) != 0) = false := bne_eq_false_iff_eq.mpr c37
          clear c37
          replace H := Option.bind_eq_some_iff.mp H
          obtain ⟨t266, A380, H⟩ := H
          replace H : (some (t266.toList == ([] : List UInt8))) = some r := H
          have A38 := Aside0.mk A380
          clear A380
          obtain rfl := Option.some.inj H
          obtain ⟨Ao39, co39, eo39⟩ := Kd.S_slice HO_3.out
          subst eo39
          go_wp2_with (first | (go_at_call 8; (with_reducible refine (newellaw03_awake.calls k1  true _ ?side1 A31.out).mono ?_); (case side1 => exact Glob.step HG.out (by repeat (first | (with_reducible first | exact HB.out | apply below_alloc | apply pw_below_drewN | apply below_drew1) | exact HB.out))); rintro e w40 ⟨rfl, hb⟩; have n0_ := Aside0.mk (Kd.S_below (by (with_reducible repeat (first | apply Kd.S_alloc | apply Kd.S_drewN | apply Kd.S_drew)); exact HO_3.out) hb); have n1_ := Aside0.mk (below_step (by repeat (first | (with_reducible first | exact HB.out | apply below_alloc | apply pw_below_drewN | apply below_drew1) | exact HB.out)) hb); clear HO_3; clear HB; have HO_3 := n0_; have HB := n1_; clear n0_ n1_; (try clear hb); (try clear hb2); (try clear hk); (try clear hi)) | (go_at_call 11; (with_reducible refine (element_Kids.calls k1 _ _ t243 (-1) t260 _ ?side1 ?side2 ?side3 A34.out).mono ?_); (case side1 => repeat (first | exact (Kd.S_reads' HO_3.out).2.2 | (with_reducible refine Kd.C_alloc ?_ _) | (with_reducible refine Kd.C_drewN ?_ _) | (with_reducible refine Kd.C_drew ?_))); (case side2 => exact (Kd.S_reads' HO_3.out).2.1); (case side3 => exact Glob.step HG.out (by repeat (first | (with_reducible first | exact HB.out | apply below_alloc | apply pw_below_drewN | apply below_drew1) | exact HB.out))); rintro e w41 ⟨v261, rfl, ho0, hb⟩; have n0_ := Aside0.mk (Kd.S_below (by (with_reducible repeat (first | apply Kd.S_alloc | apply Kd.S_drewN | apply Kd.S_drew)); exact HO_3.out) hb); have n1_ := Aside0.mk (Kd.R_lower ho0 (below_size (by repeat (first | (with_reducible first | exact HB.out | apply below_alloc | apply pw_below_drewN | apply below_drew1) | exact HB.out)))); have n2_ := Aside0.mk (below_step (by repeat (first | (with_reducible first | exact HB.out | apply below_alloc | apply pw_below_drewN | apply below_drew1) | exact HB.out)) hb); clear HO_3; clear HB; have HO_3 := n0_; have HO262 := n1_; have HB := n2_; clear n0_ n1_ n2_; (try clear hb); (try clear hb2); (try clear hk); (try clear hi); (try clear ho0); obtain ⟨Ao42, co42, eo42⟩ := Kd.R_slice HO262.out; subst eo42) | (go_at_call 11; (with_reducible refine (element_Kids.calls k1 _ _ t243 (t243.length : Int) t263 _ ?side1 ?side2 ?side3 A36.out).mono ?_); (case side1 => repeat (first | exact (Kd.S_reads' HO_3.out).2.2 | (with_reducible refine Kd.C_alloc ?_ _) | (with_reducible refine Kd.C_drewN ?_ _) | (with_reducible refine Kd.C_drew ?_))); (case side2 => exact (Kd.S_reads' HO_3.out).2.1); (case side3 => exact Glob.step HG.out (by repeat (first | (with_reducible first | exact HB.out | apply below_alloc | apply pw_below_drewN | apply below_drew1) | exact HB.out))); rintro e w43 ⟨v264, rfl, ho0, hb⟩; have n0_ := Aside0.mk (Kd.S_below (by (with_reducible repeat (first | apply Kd.S_alloc | apply Kd.S_drewN | apply Kd.S_drew)); exact HO_3.out) hb); have n1_ := Aside0.mk (Kd.R_elder' (by (with_reducible repeat (first | apply Kd.R_alloc | apply Kd.R_drewN | apply Kd.R_drew)); exact HO262.out) (Kd.R_base ho0) hb); have n2_ := Aside0.mk (Kd.R_lower (Kd.R_new' ho0 (Kd.R_lt (by (with_reducible repeat (first | apply Kd.R_alloc | apply Kd.R_drewN | apply Kd.R_drew)); exact HO262.out))) (below_size (by repeat (first | (with_reducible first | exact HB.out | apply below_alloc | apply pw_below_drewN | apply below_drew1) | exact HB.out)))); have n3_ := Aside0.mk (below_step (by repeat (first | (with_reducible first | exact HB.out | apply below_alloc | apply pw_below_drewN | apply below_drew1) | exact HB.out)) hb); clear HO_3; clear HO262; clear HB; have HO_3 := n0_; have HO262 := n1_; have HO265 := n2_; have HB := n3_; clear n0_ n1_ n2_ n3_; (try clear hb); (try clear hb2); (try clear hk); (try clear hi); (try clear ho0); obtain ⟨Ao44, co44, eo44⟩ := Kd.R_slice HO265.out; subst eo44) | (go_at_call 12; (with_reducible refine (element_Inner.calls k1 _ _ t243 (-1) t266 _ ?side1 ?side2 ?side3 A38.out).mono ?_); (case side1 => repeat (first | exact (Kd.S_reads' HO_3.out).2.2 | (with_reducible refine Kd.C_alloc ?_ _) | (with_reducible refine Kd.C_drewN ?_ _) | (with_reducible refine Kd.C_drew ?_))); (case side2 => exact (Kd.S_reads' HO_3.out).2.1); (case side3 => exact Glob.step HG.out (by repeat (first | (with_reducible first | exact HB.out | apply below_alloc | apply pw_below_drewN | apply below_drew1) | exact HB.out))); rintro e w45 ⟨rfl, hb⟩; have n0_ := Aside0.mk (Kd.S_below (by (with_reducible repeat (first | apply Kd.S_alloc | apply Kd.S_drewN | apply Kd.S_drew)); exact HO_3.out) hb); have n1_ := Aside0.mk (Kd.R_below (by (with_reducible repeat (first | apply Kd.R_alloc | apply Kd.R_drewN | apply Kd.R_drew)); exact HO262.out) hb); have n2_ := Aside0.mk (Kd.R_below (by (with_reducible repeat (first | apply Kd.R_alloc | apply Kd.R_drewN | apply Kd.R_drew)); exact HO265.out) hb); have n3_ := Aside0.mk (below_step (by repeat (first | (with_reducible first | exact HB.out | apply below_alloc | apply pw_below_drewN | apply below_drew1) | exact HB.out)) hb); clear HO_3; clear HO262; clear HO265; clear HB; have HO_3 := n0_; have HO262 := n1_; have HO265 := n2_; have HB := n3_; clear n0_ n1_ n2_ n3_; (try clear hb); (try clear hb2); (try clear hk); (try clear hi)))
          repeat (go_quiet (first | (go_at_call 8; (with_reducible refine (newellaw03_awake.calls k1  true _ ?side1 A31.out).mono ?_); (case side1 => exact Glob.step HG.out (by repeat (first | (with_reducible first | exact HB.out | apply below_alloc | apply pw_below_drewN | apply below_drew1) | exact HB.out))); rintro e w40 ⟨rfl, hb⟩; have n0_ := Aside0.mk (Kd.S_below (by (with_reducible repeat (first | apply Kd.S_alloc | apply Kd.S_drewN | apply Kd.S_drew)); exact HO_3.out) hb); have n1_ := Aside0.mk (below_step (by repeat (first | (with_reducible first | exact HB.out | apply below_alloc | apply pw_below_drewN | apply below_drew1) | exact HB.out)) hb); clear HO_3; clear HB; have HO_3 := n0_; have HB := n1_; clear n0_ n1_; (try clear hb); (try clear hb2); (try clear hk); (try clear hi)) | (go_at_call 11; (with_reducible refine (element_Kids.calls k1 _ _ t243 (-1) t260 _ ?side1 ?side2 ?side3 A34.out).mono ?_); (case side1 => repeat (first | exact (Kd.S_reads' HO_3.out).2.2 | (with_reducible refine Kd.C_alloc ?_ _) | (with_reducible refine Kd.C_drewN ?_ _) | (with_reducible refine Kd.C_drew ?_))); (case side2 => exact (Kd.S_reads' HO_3.out).2.1); (case side3 => exact Glob.step HG.out (by repeat (first | (with_reducible first | exact HB.out | apply below_alloc | apply pw_below_drewN | apply below_drew1) | exact HB.out))); rintro e w41 ⟨v261, rfl, ho0, hb⟩; have n0_ := Aside0.mk (Kd.S_below (by (with_reducible repeat (first | apply Kd.S_alloc | apply Kd.S_drewN | apply Kd.S_drew)); exact HO_3.out) hb); have n1_ := Aside0.mk (Kd.R_lower ho0 (below_size (by repeat (first | (with_reducible first | exact HB.out | apply below_alloc | apply pw_below_drewN | apply below_drew1) | exact HB.out)))); have n2_ := Aside0.mk (below_step (by repeat (first | (with_reducible first | exact HB.out | apply below_alloc | apply pw_below_drewN | apply below_drew1) | exact HB.out)) hb); clear HO_3; clear HB; have HO_3 := n0_; have HO262 := n1_; have HB := n2_; clear n0_ n1_ n2_; (try clear hb); (try clear hb2); (try clear hk); (try clear hi); (try clear ho0); obtain ⟨Ao42, co42, eo42⟩ := Kd.R_slice HO262.out; subst eo42) | (go_at_call 11; (with_reducible refine (element_Kids.calls k1 _ _ t243 (t243.length : Int) t263 _ ?side1 ?side2 ?side3 A36.out).mono ?_); (case side1 => repeat (first | exact (Kd.S_reads' HO_3.out).2.2 | (with_reducible refine Kd.C_alloc ?_ _) | (with_reducible refine Kd.C_drewN ?_ _) | (with_reducible refine Kd.C_drew ?_))); (case side2 => exact (Kd.S_reads' HO_3.out).2.1); (case side3 => exact Glob.step HG.out (by repeat (first | (with_reducible first | exact HB.out | apply below_alloc | apply pw_below_drewN | apply below_drew1) | exact HB.out))); rintro e w43 ⟨v264, rfl, ho0, hb⟩; have n0_ := Aside0.mk (Kd.S_below (by (with_reducible repeat (first | apply Kd.S_alloc | apply Kd.S_drewN | apply Kd.S_drew)); exact HO_3.out) hb); have n1_ := Aside0.mk (Kd.R_elder' (by (with_reducible repeat (first | apply Kd.R_alloc | apply Kd.R_drewN | apply Kd.R_drew)); exact HO262.out) (Kd.R_base ho0) hb); have n2_ := Aside0.mk (Kd.R_lower (Kd.R_new' ho0 (Kd.R_lt (by (with_reducible repeat (first | apply Kd.R_alloc | apply Kd.R_drewN | apply Kd.R_drew)); exact HO262.out))) (below_size (by repeat (first | (with_reducible first | exact HB.out | apply below_alloc | apply pw_below_drewN | apply below_drew1) | exact HB.out)))); have n3_ := Aside0.mk (below_step (by repeat (first | (with_reducible first | exact HB.out | apply below_alloc | apply pw_below_drewN | apply below_drew1) | exact HB.out)) hb); clear HO_3; clear HO262; clear HB; have HO_3 := n0_; have HO262 := n1_; have HO265 := n2_; have HB := n3_; clear n0_ n1_ n2_ n3_; (try clear hb); (try clear hb2); (try clear hk); (try clear hi); (try clear ho0); obtain ⟨Ao44, co44, eo44⟩ := Kd.R_slice HO265.out; subst eo44) | (go_at_call 12; (with_reducible refine (element_Inner.calls k1 _ _ t243 (-1) t266 _ ?side1 ?side2 ?side3 A38.out).mono ?_); (case side1 => repeat (first | exact (Kd.S_reads' HO_3.out).2.2 | (with_reducible refine Kd.C_alloc ?_ _) | (with_reducible refine Kd.C_drewN ?_ _) | (with_reducible refine Kd.C_drew ?_))); (case side2 => exact (Kd.S_reads' HO_3.out).2.1); (case side3 => exact Glob.step HG.out (by repeat (first | (with_reducible first | exact HB.out | apply below_alloc | apply pw_below_drewN | apply below_drew1) | exact HB.out))); rintro e w45 ⟨rfl, hb⟩; have n0_ := Aside0.mk (Kd.S_below (by (with_reducible repeat (first | apply Kd.S_alloc | apply Kd.S_drewN | apply Kd.S_drew)); exact HO_3.out) hb); have n1_ := Aside0.mk (Kd.R_below (by (with_reducible repeat (first | apply Kd.R_alloc | apply Kd.R_drewN | apply Kd.R_drew)); exact HO262.out) hb); have n2_ := Aside0.mk (Kd.R_below (by (with_reducible repeat (first | apply Kd.R_alloc | apply Kd.R_drewN | apply Kd.R_drew)); exact HO265.out) hb); have n3_ := Aside0.mk (below_step (by repeat (first | (with_reducible first | exact HB.out | apply below_alloc | apply pw_below_drewN | apply below_drew1) | exact HB.out)) hb); clear HO_3; clear HO262; clear HO265; clear HB; have HO_3 := n0_; have HO262 := n1_; have HO265 := n2_; have HB := n3_; clear n0_ n1_ n2_ n3_; (try clear hb); (try clear hb2); (try clear hk); (try clear hi))); try go_wp2_with (first | (go_at_call 8; (with_reducible refine (newellaw03_awake.calls k1  true _ ?side1 A31.out).mono ?_); (case side1 => exact Glob.step HG.out (by repeat (first | (with_reducible first | exact HB.out | apply below_alloc | apply pw_below_drewN | apply below_drew1) | exact HB.out))); rintro e w40 ⟨rfl, hb⟩; have n0_ := Aside0.mk (Kd.S_below (by (with_reducible repeat (first | apply Kd.S_alloc | apply Kd.S_drewN | apply Kd.S_drew)); exact HO_3.out) hb); have n1_ := Aside0.mk (below_step (by repeat (first | (with_reducible first | exact HB.out | apply below_alloc | apply pw_below_drewN | apply below_drew1) | exact HB.out)) hb); clear HO_3; clear HB; have HO_3 := n0_; have HB := n1_; clear n0_ n1_; (try clear hb); (try clear hb2); (try clear hk); (try clear hi)) | (go_at_call 11; (with_reducible refine (element_Kids.calls k1 _ _ t243 (-1) t260 _ ?side1 ?side2 ?side3 A34.out).mono ?_); (case side1 => repeat (first | exact (Kd.S_reads' HO_3.out).2.2 | (with_reducible refine Kd.C_alloc ?_ _) | (with_reducible refine Kd.C_drewN ?_ _) | (with_reducible refine Kd.C_drew ?_))); (case side2 => exact (Kd.S_reads' HO_3.out).2.1); (case side3 => exact Glob.step HG.out (by repeat (first | (with_reducible first | exact HB.out | apply below_alloc | apply pw_below_drewN | apply below_drew1) | exact HB.out))); rintro e w41 ⟨v261, rfl, ho0, hb⟩; have n0_ := Aside0.mk (Kd.S_below (by (with_reducible repeat (first | apply Kd.S_alloc | apply Kd.S_drewN | apply Kd.S_drew)); exact HO_3.out) hb); have n1_ := Aside0.mk (Kd.R_lower ho0 (below_size (by repeat (first | (with_reducible first | exact HB.out | apply below_alloc | apply pw_below_drewN | apply below_drew1) | exact HB.out)))); have n2_ := Aside0.mk (below_step (by repeat (first | (with_reducible first | exact HB.out | apply below_alloc | apply pw_below_drewN | apply below_drew1) | exact HB.out)) hb); clear HO_3; clear HB; have HO_3 := n0_; have HO262 := n1_; have HB := n2_; clear n0_ n1_ n2_; (try clear hb); (try clear hb2); (try clear hk); (try clear hi); (try clear ho0); obtain ⟨Ao42, co42, eo42⟩ := Kd.R_slice HO262.out; subst eo42) | (go_at_call 11; (with_reducible refine (element_Kids.calls k1 _ _ t243 (t243.length : Int) t263 _ ?side1 ?side2 ?side3 A36.out).mono ?_); (case side1 => repeat (first | exact (Kd.S_reads' HO_3.out).2.2 | (with_reducible refine Kd.C_alloc ?_ _) | (with_reducible refine Kd.C_drewN ?_ _) | (with_reducible refine Kd.C_drew ?_))); (case side2 => exact (Kd.S_reads' HO_3.out).2.1); (case side3 => exact Glob.step HG.out (by repeat (first | (with_reducible first | exact HB.out | apply below_alloc | apply pw_below_drewN | apply below_drew1) | exact HB.out))); rintro e w43 ⟨v264, rfl, ho0, hb⟩; have n0_ := Aside0.mk (Kd.S_below (by (with_reducible repeat (first | apply Kd.S_alloc | apply Kd.S_drewN | apply Kd.S_drew)); exact HO_3.out) hb); have n1_ := Aside0.mk (Kd.R_elder' (by (with_reducible repeat (first | apply Kd.R_alloc | apply Kd.R_drewN | apply Kd.R_drew)); exact HO262.out) (Kd.R_base ho0) hb); have n2_ := Aside0.mk (Kd.R_lower (Kd.R_new' ho0 (Kd.R_lt (by (with_reducible repeat (first | apply Kd.R_alloc | apply Kd.R_drewN | apply Kd.R_drew)); exact HO262.out))) (below_size (by repeat (first | (with_reducible first | exact HB.out | apply below_alloc | apply pw_below_drewN | apply below_drew1) | exact HB.out)))); have n3_ := Aside0.mk (below_step (by repeat (first | (with_reducible first | exact HB.out | apply below_alloc | apply pw_below_drewN | apply below_drew1) | exact HB.out)) hb); clear HO_3; clear HO262; clear HB; have HO_3 := n0_; have HO262 := n1_; have HO265 := n2_; have HB := n3_; clear n0_ n1_ n2_ n3_; (try clear hb); (try clear hb2); (try clear hk); (try clear hi); (try clear ho0); obtain ⟨Ao44, co44, eo44⟩ := Kd.R_slice HO265.out; subst eo44) | (go_at_call 12; (with_reducible refine (element_Inner.calls k1 _ _ t243 (-1) t266 _ ?side1 ?side2 ?side3 A38.out).mono ?_); (case side1 => repeat (first | exact (Kd.S_reads' HO_3.out).2.2 | (with_reducible refine Kd.C_alloc ?_ _) | (with_reducible refine Kd.C_drewN ?_ _) | (with_reducible refine Kd.C_drew ?_))); (case side2 => exact (Kd.S_reads' HO_3.out).2.1); (case side3 => exact Glob.step HG.out (by repeat (first | (with_reducible first | exact HB.out | apply below_alloc | apply pw_below_drewN | apply below_drew1) | exact HB.out))); rintro e w45 ⟨rfl, hb⟩; have n0_ := Aside0.mk (Kd.S_below (by (with_reducible repeat (first | apply Kd.S_alloc | apply Kd.S_drewN | apply Kd.S_drew)); exact HO_3.out) hb); have n1_ := Aside0.mk (Kd.R_below (by (with_reducible repeat (first | apply Kd.R_alloc | apply Kd.R_drewN | apply Kd.R_drew)); exact HO262.out) hb); have n2_ := Aside0.mk (Kd.R_below (by (with_reducible repeat (first | apply Kd.R_alloc | apply Kd.R_drewN | apply Kd.R_drew)); exact HO265.out) hb); have n3_ := Aside0.mk (below_step (by repeat (first | (with_reducible first | exact HB.out | apply below_alloc | apply pw_below_drewN | apply below_drew1) | exact HB.out)) hb); clear HO_3; clear HO262; clear HO265; clear HB; have HO_3 := n0_; have HO262 := n1_; have HO265 := n2_; have HB := n3_; clear n0_ n1_ n2_ n3_; (try clear hb); (try clear hb2); (try clear hk); (try clear hi))))
          go_ret
          exact ⟨by first | rfl | (simp [errW_none, errW_some] <;> rfl) | (simp [*, errW_none, errW_some] <;> rfl), by repeat (first | (with_reducible first | exact HB.out | apply below_alloc | apply pw_below_drewN | apply below_drew1) | exact HB.out)⟩
         ·rw [if_neg c37] at H
          have c37b0 : ((t263.length : Int) == 0) = false := beq_eq_false_iff_ne.mpr c37
          have c37b1 : ((t263.length : Int) != 0) = true := bne_iff_ne.mpr c37
          have c37b2 : ¬ (t263 = []) := fun h_ => c37 (by rw [h_]; rfl)
          exfalso
          obtain rfl := Option.some.inj H
          exact absurd hr_ (by decide)
        ·rw [if_neg c35] at H
         have c35b0 : ((t260.length : Int) == 0) = false := beq_eq_false_iff_ne.mpr c35
         have c35b1 : ((t260.length : Int) != 0) = true := bne_iff_ne.mpr c35
         have c35b2 : ¬ (t260 = []) := fun h_ => c35 (by rw [h_]; rfl)
         exfalso
         obtain rfl := Option.some.inj H
         exact absurd hr_ (by decide)
       ·rw [if_neg c33] at H
        have c33b0 : (x5_1 == (wrap64 ((t243.length : Int) - 1))) = false := beq_eq_false_iff_ne.mpr c33
        have c33b1 : (x5_1 != (wrap64 ((t243.length : Int) - 1))) = true := bne_iff_ne.mpr c33
        exfalso
        obtain rfl := Option.some.inj H
        exact absurd hr_ (by decide)
      ·replace c32 := Bool.eq_false_iff.mpr c32
       subst c32
       have H1 : (some false) = some r := by rw [if_neg (show ¬ (false = true) by decide)] at H; exact H
       clear H
       have H := H1
       clear H1
       exfalso
       obtain rfl := Option.some.inj H
       exact absurd hr_ (by decide)
  ·rw [if_neg c6] at H
   have c6b0 : (t244 == 0) = false := beq_eq_false_iff_ne.mpr c6
   have c6b1 : (t244 != 0) = true := bne_iff_ne.mpr c6
   replace H := Option.bind_eq_some_iff.mp H
   obtain ⟨t247, A460, H⟩ := H
   replace H : (some t247) = some r := H
   have A46 := Aside0.mk A460
   clear A460
   obtain rfl := Option.some.inj H
   go_enter Try.func6, Try.ntmps6
   go_wp2_with (first | (go_at_call 9; (with_reducible refine (element_Parse.calls a0 t243 t244 _ ?side1 A5.out).mono ?_); (case side1 => exact Glob.step HG.out (by repeat (first | (with_reducible first | exact HB.out | apply below_alloc | apply pw_below_drewN | apply below_drew1) | exact HB.out))); rintro e w47 ⟨v245, rfl, ho0, hb⟩; have n0_ := Aside0.mk (Kd.S_lower ho0 (below_size (by repeat (first | (with_reducible first | exact HB.out | apply below_alloc | apply pw_below_drewN | apply below_drew1) | exact HB.out)))); have n1_ := Aside0.mk (below_step (by repeat (first | (with_reducible first | exact HB.out | apply below_alloc | apply pw_below_drewN | apply below_drew1) | exact HB.out)) hb); clear HB; have HO246 := n0_; have HB := n1_; clear n0_ n1_; (try clear hb); (try clear hb2); (try clear hk); (try clear hi); (try clear ho0)) | (go_at_call 8; (with_reducible refine (newellaw03_awake.calls k  t247 _ ?side1 A46.out).mono ?_); (case side1 => exact Glob.step HG.out (by repeat (first | (with_reducible first | exact HB.out | apply below_alloc | apply pw_below_drewN | apply below_drew1) | exact HB.out))); rintro e w48 ⟨rfl, hb⟩; have n0_ := Aside0.mk (Kd.S_below (by (with_reducible repeat (first | apply Kd.S_alloc | apply Kd.S_drewN | apply Kd.S_drew)); exact HO246.out) hb); have n1_ := Aside0.mk (below_step (by repeat (first | (with_reducible first | exact HB.out | apply below_alloc | apply pw_below_drewN | apply below_drew1) | exact HB.out)) hb); clear HO246; clear HB; have HO246 := n0_; have HB := n1_; clear n0_ n1_; (try clear hb); (try clear hb2); (try clear hk); (try clear hi)))
   repeat (go_quiet (first | (go_at_call 9; (with_reducible refine (element_Parse.calls a0 t243 t244 _ ?side1 A5.out).mono ?_); (case side1 => exact Glob.step HG.out (by repeat (first | (with_reducible first | exact HB.out | apply below_alloc | apply pw_below_drewN | apply below_drew1) | exact HB.out))); rintro e w47 ⟨v245, rfl, ho0, hb⟩; have n0_ := Aside0.mk (Kd.S_lower ho0 (below_size (by repeat (first | (with_reducible first | exact HB.out | apply below_alloc | apply pw_below_drewN | apply below_drew1) | exact HB.out)))); have n1_ := Aside0.mk (below_step (by repeat (first | (with_reducible first | exact HB.out | apply below_alloc | apply pw_below_drewN | apply below_drew1) | exact HB.out)) hb); clear HB; have HO246 := n0_; have HB := n1_; clear n0_ n1_; (try clear hb); (try clear hb2); (try clear hk); (try clear hi); (try clear ho0)) | (go_at_call 8; (with_reducible refine (newellaw03_awake.calls k  t247 _ ?side1 A46.out).mono ?_); (case side1 => exact Glob.step HG.out (by repeat (first | (with_reducible first | exact HB.out | apply below_alloc | apply pw_below_drewN | apply below_drew1) | exact HB.out))); rintro e w48 ⟨rfl, hb⟩; have n0_ := Aside0.mk (Kd.S_below (by (with_reducible repeat (first | apply Kd.S_alloc | apply Kd.S_drewN | apply Kd.S_drew)); exact HO246.out) hb); have n1_ := Aside0.mk (below_step (by repeat (first | (with_reducible first | exact HB.out | apply below_alloc | apply pw_below_drewN | apply below_drew1) | exact HB.out)) hb); clear HO246; clear HB; have HO246 := n0_; have HB := n1_; clear n0_ n1_; (try clear hb); (try clear hb2); (try clear hk); (try clear hi))); try go_wp2_with (first | (go_at_call 9; (with_reducible refine (element_Parse.calls a0 t243 t244 _ ?side1 A5.out).mono ?_); (case side1 => exact Glob.step HG.out (by repeat (first | (with_reducible first | exact HB.out | apply below_alloc | apply pw_below_drewN | apply below_drew1) | exact HB.out))); rintro e w47 ⟨v245, rfl, ho0, hb⟩; have n0_ := Aside0.mk (Kd.S_lower ho0 (below_size (by repeat (first | (with_reducible first | exact HB.out | apply below_alloc | apply pw_below_drewN | apply below_drew1) | exact HB.out)))); have n1_ := Aside0.mk (below_step (by repeat (first | (with_reducible first | exact HB.out | apply below_alloc | apply pw_below_drewN | apply below_drew1) | exact HB.out)) hb); clear HB; have HO246 := n0_; have HB := n1_; clear n0_ n1_; (try clear hb); (try clear hb2); (try clear hk); (try clear hi); (try clear ho0)) | (go_at_call 8; (with_reducible refine (newellaw03_awake.calls k  t247 _ ?side1 A46.out).mono ?_); (case side1 => exact Glob.step HG.out (by repeat (first | (with_reducible first | exact HB.out | apply below_alloc | apply pw_below_drewN | apply below_drew1) | exact HB.out))); rintro e w48 ⟨rfl, hb⟩; have n0_ := Aside0.mk (Kd.S_below (by (with_reducible repeat (first | apply Kd.S_alloc | apply Kd.S_drewN | apply Kd.S_drew)); exact HO246.out) hb); have n1_ := Aside0.mk (below_step (by repeat (first | (with_reducible first | exact HB.out | apply below_alloc | apply pw_below_drewN | apply below_drew1) | exact HB.out)) hb); clear HO246; clear HB; have HO246 := n0_; have HB := n1_; clear n0_ n1_; (try clear hb); (try clear hb2); (try clear hk); (try clear hi))))
   go_ret
   exact ⟨by first | rfl | (simp [errW_none, errW_some] <;> rfl) | (simp [*, errW_none, errW_some] <;> rfl), by repeat (first | (with_reducible first | exact HB.out | apply below_alloc | apply pw_below_drewN | apply below_drew1) | exact HB.out)⟩

end Go.Proofs.Ytkoogebfdinbnaa.Q

namespace Go.Proofs.Ytkoogebfdinbnaa.Q
open Go.RowKit Go.Proofs.YtkoogebfdinbnaaW.PrintWords Go.Proofs.YtkoogebfdinbnaaW.PrintLast Go.Proofs.YtkoogebfdinbnaaW.Own Go.Proofs.YtkoogebfdinbnaaW.PrintMore
set_option linter.unusedVariables false
set_option linter.unusedSimpArgs false
namespace Rd
open Go Go.RowKit
def Opens {α : Type} (t : TypeId) (d : Kd α) (wf : α → Prop) (bulk : α → Nat) : Prop :=
  Try.prog.cellsOf t = d.sz ∧ ∀ (H : Type) (enc : TypeId × Value → H) (W : World) (fuel : Nat) (cs : List Value) (dd : DataW H) (ps : List MemPlace),
    DataW.trod enc Try.prog W 0 (fun _ => true) true fuel t cs = some (dd, ps) → ∃ x, d.K W x cs ∧ wf x ∧ bulk x ≤ Rows.uptoBulk dd
def OpensF {β : Type} (fs : List Field) (off : Nat) (d : Kd β) (wf : β → Prop) (bulk : β → Nat) : Prop :=
  ∀ (H : Type) (enc : TypeId × Value → H) (W : World) (n : Nat) (cs : List Value) (xs : List (DataW H × List MemPlace)), xs.length = fs.length →
    (∀ (i : Nat) (f : Field), fs[i]? = some f → DataW.trod enc Try.prog W 0 (fun _ => true) true n f.type ((cs.drop f.offset).take (Try.prog.cellsOf f.type)) = xs[i]?) → cs.length = off + d.sz →
    ∃ x, d.K W x (cs.drop off) ∧ wf x ∧ bulk x ≤ Rows.uptoBulkAll (xs.map (·.1))
theorem OpensF.cons {α β : Type} {f : Field} {fs : List Field} {off off' : Nat} {a : Kd α} {b : Kd β} {wf : α → Prop} {bulk : α → Nat} {wf' : β → Prop} {bulk' : β → Nat} (ho : f.offset = off) (ho' : off' = off + a.sz) (h : Opens f.type a wf bulk) (hr : OpensF fs off' b wf' bulk') :
    OpensF (f :: fs) off (Kd.pair a b) (fun x => wf x.1 ∧ wf' x.2) (fun x => bulk x.1 + bulk' x.2) := by
  intro H enc W n cs xs hl ht hc
  subst ho'
  obtain ⟨hsz, hop⟩ := h
  obtain ⟨x0, xs', rfl⟩ : ∃ x0 xs', xs = x0 :: xs' := by
    match xs, hl with
    | x0 :: xs', _ => exact ⟨x0, xs', rfl⟩
  have h0 := ht 0 f rfl
  rw [ho, hsz] at h0
  obtain ⟨x, hk, hw, hb⟩ := hop H enc W n _ _ _ h0
  have hc' : cs.length = off + a.sz + b.sz := by
    have e : (Kd.pair a b).sz = a.sz + b.sz := rfl
    rw [e] at hc
    omega
  obtain ⟨y, hk', hw', hb'⟩ := hr H enc W n cs xs' (by simpa using hl) (fun i g hg => by have := ht (i + 1) g (by simpa using hg); simpa using this) hc'
  refine ⟨(x, y), ⟨(cs.drop off).take a.sz, cs.drop (off + a.sz), ?_, hk, hk'⟩, ⟨hw, hw'⟩, ?_⟩
  · rw [← List.drop_drop, List.take_append_drop]
  · simp only [List.map_cons, Rows.uptoBulkAll]
    omega
theorem glob {W : World} (h : W.ShapedOpen Try.prog) : Glob W :=
  cell_of_shapedOpen_int (g := 0) (t := 3) (zero := #[.int .i64 0]) (k := .i64) h (of_decide_eq_true (by kernel_rfl)) (by kernel_rfl) rfl (by kernel_rfl) (by kernel_rfl) Try.underlying3
end Rd
end Go.Proofs.Ytkoogebfdinbnaa.Q

-- Printed by this session's wip/np.py over the kit's print program. Not trusted: Lean checks it.
namespace Go.Proofs.Ytkoogebfdinbnaa.Q
open Go.RowKit Go.Proofs.YtkoogebfdinbnaaW.PrintWords Go.Proofs.YtkoogebfdinbnaaW.PrintLast Go.Proofs.YtkoogebfdinbnaaW.Own Go.Proofs.YtkoogebfdinbnaaW.PrintMore
set_option linter.unusedVariables false
set_option linter.unusedSimpArgs false

/-- The pure statement of newellaw03_ElementKids. -/
def newellaw03_ElementKids.Pure : Prop := ∀ (a0 : ByteArray), (a0.size ≤ 140737488351232) → ∃ k, newellaw03_ElementKids.f k a0 = some true
end Go.Proofs.Ytkoogebfdinbnaa.Q

namespace Go.Proofs.Ytkoogebfdinbnaa.Pure
open Go Go.RowKit Go.Proofs.Ytkoogebfdinbnaa.Q Go.Proofs.YtkoogebfdinbnaaW.PrintWords
set_option linter.unusedSimpArgs false
set_option linter.unusedVariables false
theorem attrs_few : ∀ (n : Nat) (nm : List UInt8) (ys : List S68) (l : List UInt8) (t : S40) (r : List UInt8), Tk.attrs n nm ys l = some (t, r) → t.f3.length + r.length ≤ ys.length + l.length
  | 0, _, _, _, _, _, h => by simp [Tk.attrs] at h
  | n + 1, nm, ys, l, t, r, h => by
    rw [Tk.attrs] at h
    (try dsimp only at h)
    have hs := skip_len l
    cases h1 : Tk.behind [62] (Tk.skip l) with
    | some q =>
      rw [h1] at h
      obtain ⟨rfl, rfl⟩ := Prod.mk.inj (Option.some.inj h)
      have := behind_len h1
      show ys.length + _ ≤ _
      omega
    | none =>
      rw [h1] at h
      (try dsimp only at h)
      cases h2 : Tk.behind [47, 62] (Tk.skip l) with
      | some q =>
        rw [h2] at h
        obtain ⟨rfl, rfl⟩ := Prod.mk.inj (Option.some.inj h)
        have := behind_len h2
        show ys.length + _ ≤ _
        omega
      | none =>
        rw [h2] at h
        (try dsimp only at h)
        split at h
        · cases h
        · obtain ⟨⟨x, q⟩, h3, h⟩ := Option.bind_eq_some_iff.1 h
          (try dsimp only at h)
          split at h
          · cases h
          · have h5 := attrs_few n nm _ q t r h
            have h6 := attr_len h3
            rw [List.length_append, List.length_singleton] at h5
            omega
theorem attrs_text : ∀ (n : Nat) (nm : List UInt8) (ys : List S68) (l : List UInt8) (t : S40) (r : List UInt8), Tk.attrs n nm ys l = some (t, r) → t.f2.size = 0
  | 0, _, _, _, _, _, h => by simp [Tk.attrs] at h
  | n + 1, nm, ys, l, t, r, h => by
    rw [Tk.attrs] at h
    (try dsimp only at h)
    cases h1 : Tk.behind [62] (Tk.skip l) with
    | some q =>
      rw [h1] at h
      obtain ⟨rfl, rfl⟩ := Prod.mk.inj (Option.some.inj h)
      rfl
    | none =>
      rw [h1] at h
      (try dsimp only at h)
      cases h2 : Tk.behind [47, 62] (Tk.skip l) with
      | some q =>
        rw [h2] at h
        obtain ⟨rfl, rfl⟩ := Prod.mk.inj (Option.some.inj h)
        rfl
      | none =>
        rw [h2] at h
        (try dsimp only at h)
        split at h
        · cases h
        · obtain ⟨⟨x, q⟩, h3, h⟩ := Option.bind_eq_some_iff.1 h
          (try dsimp only at h)
          split at h
          · cases h
          · exact attrs_text n nm _ q t r h
theorem ents_len : ∀ (n : Nat) (l t : List UInt8), Tk.ents n l = some t → t.length ≤ 4 * l.length
  | 0, _, _, h => by simp [Tk.ents] at h
  | n + 1, l, t, h => by
    rw [Tk.ents] at h
    cases h1 : Tk.upto [38] l with
    | none =>
      rw [h1] at h
      obtain rfl := Option.some.inj h
      omega
    | some p =>
      obtain ⟨a, b⟩ := p
      rw [h1] at h
      (try dsimp only at h)
      cases h2 : Tk.upto [59] b with
      | none => rw [h2] at h; cases h
      | some q =>
        obtain ⟨nm, r⟩ := q
        rw [h2] at h
        (try dsimp only at h)
        obtain ⟨c, h3, h⟩ := Option.bind_eq_some_iff.1 h
        obtain ⟨u, h4, h⟩ := Option.map_eq_some_iff.1 h
        subst h
        have e1 := upto_sum h1
        have e2 := upto_sum h2
        have e3 := entity_len h3
        have e4 := ents_len n r u h4
        rw [List.length_append, List.length_append]
        simp only [List.length_cons, List.length_nil] at e1 e2
        omega
theorem next_few {fst : Bool} {l r : List UInt8} {t : S40} (h : Tk.next fst l = some (t, r)) : t.f3.length ≤ l.length ∧ t.f2.size ≤ 4 * l.length := by
  unfold Tk.next at h
  cases h1 : Tk.behind [60, 33, 45, 45] l with
  | some q =>
    rw [h1] at h
    unfold Tk.comment at h
    obtain ⟨⟨a, b⟩, h2, h⟩ := Option.bind_eq_some_iff.1 h
    (try dsimp only at h)
    split at h
    · cases h
    · obtain ⟨rfl, _⟩ := Prod.mk.inj (Option.some.inj h)
      exact ⟨Nat.zero_le _, by have e1 := (upto_len h2).1; have e2 := behind_len h1; show (Tk.bs a).size ≤ _; rw [bs_size]; omega⟩
  | none =>
  rw [h1] at h
  (try dsimp only at h)
  cases h1 : Tk.behind [60, 33, 91, 67, 68, 65, 84, 65, 91] l with
  | some q =>
    rw [h1] at h
    obtain ⟨⟨a, b⟩, h2, h⟩ := Option.map_eq_some_iff.1 (show (Tk.upto [93, 93, 62] q).map _ = some (t, r) from h)
    obtain ⟨rfl, _⟩ := Prod.mk.inj h
    exact ⟨Nat.zero_le _, by have e1 := (upto_len h2).1; have e2 := behind_len h1; show (Tk.bs a).size ≤ _; rw [bs_size]; omega⟩
  | none =>
  rw [h1] at h
  (try dsimp only at h)
  cases h1 : Tk.behind [60, 63] l with
  | some q =>
    rw [h1] at h
    obtain ⟨⟨a, b⟩, h2, h⟩ := Option.bind_eq_some_iff.1 (show (Tk.upto [63, 62] q).bind _ = some (t, r) from h)
    (try dsimp only at h)
    split at h
    · obtain ⟨rfl, _⟩ := Prod.mk.inj (Option.some.inj h)
      exact ⟨Nat.zero_le _, by have e1 := (upto_len h2).1; have e2 := behind_len h1; show (Tk.bs a).size ≤ _; rw [bs_size]; omega⟩
    · cases h
  | none =>
  rw [h1] at h
  (try dsimp only at h)
  cases h1 : Tk.behind [60, 47] l with
  | some q =>
    rw [h1] at h
    (try dsimp only at h)
    unfold Tk.close at h
    split at h
    · cases h
    · obtain ⟨b, h2, h⟩ := Option.map_eq_some_iff.1 h
      obtain ⟨rfl, _⟩ := Prod.mk.inj h
      exact ⟨Nat.zero_le _, Nat.zero_le _⟩
  | none =>
  rw [h1] at h
  (try dsimp only at h)
  cases h1 : Tk.behind [60] l with
  | some q =>
    rw [h1] at h
    have e := behind_sum h1
    (try dsimp only at h)
    unfold Tk.opening at h
    split at h
    · cases h
    · have e2 := attrs_few _ _ _ _ _ _ h
      rw [List.length_drop] at e2
      have e3 := attrs_text _ _ _ _ _ _ h
      simp only [List.length_cons, List.length_nil] at e e2
      exact ⟨by omega, by omega⟩
  | none =>
  rw [h1] at h
  (try dsimp only at h)
  unfold Tk.text at h
  (try dsimp only at h)
  obtain ⟨x, hx, h⟩ := Option.map_eq_some_iff.1 h
  obtain ⟨rfl, _⟩ := Prod.mk.inj h
  refine ⟨Nat.zero_le _, ?_⟩
  have e1 := ents_len _ _ _ hx
  have e2 : (l.takeWhile (· != 60)).length ≤ l.length := (List.takeWhile_sublist _).length_le
  show (Tk.bs x).size ≤ _
  rw [bs_size]
  omega
theorem pieces_few : ∀ (n : Nat) (fst : Bool) (l : List UInt8) (ts : List S40), Tk.pieces n fst l = some ts → ts.length ≤ l.length ∧ ∀ t ∈ ts, t.f3.length ≤ l.length ∧ t.f2.size ≤ 4 * l.length
  | 0, _, _, _, h => by simp [Tk.pieces] at h
  | n + 1, fst, l, ts, h => by
    rw [Tk.pieces] at h
    by_cases hl : l = []
    · rw [if_pos hl] at h
      obtain rfl := Option.some.inj h
      exact ⟨Nat.zero_le _, fun t ht => absurd ht (by simp)⟩
    · rw [if_neg hl] at h
      obtain ⟨⟨t, r⟩, h1, h⟩ := Option.bind_eq_some_iff.1 h
      obtain ⟨us, h2, h⟩ := Option.map_eq_some_iff.1 h
      subst h
      have e1 := next_len hl h1
      have e2 := next_few h1
      obtain ⟨e3, e4⟩ := pieces_few n false r us h2
      refine ⟨by rw [List.length_cons]; omega, fun x hx => ?_⟩
      rcases List.mem_cons.1 hx with rfl | hx
      · exact e2
      · have := e4 x hx
        omega
theorem split_few (l : List UInt8) : (Tk.split l).1.length ≤ l.length ∧ ∀ t ∈ (Tk.split l).1, t.f3.length ≤ l.length ∧ t.f2.size ≤ 4 * l.length := by
  unfold Tk.split
  by_cases h1 : 20000 < l.length
  · rw [if_pos h1]; exact ⟨Nat.zero_le _, fun t ht => absurd ht (by simp)⟩
  · rw [if_neg h1]
    by_cases h2 : l.any (fun c => !Tk.allowed c) = true
    · rw [if_pos h2]; exact ⟨Nat.zero_le _, fun t ht => absurd ht (by simp)⟩
    · rw [if_neg h2]
      cases hp : Tk.pieces (l.length + 1) true l with
      | none => exact ⟨Nat.zero_le _, fun t ht => absurd ht (by simp)⟩
      | some ts => exact pieces_few _ _ _ _ hp
theorem sum_le (ts : List S40) (m : Nat) (h : ∀ t ∈ ts, t.f2.size ≤ m) : (ts.map fun t => t.f2.size).sum ≤ ts.length * m := by
  induction ts with
  | nil => simp
  | cons t ts ih =>
    rw [List.map_cons, List.sum_cons, List.length_cons, Nat.succ_mul]
    have h1 := h t List.mem_cons_self
    have h2 := ih (fun x hx => h x (List.mem_cons_of_mem _ hx))
    omega
theorem split_fits (l : List UInt8) (hl : l.length ≤ 5000) : El.fits (Tk.split l).1 = true := by
  obtain ⟨h1, h2⟩ := split_few l
  have h3 := sum_le (Tk.split l).1 20000 (fun t ht => by have := (h2 t ht).2; omega)
  unfold El.fits
  rw [Bool.and_eq_true, Bool.and_eq_true]
  refine ⟨⟨decide_eq_true (Nat.le_trans h3 (by omega)), ?_⟩, decide_eq_true (by omega)⟩
  rw [List.all_eq_true]
  intro t ht
  have := (h2 t ht).1
  exact decide_eq_true (by omega)
def parseL (l : List UInt8) : List S29 × Int := if (Tk.split l).2 = 0 then El.tree (Tk.split l).1 else ([], (Tk.split l).2)
theorem parse_told (a : ByteArray) (ha : a.size ≤ 5000) : element_Parse.f a = some (parseL a.data.toList) := by
  have hz := bs_size a.data.toList
  rw [bs_data] at hz
  unfold element_Parse.f
  have hs : token_Split.f a = some (Tk.split a.data.toList) := by
    unfold token_Split.f
    rw [if_pos (by omega)]
  rw [hs, Option.bind_some]
  unfold parseL
  split
  · have ht : element_Tree.f (Tk.split a.data.toList).1 = some (El.tree (Tk.split a.data.toList).1) := by
      unfold element_Tree.f
      rw [if_pos (split_fits _ (by omega))]
    rw [ht]; rfl
  · rfl
end Go.Proofs.Ytkoogebfdinbnaa.Pure

namespace Go.Proofs.Ytkoogebfdinbnaa.Pure
open Go Go.RowKit Go.Proofs.Ytkoogebfdinbnaa.Q Go.Proofs.YtkoogebfdinbnaaW.PrintWords
set_option linter.unusedSimpArgs false
set_option linter.unusedVariables false
abbrev Nd := S29
def at0 (l : List Nd) (i : Int) : Nd := l.getD i.toNat El.zn
theorem at0_app (l m : List Nd) (i : Int) (h0 : 0 ≤ i) (h1 : i < (l.length : Int)) : at0 (l ++ m) i = at0 l i := by
  unfold at0
  rw [List.getD_eq_getElem?_getD, List.getD_eq_getElem?_getD, List.getElem?_append_left (by omega)]
theorem at0_last (l : List Nd) (n : Nd) : at0 (l ++ [n]) (l.length : Int) = n := by
  unfold at0
  rw [List.getD_eq_getElem?_getD, Int.toNat_natCast, List.getElem?_append_right (Nat.le_refl _), Nat.sub_self]; rfl
theorem at0_mem {l : List Nd} {i : Nat} (h : i < l.length) : l[i]? = some (at0 l (i : Int)) := by
  unfold at0
  rw [List.getD_eq_getElem?_getD, Int.toNat_natCast, List.getElem?_eq_getElem h]; rfl
def Wf (l : List Nd) (op : List Int) : Prop :=
  (l = [] → op = []) ∧ (∀ n : Nd, l[0]? = some n → n.f0 = -1 ∧ n.f1 ≠ El.nul) ∧ (∀ (i : Nat) (n : Nd), l[i]? = some n → 0 < i → 0 ≤ n.f0 ∧ n.f0 < (i : Int) ∧ (at0 l n.f0).f1 ≠ El.nul) ∧ (∀ i ∈ op, 0 ≤ i ∧ i < (l.length : Int) ∧ (at0 l i).f1 ≠ El.nul)
theorem wf_nil : Wf [] [] := ⟨fun _ => rfl, fun n h => by simp at h, fun i n h => by simp at h, fun i h => absurd h (by simp)⟩
theorem inner_some {op : List Int} (h : op ≠ []) : El.inner op ∈ op := by
  unfold El.inner
  cases hx : op.getLast? with
  | none => exact absurd (List.getLast?_eq_none_iff.1 hx) h
  | some x => exact List.mem_of_getLast? hx
theorem inner_ge {l : List Nd} {op : List Int} (h : Wf l op) (hi : ¬ El.inner op < 0) : op ≠ [] := by
  rintro rfl
  exact hi (by decide)
theorem wf_put {l : List Nd} {op : List Int} (h : Wf l op) (n : Nd) (hp : n.f0 = El.inner op) (hr : op = [] → l = [] ∧ n.f1 ≠ El.nul) : Wf (l ++ [n]) op := by
  obtain ⟨h1, h2, h3, h4⟩ := h
  refine ⟨fun h => absurd h (by simp), fun m hm => ?_, fun i m hm hi => ?_, fun i hi => ?_⟩
  · by_cases hl : l = []
    · subst hl
      have ho := h1 rfl
      obtain rfl : n = m := by simpa using hm
      exact ⟨by rw [hp, ho]; rfl, (hr ho).2⟩
    · have hpos : 0 < l.length := List.length_pos_iff.2 hl
      rw [List.getElem?_append_left hpos] at hm
      exact h2 m hm
  · rcases Nat.lt_trichotomy i l.length with hlt | he | hgt
    · rw [List.getElem?_append_left hlt] at hm
      obtain ⟨a, b, c⟩ := h3 i m hm hi
      exact ⟨a, b, by rw [at0_app _ _ _ a (by omega)]; exact c⟩
    · rw [he, List.getElem?_append_right (Nat.le_refl _), Nat.sub_self] at hm
      obtain rfl : n = m := by simpa using hm
      have ho : op ≠ [] := fun ho => by
        have := (hr ho).1
        rw [this] at he
        simp at he
        omega
      obtain ⟨a, b, c⟩ := h4 _ (inner_some ho)
      rw [hp]
      exact ⟨a, by omega, by rw [at0_app _ _ _ a b]; exact c⟩
    · rw [List.getElem?_eq_none (by rw [List.length_append, List.length_singleton]; omega)] at hm
      cases hm
  · obtain ⟨a, b, c⟩ := h4 i hi
    exact ⟨a, by rw [List.length_append, List.length_singleton]; omega, by rw [at0_app _ _ _ a b]; exact c⟩
theorem at0_set (l : List Nd) (k : Nat) (n : Nd) (hn : n.f1 = (at0 l (k : Int)).f1) (i : Int) : (at0 (l.set k n) i).f1 = (at0 l i).f1 := by
  unfold at0 at *
  rw [List.getD_eq_getElem?_getD, List.getD_eq_getElem?_getD, List.getElem?_set]
  rw [List.getD_eq_getElem?_getD, Int.toNat_natCast] at hn
  by_cases hk : k = i.toNat
  · rw [if_pos hk]
    by_cases hl : k < l.length
    · rw [if_pos hl, ← hk, ← hn]; rfl
    · rw [if_neg hl, ← hk, List.getElem?_eq_none (by omega)]
  · rw [if_neg hk]
theorem wf_set {l : List Nd} {op : List Int} (h : Wf l op) (k : Nat) (n : Nd) (h0 : n.f0 = (at0 l (k : Int)).f0) (hn : n.f1 = (at0 l (k : Int)).f1) (hk : k < l.length) : Wf (l.set k n) op := by
  obtain ⟨h1, h2, h3, h4⟩ := h
  have key : ∀ (i : Nat) m, (l.set k n)[i]? = some m → ∃ m', l[i]? = some m' ∧ m.f0 = m'.f0 ∧ m.f1 = m'.f1 := by
    intro i m hm
    rw [List.getElem?_set] at hm
    by_cases hki : k = i
    · rw [if_pos hki, if_pos hk] at hm
      obtain rfl : n = m := by simpa using hm
      exact ⟨at0 l (k : Int), by rw [← hki]; exact at0_mem hk, h0, hn⟩
    · rw [if_neg hki] at hm
      exact ⟨m, hm, rfl, rfl⟩
  refine ⟨fun h => ?_, fun m hm => ?_, fun i m hm hi => ?_, fun i hi => ?_⟩
  · exact h1 (by simpa using h)
  · obtain ⟨m', e, a, b⟩ := key 0 m hm
    rw [a, b]
    exact h2 m' e
  · obtain ⟨m', e, a, b⟩ := key i m hm
    rw [a, at0_set l k n hn]
    exact h3 i m' e hi
  · obtain ⟨a, b, c⟩ := h4 i hi
    exact ⟨a, by rw [List.length_set]; exact b, by rw [at0_set l k n hn]; exact c⟩
theorem wf_push {l : List Nd} {op : List Int} (h : Wf l op) (i : Int) (h0 : 0 ≤ i) (h1 : i < (l.length : Int)) (h2 : (at0 l i).f1 ≠ El.nul) : Wf l (op ++ [i]) := by
  obtain ⟨a, b, c, d⟩ := h
  refine ⟨fun h => ?_, b, c, fun j hj => ?_⟩
  · rw [h] at h1; simp at h1; omega
  · rcases List.mem_append.1 hj with hj | hj
    · exact d j hj
    · rw [List.mem_singleton] at hj
      rw [hj]; exact ⟨h0, h1, h2⟩
theorem wf_pop {l : List Nd} {op : List Int} (h : Wf l op) : Wf l op.dropLast := by
  obtain ⟨a, b, c, d⟩ := h
  refine ⟨fun h => by rw [a h]; rfl, b, c, fun j hj => d j ?_⟩
  rw [List.dropLast_eq_take] at hj
  exact List.mem_of_mem_take hj
theorem put_some {l l' : List Nd} {op : List Int} {nm tx : ByteArray} {at_ : List El.Att} (h : El.put l op nm tx at_ = some l') : l' = l ++ [⟨El.inner op, nm, tx, at_⟩] ∧ l.length < 2000 := by
  unfold El.put at h
  split at h
  · rename_i hl
    injection h with h
    exact ⟨h.symm, hl⟩
  · cases h
theorem take_wf {l : List Nd} {op : List Int} (h : Wf l op) (t : El.Tok) (s : El.St) (ht : El.take l op t = .ok s) : Wf s.1 s.2 := by
  unfold El.take at ht
  split at ht
  · injection ht with ht; rw [← ht]; exact h
  split at ht
  · injection ht with ht; rw [← ht]; exact h
  split at ht
  · unfold El.begin_ at ht
    split at ht
    · cases ht
    rename_i hnm
    split at ht
    · cases ht
    rename_i hroot
    split at ht
    · cases ht
    split at ht
    · cases ht
    · rename_i l' hp
      injection ht with ht
      obtain ⟨e, _⟩ := put_some hp
      rw [← ht, e]
      have hw : Wf (l ++ [⟨El.inner op, t.f1, El.nul, t.f3⟩]) op := wf_put h _ rfl (fun ho => ⟨Classical.byContradiction fun hl => hroot ⟨ho, hl⟩, hnm⟩)
      show Wf _ (if t.f4 = true then op else op ++ [(l.length : Int)])
      split
      · exact hw
      · exact wf_push hw _ (by omega) (by rw [List.length_append, List.length_singleton]; omega) (by rw [at0_last]; exact hnm)
  split at ht
  · unfold El.end_ at ht
    split at ht
    · cases ht
    split at ht
    · injection ht with ht
      rw [← ht]
      exact wf_pop h
    · cases ht
  split at ht
  · unfold El.text at ht
    split at ht
    · split at ht
      · injection ht with ht; rw [← ht]; exact h
      · cases ht
    rename_i hin
    have ho := inner_ge h hin
    split at ht
    · injection ht with ht; rw [← ht]; exact h
    split at ht
    · rename_i k hk
      have hkl := El.lastI_lt l _ k hk
      split at ht
      · injection ht with ht
        rw [← ht]
        exact wf_set h k _ rfl rfl hkl
      · split at ht
        · cases ht
        · rename_i l' hp
          injection ht with ht
          rw [← ht, (put_some hp).1]
          exact wf_put h _ rfl (fun h => absurd h ho)
    · split at ht
      · cases ht
      · rename_i l' hp
        injection ht with ht
        rw [← ht, (put_some hp).1]
        exact wf_put h _ rfl (fun h => absurd h ho)
  · cases ht
theorem take_err {l : List Nd} {op : List Int} (t : El.Tok) (e : Int) (ht : El.take l op t = .error e) : e ≠ 0 := by
  unfold El.take at ht
  split at ht
  · cases ht
  split at ht
  · cases ht
  split at ht
  · unfold El.begin_ at ht
    split at ht
    · injection ht with ht; rw [← ht]; decide
    split at ht
    · injection ht with ht; rw [← ht]; decide
    split at ht
    · injection ht with ht; rw [← ht]; decide
    split at ht
    · injection ht with ht; rw [← ht]; decide
    · cases ht
  split at ht
  · unfold El.end_ at ht
    split at ht
    · injection ht with ht; rw [← ht]; decide
    split at ht
    · cases ht
    · injection ht with ht; rw [← ht]; decide
  split at ht
  · unfold El.text at ht
    split at ht
    · split at ht
      · cases ht
      · injection ht with ht; rw [← ht]; decide
    split at ht
    · cases ht
    split at ht
    · split at ht
      · cases ht
      · split at ht
        · injection ht with ht; rw [← ht]; decide
        · cases ht
    · split at ht
      · injection ht with ht; rw [← ht]; decide
      · cases ht
  · injection ht with ht; rw [← ht]; decide
theorem all_wf : ∀ (ts : List El.Tok) (l : List Nd) (op : List Int) (s : El.St), Wf l op → El.all l op ts = .ok s → Wf s.1 s.2
  | [], l, op, s, h, ha => by
    injection ha with ha
    rw [← ha]; exact h
  | t :: ts, l, op, s, h, ha => by
    rw [El.all] at ha
    cases ht : El.take l op t with
    | error e => rw [ht] at ha; cases ha
    | ok s1 =>
      rw [ht] at ha
      exact all_wf ts s1.1 s1.2 s (take_wf h t s1 ht) ha
theorem all_err : ∀ (ts : List El.Tok) (l : List Nd) (op : List Int) (e : Int), El.all l op ts = .error e → e ≠ 0
  | [], l, op, e, ha => by cases ha
  | t :: ts, l, op, e, ha => by
    rw [El.all] at ha
    cases ht : El.take l op t with
    | error e1 => rw [ht] at ha; injection ha with ha; rw [← ha]; exact take_err t e1 ht
    | ok s1 =>
      rw [ht] at ha
      exact all_err ts s1.1 s1.2 e ha
theorem tree_ok (ts : List El.Tok) (h : (El.tree ts).2 = 0) : ∃ l, El.all [] [] ts = .ok (l, []) ∧ l ≠ [] ∧ El.tree ts = (l, 0) := by
  unfold El.tree at h ⊢
  cases ha : El.all [] [] ts with
  | error e =>
    rw [ha] at h
    exact absurd h (all_err _ _ _ _ ha)
  | ok s =>
    rw [ha] at h
    simp only at h ⊢
    by_cases hq : s.1 = [] ∨ s.2 ≠ []
    · rw [if_pos hq] at h
      cases h
    · rw [if_neg hq]
      have h1 : s.1 ≠ [] := fun h => hq (.inl h)
      have h2 : s.2 = [] := Classical.byContradiction fun h => hq (.inr h)
      exact ⟨s.1, by rw [← h2], h1, rfl⟩
theorem parse_ok (s : List UInt8) (h : (parseL s).2 = 0) : ∃ l ts, parseL s = (l, 0) ∧ Tk.split s = (ts, 0) ∧ El.all [] [] ts = .ok (l, []) ∧ l ≠ [] ∧ Wf l [] := by
  unfold parseL at h ⊢
  by_cases hs : (Tk.split s).2 = 0
  · rw [if_pos hs] at h ⊢
    obtain ⟨l, h1, h2, h3⟩ := tree_ok _ h
    exact ⟨l, (Tk.split s).1, h3, by rw [← hs], h1, h2, all_wf _ _ _ _ wf_nil h1⟩
  · rw [if_neg hs] at h
    exact absurd h hs
theorem take_len {l : List Nd} {op : List Int} (h : l.length ≤ 2000) (t : El.Tok) (s : El.St) (ht : El.take l op t = .ok s) : s.1.length ≤ 2000 := by
  have putd : ∀ (nm tx : ByteArray) (at_ : List El.Att) (l' : List Nd), El.put l op nm tx at_ = some l' → l'.length ≤ 2000 := by
    intro nm tx at_ l' hp
    obtain ⟨e, hl⟩ := put_some hp
    rw [e, List.length_append, List.length_singleton]
    omega
  unfold El.take at ht
  split at ht
  · injection ht with ht; rw [← ht]; exact h
  split at ht
  · injection ht with ht; rw [← ht]; exact h
  split at ht
  · unfold El.begin_ at ht
    split at ht
    · cases ht
    split at ht
    · cases ht
    split at ht
    · cases ht
    split at ht
    · cases ht
    · rename_i l' hp
      injection ht with ht
      rw [← ht]
      exact putd _ _ _ _ hp
  split at ht
  · unfold El.end_ at ht
    split at ht
    · cases ht
    split at ht
    · injection ht with ht; rw [← ht]; exact h
    · cases ht
  split at ht
  · unfold El.text at ht
    split at ht
    · split at ht
      · injection ht with ht; rw [← ht]; exact h
      · cases ht
    split at ht
    · injection ht with ht; rw [← ht]; exact h
    split at ht
    · split at ht
      · injection ht with ht
        rw [← ht, List.length_set]
        exact h
      · split at ht
        · cases ht
        · rename_i l' hp
          injection ht with ht
          rw [← ht]
          exact putd _ _ _ _ hp
    · split at ht
      · cases ht
      · rename_i l' hp
        injection ht with ht
        rw [← ht]
        exact putd _ _ _ _ hp
  · cases ht
theorem all_len : ∀ (ts : List El.Tok) (l : List Nd) (op : List Int) (s : El.St), l.length ≤ 2000 → El.all l op ts = .ok s → s.1.length ≤ 2000
  | [], l, op, s, h, ha => by
    injection ha with ha
    rw [← ha]; exact h
  | t :: ts, l, op, s, h, ha => by
    rw [El.all] at ha
    cases ht : El.take l op t with
    | error e => rw [ht] at ha; cases ha
    | ok s1 =>
      rw [ht] at ha
      exact all_len ts s1.1 s1.2 s (take_len h t s1 ht) ha
end Go.Proofs.Ytkoogebfdinbnaa.Pure

namespace Go.Proofs.Ytkoogebfdinbnaa.Pure
open Go Go.RowKit Go.Proofs.Ytkoogebfdinbnaa.Q Go.Proofs.YtkoogebfdinbnaaW.PrintWords Go.Proofs.YtkoogebfdinbnaaW.PrintLast Go.Proofs.YtkoogebfdinbnaaW.Own Go.Proofs.YtkoogebfdinbnaaW.PrintMore
set_option linter.unusedSimpArgs false
set_option linter.unusedVariables false
def Ans {α : Type} (f : Nat → Option α) (v : α) : Prop := ∃ K, ∀ k, K ≤ k → f k = some v
theorem Ans.now {α : Type} {f : Nat → Option α} {v : α} (h : ∀ k, f k = some v) : Ans f v := ⟨0, fun k _ => h k⟩
theorem Ans.succ {α : Type} {f g : Nat → Option α} {v : α} (h : Ans g v) (e : ∀ k, f (k + 1) = g k) : Ans f v := by
  obtain ⟨K, h⟩ := h
  refine ⟨K + 1, fun k hk => ?_⟩
  obtain ⟨j, rfl⟩ : ∃ j, k = j + 1 := ⟨k - 1, by omega⟩
  rw [e, h j (by omega)]
theorem Ans.bind {α β : Type} {f : Nat → Option α} {g : Nat → α → Option β} {v : α} {u : β} (h : Ans f v) (h2 : Ans (fun k => g k v) u) : Ans (fun k => (f k).bind (g k)) u := by
  obtain ⟨K, h⟩ := h
  obtain ⟨K2, h2⟩ := h2
  exact ⟨max K K2, fun k hk => by show (f k).bind (g k) = _; rw [h k (by omega), Option.bind_some]; exact h2 k (by omega)⟩
theorem Ans.there {α : Type} {f : Nat → Option α} {v : α} (h : Ans f v) : ∃ k, f k = some v := ⟨h.choose, h.choose_spec _ (Nat.le_refl _)⟩
theorem awake_6 : newellaw03_awake.f 6 = some true := by kernel_rfl
theorem awake_ge (k : Nat) (h : 6 ≤ k) : newellaw03_awake.f k = some true := by
  obtain ⟨j, rfl⟩ := Nat.exists_eq_add_of_le h
  clear h
  induction j with
  | zero => exact awake_6
  | succ j ih => exact newellaw03_awake.mono _ _ ih
theorem awake_ans : Ans (fun k => newellaw03_awake.f k) true := ⟨6, awake_ge⟩
theorem awake_told : Ans (fun k => (newellaw03_awake.f k).bind fun t => some t) true := Ans.bind awake_ans (Ans.now fun _ => rfl)
theorem w1 (i : Nat) (h : i < 1000000000) : wrap64 ((i : Int) + 1) = ((i + 1 : Nat) : Int) := by unfold wrap64; omega
end Go.Proofs.Ytkoogebfdinbnaa.Pure

namespace Go.Proofs.Ytkoogebfdinbnaa.Pure
open Go Go.RowKit Go.Proofs.Ytkoogebfdinbnaa.Q Go.Proofs.YtkoogebfdinbnaaW.PrintWords Go.Proofs.YtkoogebfdinbnaaW.PrintLast Go.Proofs.YtkoogebfdinbnaaW.Own Go.Proofs.YtkoogebfdinbnaaW.PrintMore
set_option linter.unusedSimpArgs false
set_option linter.unusedVariables false
def kidsF : Nat → List Nd → Int → List Int
  | _, [], _ => []
  | j, n :: r, p => if n.f0 = p then (j : Int) :: kidsF (j + 1) r p else kidsF (j + 1) r p
theorem kidsF_len : ∀ (l : List Nd) (j : Nat) (p : Int), (kidsF j l p).length = l.countP (fun n => decide (n.f0 = p))
  | [], _, _ => rfl
  | n :: r, j, p => by
    rw [kidsF, List.countP_cons]
    have ih := kidsF_len r (j + 1) p
    by_cases h : n.f0 = p
    · rw [if_pos h, List.length_cons, ih, decide_eq_true h]; rfl
    · rw [if_neg h, ih, decide_eq_false h]; rfl
theorem kidsF_mem : ∀ (l : List Nd) (j : Nat) (p x : Int), x ∈ kidsF j l p → ∃ i : Nat, x = ((j + i : Nat) : Int) ∧ ∃ n, l[i]? = some n ∧ n.f0 = p
  | [], _, _, _, h => absurd h (by simp [kidsF])
  | n :: r, j, p, x, h => by
    rw [kidsF] at h
    by_cases hp : n.f0 = p
    · rw [if_pos hp] at h
      rcases List.mem_cons.1 h with h | h
      · exact ⟨0, by simpa using h, n, rfl, hp⟩
      · obtain ⟨i, e, m, hm, hq⟩ := kidsF_mem r (j + 1) p x h
        exact ⟨i + 1, by rw [e]; omega, m, hm, hq⟩
    · rw [if_neg hp] at h
      obtain ⟨i, e, m, hm, hq⟩ := kidsF_mem r (j + 1) p x h
      exact ⟨i + 1, by rw [e]; omega, m, hm, hq⟩
theorem kidsF_rise : ∀ (l : List Nd) (j : Nat) (p : Int), (kidsF j l p).Pairwise (· < ·)
  | [], _, _ => List.Pairwise.nil
  | n :: r, j, p => by
    rw [kidsF]
    have ih := kidsF_rise r (j + 1) p
    by_cases hp : n.f0 = p
    · rw [if_pos hp]
      refine List.Pairwise.cons (fun x hx => ?_) ih
      obtain ⟨i, e, _⟩ := kidsF_mem r (j + 1) p x hx
      omega
    · rw [if_neg hp]; exact ih
def kidsL (l : List Nd) (i : Int) : List Int := if 0 ≤ i ∧ i < (l.length : Int) then kidsF 0 l i else []
theorem rd_nd (l : List Nd) (i : Nat) (h : i < l.length) : rd_T29 l (i : Int) = l[i] := by
  simp [rd_T29, List.getD, h]
theorem kids_loop (l : List Nd) (hl : l.length ≤ 100000) (i : Int) : ∀ (d j : Nat) (acc : List Int), j + d = l.length → acc.length ≤ j →
    Ans (fun k => element_Kids.l0 k l i acc l (l.length : Int) (j : Int)) (acc ++ (if 0 ≤ i ∧ i < (l.length : Int) then kidsF j (l.drop j) i else [])) := by
  intro d
  induction d with
  | zero =>
    intro j acc h _
    refine Ans.succ (g := fun _ => some (acc ++ (if 0 ≤ i ∧ i < (l.length : Int) then kidsF j (l.drop j) i else []))) (Ans.now fun _ => rfl) fun k => ?_
    rw [element_Kids.l0, if_neg (by omega), List.drop_eq_nil_of_le (by omega)]
    simp [kidsF]
  | succ d ih =>
    intro j acc h hacc
    have hj : j < l.length := by omega
    have hd : l.drop j = l[j] :: l.drop (j + 1) := List.drop_eq_getElem_cons hj
    rw [hd, kidsF]
    by_cases hp : l[j].f0 = i
    · by_cases h0 : 0 ≤ i ∧ i < (l.length : Int)
      · have := ih (j + 1) (acc ++ [(j : Int)]) (by omega) (by rw [List.length_append, List.length_singleton]; omega)
        rw [if_pos h0] at this ⊢
        rw [if_pos hp]
        rw [List.append_assoc] at this
        refine Ans.succ this fun k => ?_
        rw [element_Kids.l0, if_pos (by omega), if_pos (by omega), if_pos (by omega), rd_nd l j hj, if_pos hp, if_pos (by omega), if_pos (by omega), if_pos (by omega), w1 j (by omega)]
      · have := ih (j + 1) acc (by omega) (by omega)
        rw [if_neg h0] at this ⊢
        refine Ans.succ this fun k => ?_
        rw [element_Kids.l0, if_pos (by omega), if_pos (by omega), if_pos (by omega), rd_nd l j hj, if_pos hp]
        by_cases ha : i ≥ 0
        · rw [if_pos ha, if_neg (by omega), w1 j (by omega)]
        · rw [if_neg ha, w1 j (by omega)]
    · have := ih (j + 1) acc (by omega) (by omega)
      rw [if_neg hp]
      refine Ans.succ this fun k => ?_
      rw [element_Kids.l0, if_pos (by omega), if_pos (by omega), if_pos (by omega), rd_nd l j hj, if_neg hp, w1 j (by omega)]
theorem kids_told (l : List Nd) (hl : l.length ≤ 100000) (i : Int) : Ans (fun k => element_Kids.f k l i) (kidsL l i) := by
  have := kids_loop l hl i l.length 0 [] (by omega) (by simp)
  rw [List.nil_append, List.drop_zero] at this
  exact this
end Go.Proofs.Ytkoogebfdinbnaa.Pure

/- The plain law of ElementKids, about the functions that the walks compute. -/
namespace Go.Proofs.Ytkoogebfdinbnaa.Pure
open Go Go.RowKit Go.Proofs.Ytkoogebfdinbnaa.Q Go.Proofs.YtkoogebfdinbnaaW.PrintWords Go.Proofs.YtkoogebfdinbnaaW.PrintLast Go.Proofs.YtkoogebfdinbnaaW.Own Go.Proofs.YtkoogebfdinbnaaW.PrintMore
set_option linter.unusedSimpArgs false
set_option linter.unusedVariables false
def cnt (l : List Nd) (m : Int) : Nat := l.countP (fun n => decide (0 ≤ n.f0 ∧ n.f0 < m))
theorem cnt_succ (l : List Nd) (i : Nat) : cnt l ((i : Int) + 1) = cnt l (i : Int) + l.countP (fun n => decide (n.f0 = (i : Int))) := by
  unfold cnt
  induction l with
  | nil => rfl
  | cons n r ih =>
    rw [List.countP_cons, List.countP_cons, List.countP_cons, ih]
    by_cases h1 : n.f0 = (i : Int)
    · have a : decide (0 ≤ n.f0 ∧ n.f0 < (i : Int) + 1) = true := decide_eq_true (by omega)
      have b : decide (0 ≤ n.f0 ∧ n.f0 < (i : Int)) = false := decide_eq_false (by omega)
      have c : decide (n.f0 = (i : Int)) = true := decide_eq_true h1
      simp only [a, b, c, if_true]
      simp
      omega
    · have c : decide (n.f0 = (i : Int)) = false := decide_eq_false h1
      by_cases h2 : 0 ≤ n.f0 ∧ n.f0 < (i : Int)
      · have a : decide (0 ≤ n.f0 ∧ n.f0 < (i : Int) + 1) = true := decide_eq_true (by omega)
        have b : decide (0 ≤ n.f0 ∧ n.f0 < (i : Int)) = true := decide_eq_true h2
        simp only [a, b, c, if_true]
        simp
        omega
      · have a : decide (0 ≤ n.f0 ∧ n.f0 < (i : Int) + 1) = false := decide_eq_false (by omega)
        have b : decide (0 ≤ n.f0 ∧ n.f0 < (i : Int)) = false := decide_eq_false h2
        simp only [a, b, c]
        simp
theorem cnt_zero (l : List Nd) : cnt l 0 = 0 := by
  unfold cnt
  rw [List.countP_eq_zero]
  intro n _
  first
    | (simp; done)
    | (simp; omega)
theorem cnt_all (l : List Nd) (hw : Wf l []) (hne : l ≠ []) : cnt l (l.length : Int) = l.length - 1 := by
  cases l with
  | nil => exact absurd rfl hne
  | cons r m =>
    obtain ⟨_, h2, h3, _⟩ := hw
    have hr := (h2 r rfl).1
    unfold cnt
    have hf : decide (0 ≤ r.f0 ∧ r.f0 < ((r :: m).length : Int)) = false := decide_eq_false (by omega)
    rw [List.countP_cons, hf, List.countP_eq_length.2]
    · simp
    · intro n hn
      obtain ⟨i, hi, e⟩ := List.mem_iff_getElem.1 hn
      have := h3 (i + 1) n (by rw [List.getElem?_cons_succ, List.getElem?_eq_getElem hi, e]) (by omega)
      exact decide_eq_true ⟨this.1, by rw [List.length_cons]; omega⟩
theorem rd_at (ks : List Int) (i : Nat) (h : i < ks.length) : rd ks (i : Int) = ks[i] := by
  simp [rd, List.getD, h]
theorem kids_facts (l : List Nd) (hw : Wf l []) (i : Nat) (hi : i < l.length) (x : Int) (hx : x ∈ kidsF 0 l (i : Int)) : (i : Int) < x ∧ x < (l.length : Int) ∧ (rd_T29 l x).f0 = (i : Int) ∧ (rd_T29 l (i : Int)).f1 ≠ El.nul := by
  obtain ⟨j, e, n, hn, hp⟩ := kidsF_mem l 0 (i : Int) x hx
  rw [Nat.zero_add] at e
  obtain ⟨_, h2, h3, _⟩ := hw
  have hj : j < l.length := (List.getElem?_eq_some_iff.1 hn).1
  have hj0 : 0 < j := Nat.pos_of_ne_zero fun h0 => by
    subst h0
    have := (h2 n hn).1
    omega
  obtain ⟨a, b, c⟩ := h3 j n hn hj0
  have er : rd_T29 l x = n := by
    rw [e, rd_nd l j hj]
    rw [List.getElem?_eq_getElem hj] at hn
    exact Option.some.inj hn
  refine ⟨by omega, by omega, by rw [er]; exact hp, ?_⟩
  rw [hp] at c
  exact c
theorem nul_list (b : ByteArray) : (b.toList = ([] : List UInt8)) = (b = El.nul) := by
  have h := size_nul b
  apply propext
  constructor
  · intro e
    rw [e] at h
    exact of_decide_eq_true h.symm
  · intro e
    rw [decide_eq_true e] at h
    exact List.isEmpty_iff.1 h
theorem inner_none (l : List Nd) (hl : l.length ≤ 100000) : Ans (fun k => element_Inner.f k l (-1)) El.nul := by
  unfold element_Inner.f
  refine Ans.bind (kids_told l hl (-1)) (Ans.now fun k => ?_)
  have e : kidsL l (-1) = [] := by unfold kidsL; rw [if_neg (by omega)]
  rw [e, if_pos ⟨fun x hx => absurd hx (by simp), by simp [El.room], by simp⟩]
  rfl
theorem last_part (l : List Nd) (hl : l.length ≤ 100000) (hne : l ≠ []) (x5 : Int) (hx : x5 = (l.length : Int) - 1) : Ans (fun k => (newellaw03_awake.f k).bind fun t259 => (if t259 = true then (if x5 = (wrap64 ((l.length : Int) - 1)) then ((element_Kids.f k l (-1)).bind fun t260 => (if (t260.length : Int) = 0 then ((element_Kids.f k l (l.length : Int)).bind fun t263 => (if (t263.length : Int) = 0 then ((element_Inner.f k l (-1)).bind fun t266 => (some (t266.toList == ([] : List UInt8)))) else (some false))) else (some false))) else (some false)) else (some false))) true := by
  have hpos := List.length_pos_iff.2 hne
  have hw : wrap64 ((l.length : Int) - 1) = (l.length : Int) - 1 := by unfold wrap64; omega
  have e1 : kidsL l (-1) = [] := by unfold kidsL; rw [if_neg (by omega)]
  have e2 : kidsL l (l.length : Int) = [] := by unfold kidsL; rw [if_neg (by omega)]
  have k1 := kids_told l hl (-1)
  have k2 := kids_told l hl (l.length : Int)
  rw [e1] at k1
  rw [e2] at k2
  refine Ans.bind awake_ans ?_
  simp only [if_true, if_pos (hx.trans hw.symm)]
  refine Ans.bind k1 ?_
  simp only [if_pos (show ((([] : List Int).length : Nat) : Int) = 0 from rfl)]
  refine Ans.bind k2 ?_
  simp only [if_pos (show ((([] : List Int).length : Nat) : Int) = 0 from rfl)]
  refine Ans.bind (inner_none l hl) (Ans.now fun k => ?_)
  rw [show El.nul.toList = ([] : List UInt8) from by rw [nul_list]]
  rfl
theorem outer (l : List Nd) (hl : l.length ≤ 100000) (hw : Wf l []) (hne : l ≠ []) : ∀ (d i : Nat), i + d = l.length → Ans (fun k => newellaw03_ElementKids.l0 k l ((cnt l (i : Int) : Nat) : Int) (i : Int)) true := by
  intro d
  induction d with
  | zero =>
    intro i h
    obtain rfl : i = l.length := by omega
    have hpos := List.length_pos_iff.2 hne
    refine Ans.succ (last_part l hl hne ((cnt l (l.length : Int) : Nat) : Int) (by rw [cnt_all l hw hne]; omega)) fun k => ?_
    rw [newellaw03_ElementKids.l0, if_neg (by omega)]
  | succ d ih =>
    intro i h
    have hi : i < l.length := by omega
    have ih := ih (i + 1) (by omega)
    have hk := kids_told l hl (i : Int)
    have ek : kidsL l (i : Int) = kidsF 0 l (i : Int) := by unfold kidsL; rw [if_pos ⟨by omega, by omega⟩]
    rw [ek] at hk
    have hlen := kidsF_len l 0 (i : Int)
    have hle : (kidsF 0 l (i : Int)).length ≤ l.length := by rw [hlen]; exact List.countP_le_length
    have hcs : cnt l ((i : Int) + 1) = cnt l (i : Int) + (kidsF 0 l (i : Int)).length := by rw [hlen]; exact cnt_succ l i
    have hcl : cnt l (i : Int) ≤ l.length := List.countP_le_length
    have hsum : wrap64 (((cnt l (i : Int) : Nat) : Int) + ((kidsF 0 l (i : Int)).length : Int)) = ((cnt l ((i : Int) + 1) : Nat) : Int) := by
      rw [hcs]
      unfold wrap64
      omega
    have inner : ∀ (d2 m : Nat), m + d2 = (kidsF 0 l (i : Int)).length → Ans (fun k => newellaw03_ElementKids.l1 k l ((cnt l ((i : Int) + 1) : Nat) : Int) (i : Int) (kidsF 0 l (i : Int)) (m : Int)) true := by
      intro d2
      induction d2 with
      | zero =>
        intro m hm
        refine Ans.succ ih fun k => ?_
        rw [newellaw03_ElementKids.l1, if_neg (by omega), w1 i (by omega)]
        rfl
      | succ d2 ih2 =>
        intro m hm
        have hml : m < (kidsF 0 l (i : Int)).length := by omega
        have hmem := List.getElem_mem hml
        obtain ⟨f1, f2, f3, f4⟩ := kids_facts l hw i hi _ hmem
        have er := rd_at (kidsF 0 l (i : Int)) m hml
        refine Ans.succ (ih2 (m + 1) (by omega)) fun k => ?_
        rw [newellaw03_ElementKids.l1, if_pos (by omega), if_pos (by omega), er, if_neg (by omega), if_neg (by omega), if_pos (by omega), if_pos f2, if_pos f3]
        by_cases h0 : m = 0
        · rw [if_neg (by omega), if_pos (by omega), if_pos (by omega), if_neg (by rw [nul_list]; exact f4), w1 m (by omega)]
        · have hw1 : wrap64 ((m : Int) - 1) = ((m - 1 : Nat) : Int) := by unfold wrap64; omega
          have hlt := List.pairwise_iff_getElem.1 (kidsF_rise l 0 (i : Int)) (m - 1) m (by omega) hml (by omega)
          have er2 := rd_at (kidsF 0 l (i : Int)) (m - 1) (by omega)
          rw [if_pos (by omega), hw1, if_pos (by omega), if_pos (by omega), er2, if_neg (by omega), if_pos (by omega), if_pos (by omega), if_neg (by rw [nul_list]; exact f4), w1 m (by omega)]
    refine Ans.succ (g := fun k => (element_Kids.f k l (i : Int)).bind fun t248 => newellaw03_ElementKids.l1 k l (wrap64 (((cnt l (i : Int) : Nat) : Int) + (t248.length : Int))) (i : Int) t248 0) (Ans.bind hk ?_) fun k => ?_
    · rw [hsum]
      exact inner (kidsF 0 l (i : Int)).length 0 (by omega)
    · rw [newellaw03_ElementKids.l0, if_pos (by omega)]
theorem ElementKids : newellaw03_ElementKids.Pure := by
  intro a0 _
  apply Ans.there
  unfold newellaw03_ElementKids.f
  by_cases c0 : (a0.size : Int) > 2000
  · simp only [if_pos c0]; exact awake_told
  simp only [if_neg c0]
  rw [parse_told a0 (by omega)]
  simp only [Option.bind_some]
  by_cases hz : (parseL a0.data.toList).2 = 0
  · simp only [if_pos hz]
    obtain ⟨l, ts, h1, h2, h3, hne, hw⟩ := parse_ok _ hz
    rw [h1]
    have hl : l.length ≤ 2000 := all_len ts [] [] (l, []) (Nat.zero_le _) h3
    have := outer l (by omega) hw hne l.length 0 (by omega)
    rw [show ((0 : Nat) : Int) = 0 from rfl, cnt_zero] at this
    exact this
  · simp only [if_neg hz]; exact awake_told
end Go.Proofs.Ytkoogebfdinbnaa.Pure
