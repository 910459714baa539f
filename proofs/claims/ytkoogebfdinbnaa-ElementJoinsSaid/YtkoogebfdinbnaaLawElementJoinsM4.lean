/- Texts put together: what functions of the program compute, and plain words about them. -/
import Derived.Test.YtkoogebfdinbnaaLawElementJoinsM1
import Derived.Test.YtkoogebfdinbnaaLawElementJoinsM3
import Derived.Test.YtkoogebfdinbnaaProg
import Derived.Test.YtkoogebfdinbnaaRows
import Derived.ChangeArms
import Derived.Deep.DeepHandedRow
import Derived.Shelf.Vars
import Derived.Below
import Derived.Deep.Draws
import Derived.Deep.AppendLies
import Derived.Maps.AppendAt
import Derived.OwnWalk
import Derived.Laws.BytesArg
import Derived.Laws.MakeOwn
import Derived.Laws.OwnMore
import Derived.Deep.OwnRows
import Derived.Tactics
import Derived.Lib.ConvBytes
import Derived.Laws.Slices
import Derived.WalkKit
import Derived.KernelRfl
import Derived.RowKit3
import Derived.Deep.LoopGhost
import Derived.Deep.QuietTactic
import Derived.BigQuiet
import Derived.WideLaws
import Derived.Deep.DeepCutAuto
import Derived.Deep.CutBlock
import Derived.Deep.RegionHeld3
import Derived.Laws.Rows
import Derived.Lib.AppendStr
import Derived.ArgAppend
import Derived.Laws.IdiomCopy
import Derived.OrdersHeld
import Derived.Laws.BitsLemmas
import Derived.RowKit

-- Printed by this session's wip/np.py over the kit's print program. Not trusted: Lean checks it.
namespace Go.Proofs.Ytkoogebfdinbnaa.Q
open Go.RowKit Go.Proofs.YtkoogebfdinbnaaW.PrintWords Go.Proofs.YtkoogebfdinbnaaW.PrintLast Go.Proofs.YtkoogebfdinbnaaW.Own Go.Proofs.YtkoogebfdinbnaaW.PrintMore
attribute [local go_sem] max2_int min2_int max_two min_two max_three min_three max_four min_four
set_option linter.unusedVariables false
set_option linter.unusedSimpArgs false

/-! ### newellaw03_ElementJoins: function 5 -/
mutual
def newellaw03_ElementJoins.l0 : Nat → List Int → ByteArray → List ByteArray → ByteArray → Int → Option (Bool)
 | 0, _, _, _, _, _ => none
 | k + 1, x0, x3, x4, x5, x6 => if x6 < (x0.length : Int) then (newellaw03_ElementJoins.j1 k x0 x3 x4 x5 x6 (decide (x6 < 40))) else (newellaw03_ElementJoins.j1 k x0 x3 x4 x5 x6 false)
def newellaw03_ElementJoins.j1 : Nat → List Int → ByteArray → List ByteArray → ByteArray → Int → Bool → Option (Bool)
 | 0, _, _, _, _, _, _ => none
 | k + 1, x0, x3, x4, x5, x6, x17 => if x17 = true then (if 0 ≤ x6 then (if x6 < (x0.length : Int) then (if (Int.tmod (IntKind.u64.wrap (rd x0 x6)) 4) = 0 then (if x3.size + 1 ≤ 9223372036854775807 then (if x5.size + 1 ≤ 9223372036854775807 then (newellaw03_ElementJoins.l0 k x0 (x3 ++ (⟨#[97]⟩ : ByteArray)) x4 (x5 ++ (⟨#[97]⟩ : ByteArray)) (wrap64 (x6 + 1))) else (none)) else (none)) else (if (Int.tmod (IntKind.u64.wrap (rd x0 x6)) 4) = 1 then (if x3.size + 15 ≤ 9223372036854775807 then (if x5.size + 3 ≤ 9223372036854775807 then (newellaw03_ElementJoins.l0 k x0 (x3 ++ (⟨#[60, 33, 91, 67, 68, 65, 84, 65, 91, 60, 98, 62, 93, 93, 62]⟩ : ByteArray)) x4 (x5 ++ (⟨#[60, 98, 62]⟩ : ByteArray)) (wrap64 (x6 + 1))) else (none)) else (none)) else (if (Int.tmod (IntKind.u64.wrap (rd x0 x6)) 4) = 2 then (if x3.size + 10 ≤ 9223372036854775807 then (newellaw03_ElementJoins.l0 k x0 (x3 ++ (⟨#[60, 33, 45, 45, 32, 99, 32, 45, 45, 62]⟩ : ByteArray)) x4 x5 (wrap64 (x6 + 1))) else (none)) else (if x3.size + 4 ≤ 9223372036854775807 then (if x5.toList = ([] : List UInt8) then (if x4.length < 8796093022208 then (newellaw03_ElementJoins.l0 k x0 (x3 ++ (⟨#[60, 100, 47, 62]⟩ : ByteArray)) (x4 ++ [(⟨#[]⟩ : ByteArray)]) (⟨#[]⟩ : ByteArray) (wrap64 (x6 + 1))) else (none)) else (if x4.length < 8796093022208 then ((some (x4 ++ [x5] : List ByteArray)).bind fun y223 => (if y223.length < 8796093022208 then (newellaw03_ElementJoins.l0 k x0 (x3 ++ (⟨#[60, 100, 47, 62]⟩ : ByteArray)) (y223 ++ [(⟨#[]⟩ : ByteArray)]) (⟨#[]⟩ : ByteArray) (wrap64 (x6 + 1))) else (none))) else (none))) else (none))))) else (none)) else (none)) else (if x5.toList = ([] : List UInt8) then (newellaw03_ElementJoins.j2 k x3 x4) else (if x4.length < 8796093022208 then (newellaw03_ElementJoins.j2 k x3 (x4 ++ [x5])) else (none)))
def newellaw03_ElementJoins.j2 : Nat → ByteArray → List ByteArray → Option (Bool)
 | 0, _, _ => none
 | k + 1, x3, x4 => if x3.size + 4 ≤ 9223372036854775807 then ((element_Parse.f (x3 ++ (⟨#[60, 47, 114, 62]⟩ : ByteArray))).bind fun bt232 => ((newellaw03_awake.f k).bind fun t236 => (if t236 = true then (if bt232.2 = 0 then (newellaw03_ElementJoins.j3 k x4 bt232.1 ((bt232.1.length : Int) != (wrap64 ((x4.length : Int) + 1)))) else (newellaw03_ElementJoins.j3 k x4 bt232.1 true)) else (newellaw03_ElementJoins.j3 k x4 bt232.1 true)))) else (none)
def newellaw03_ElementJoins.j3 : Nat → List ByteArray → List (S29) → Bool → Option (Bool)
 | 0, _, _, _ => none
 | k + 1, x4, x7, x78 => if x78 = true then (some false) else (newellaw03_ElementJoins.l1 k x4 x7 0)
def newellaw03_ElementJoins.l1 : Nat → List ByteArray → List (S29) → Int → Option (Bool)
 | 0, _, _, _ => none
 | k + 1, x4, x7, x9 => if x9 < (x4.length : Int) then (if 0 ≤ (wrap64 (x9 + 1)) then (if (wrap64 (x9 + 1)) < (x7.length : Int) then (if 0 ≤ x9 then (if ((rd_T29 x7 (wrap64 (x9 + 1))).f2).toList = (rdOf ByteArray.empty x4 x9).toList then (if ((rd_T29 x7 (wrap64 (x9 + 1))).f0) = 0 then (if ((((rd_T29 x7 (wrap64 (x9 + 1))).f1).toList == ([100] : List UInt8)) != ((rdOf ByteArray.empty x4 x9).toList == ([] : List UInt8))) = true then (some false) else (newellaw03_ElementJoins.l1 k x4 x7 (wrap64 (x9 + 1)))) else (some false)) else (some false)) else (none)) else (none)) else (none)) else (some true)
end
def newellaw03_ElementJoins.f (k : Nat) (l0 : List Int) : Option (Bool) := newellaw03_ElementJoins.l0 k l0 (⟨#[60, 114, 62]⟩ : ByteArray) ([] : List ByteArray) (⟨#[]⟩ : ByteArray) 0
theorem newellaw03_ElementJoins.mono_l : ∀ k, (∀ y0 y1 y2 y3 y4, LeO (newellaw03_ElementJoins.l0 k y0 y1 y2 y3 y4) (newellaw03_ElementJoins.l0 (k + 1) y0 y1 y2 y3 y4)) ∧ (∀ y0 y1 y2 y3 y4 y5, LeO (newellaw03_ElementJoins.j1 k y0 y1 y2 y3 y4 y5) (newellaw03_ElementJoins.j1 (k + 1) y0 y1 y2 y3 y4 y5)) ∧ (∀ y0 y1, LeO (newellaw03_ElementJoins.j2 k y0 y1) (newellaw03_ElementJoins.j2 (k + 1) y0 y1)) ∧ (∀ y0 y1 y2, LeO (newellaw03_ElementJoins.j3 k y0 y1 y2) (newellaw03_ElementJoins.j3 (k + 1) y0 y1 y2)) ∧ (∀ y0 y1 y2, LeO (newellaw03_ElementJoins.l1 k y0 y1 y2) (newellaw03_ElementJoins.l1 (k + 1) y0 y1 y2))
 | 0 => ⟨fun _ _ _ _ _ r h => by simp [newellaw03_ElementJoins.l0] at h, fun _ _ _ _ _ _ r h => by simp [newellaw03_ElementJoins.j1] at h, fun _ _ r h => by simp [newellaw03_ElementJoins.j2] at h, fun _ _ _ r h => by simp [newellaw03_ElementJoins.j3] at h, fun _ _ _ r h => by simp [newellaw03_ElementJoins.l1] at h⟩
 | k + 1 => by
  obtain ⟨ih0, ih1, ih2, ih3, ih4⟩ := newellaw03_ElementJoins.mono_l k
  refine ⟨?_, ?_, ?_, ?_, ?_⟩
  ·intro y0 y1 y2 y3 y4
   unfold newellaw03_ElementJoins.l0
   repeat' first
   | (with_reducible exact ih0 _ _ _ _ _)
   | (with_reducible exact ih1 _ _ _ _ _ _)
   | (with_reducible exact ih2 _ _)
   | (with_reducible exact ih3 _ _ _)
   | (with_reducible exact ih4 _ _ _)
   | (with_reducible exact newellaw03_awake.mono _)
   | (with_reducible exact LeO.refl _)
   | (with_reducible exact LeO.none _)
   | (with_reducible refine LeO.ite ?_ ?_)
   | (with_reducible refine LeO.bind ?_ (fun _ => ?_))
   | exact ih0 _ _ _ _ _
   | exact ih1 _ _ _ _ _ _
   | exact ih2 _ _
   | exact ih3 _ _ _
   | exact ih4 _ _ _
   | exact newellaw03_awake.mono _
   | exact LeO.none _
   | refine LeO.ite ?_ ?_
   | refine LeO.bind ?_ (fun _ => ?_)
  ·intro y0 y1 y2 y3 y4 y5
   unfold newellaw03_ElementJoins.j1
   repeat' first
   | (with_reducible exact ih0 _ _ _ _ _)
   | (with_reducible exact ih1 _ _ _ _ _ _)
   | (with_reducible exact ih2 _ _)
   | (with_reducible exact ih3 _ _ _)
   | (with_reducible exact ih4 _ _ _)
   | (with_reducible exact newellaw03_awake.mono _)
   | (with_reducible exact LeO.refl _)
   | (with_reducible exact LeO.none _)
   | (with_reducible refine LeO.ite ?_ ?_)
   | (with_reducible refine LeO.bind ?_ (fun _ => ?_))
   | exact ih0 _ _ _ _ _
   | exact ih1 _ _ _ _ _ _
   | exact ih2 _ _
   | exact ih3 _ _ _
   | exact ih4 _ _ _
   | exact newellaw03_awake.mono _
   | exact LeO.none _
   | refine LeO.ite ?_ ?_
   | refine LeO.bind ?_ (fun _ => ?_)
  ·intro y0 y1
   unfold newellaw03_ElementJoins.j2
   repeat' first
   | (with_reducible exact ih0 _ _ _ _ _)
   | (with_reducible exact ih1 _ _ _ _ _ _)
   | (with_reducible exact ih2 _ _)
   | (with_reducible exact ih3 _ _ _)
   | (with_reducible exact ih4 _ _ _)
   | (with_reducible exact newellaw03_awake.mono _)
   | (with_reducible exact LeO.refl _)
   | (with_reducible exact LeO.none _)
   | (with_reducible refine LeO.ite ?_ ?_)
   | (with_reducible refine LeO.bind ?_ (fun _ => ?_))
   | exact ih0 _ _ _ _ _
   | exact ih1 _ _ _ _ _ _
   | exact ih2 _ _
   | exact ih3 _ _ _
   | exact ih4 _ _ _
   | exact newellaw03_awake.mono _
   | exact LeO.none _
   | refine LeO.ite ?_ ?_
   | refine LeO.bind ?_ (fun _ => ?_)
  ·intro y0 y1 y2
   unfold newellaw03_ElementJoins.j3
   repeat' first
   | (with_reducible exact ih0 _ _ _ _ _)
   | (with_reducible exact ih1 _ _ _ _ _ _)
   | (with_reducible exact ih2 _ _)
   | (with_reducible exact ih3 _ _ _)
   | (with_reducible exact ih4 _ _ _)
   | (with_reducible exact newellaw03_awake.mono _)
   | (with_reducible exact LeO.refl _)
   | (with_reducible exact LeO.none _)
   | (with_reducible refine LeO.ite ?_ ?_)
   | (with_reducible refine LeO.bind ?_ (fun _ => ?_))
   | exact ih0 _ _ _ _ _
   | exact ih1 _ _ _ _ _ _
   | exact ih2 _ _
   | exact ih3 _ _ _
   | exact ih4 _ _ _
   | exact newellaw03_awake.mono _
   | exact LeO.none _
   | refine LeO.ite ?_ ?_
   | refine LeO.bind ?_ (fun _ => ?_)
  ·intro y0 y1 y2
   unfold newellaw03_ElementJoins.l1
   repeat' first
   | (with_reducible exact ih0 _ _ _ _ _)
   | (with_reducible exact ih1 _ _ _ _ _ _)
   | (with_reducible exact ih2 _ _)
   | (with_reducible exact ih3 _ _ _)
   | (with_reducible exact ih4 _ _ _)
   | (with_reducible exact newellaw03_awake.mono _)
   | (with_reducible exact LeO.refl _)
   | (with_reducible exact LeO.none _)
   | (with_reducible refine LeO.ite ?_ ?_)
   | (with_reducible refine LeO.bind ?_ (fun _ => ?_))
   | exact ih0 _ _ _ _ _
   | exact ih1 _ _ _ _ _ _
   | exact ih2 _ _
   | exact ih3 _ _ _
   | exact ih4 _ _ _
   | exact newellaw03_awake.mono _
   | exact LeO.none _
   | refine LeO.ite ?_ ?_
   | refine LeO.bind ?_ (fun _ => ?_)
theorem newellaw03_ElementJoins.mono : ∀ a0 k, LeO (newellaw03_ElementJoins.f k a0) (newellaw03_ElementJoins.f (k + 1) a0) := by
 intro a0 k
 obtain ⟨ih0, ih1, ih2, ih3, ih4⟩ := newellaw03_ElementJoins.mono_l k
 unfold newellaw03_ElementJoins.f
 repeat' first
  | (with_reducible exact ih0 _ _ _ _ _)
  | (with_reducible exact ih1 _ _ _ _ _ _)
  | (with_reducible exact ih2 _ _)
  | (with_reducible exact ih3 _ _ _)
  | (with_reducible exact ih4 _ _ _)
  | (with_reducible exact newellaw03_awake.mono _)
  | (with_reducible exact LeO.refl _)
  | (with_reducible exact LeO.none _)
  | (with_reducible refine LeO.ite ?_ ?_)
  | (with_reducible refine LeO.bind ?_ (fun _ => ?_))
  | exact ih0 _ _ _ _ _
  | exact ih1 _ _ _ _ _ _
  | exact ih2 _ _
  | exact ih3 _ _ _
  | exact ih4 _ _ _
  | exact newellaw03_awake.mono _
  | exact LeO.none _
  | refine LeO.ite ?_ ?_
  | refine LeO.bind ?_ (fun _ => ?_)
set_option maxHeartbeats 8000000 in
set_option maxRecDepth 100000 in
theorem newellaw03_ElementJoins.calls (k : Nat) (A0 : Option Addr) (c0 : Nat) (l0 : List Int) (r : Bool) (w : World) (hr0 : Kd.C (Kd.int .i64) w A0 l0.length l0) (hc0 : l0.length ≤ c0) (hG : Glob w) (h : newellaw03_ElementJoins.f k l0 = some r) (hr_ : r = true) :
 Calls Try.prog 5 #[.slice A0 l0.length c0] w fun e w' => e = .returned (.bool r) ∧ Below w.heap.size w w' := by
 have HG := Aside0.mk hG
 clear hG
 have HR0 := Aside0.mk hr0
 have HC0 := Aside0.mk hc0
 clear hr0 hc0
 have HB := Aside0.mk (Below.refl w.heap.size w)
 have H : (newellaw03_ElementJoins.l0 k l0 (⟨#[60, 114, 62]⟩ : ByteArray) ([] : List ByteArray) (⟨#[]⟩ : ByteArray) 0) = some r := h
 clear h
 have H' := Aside0.mk H
 clear H
 go_enter Try.func5, Try.ntmps5
 go_wp2
 repeat (go_quiet (fail); try go_wp2)
 go_loopg [3, 4, 5, 6] k (fun kq v3 v4 v5 v6 w' => ∃ (x3_1 : ByteArray) (x4_1 : List ByteArray) (x5_1 : ByteArray) (x6_1 : Int), v3 = .string x3_1 ∧ v5 = .string x5_1 ∧ v6 = .int .i64 x6_1 ∧ Aside0 (newellaw03_ElementJoins.l0 kq l0 x3_1 x4_1 x5_1 x6_1 = some r) ∧ Aside0 (kq ≤ k) ∧ Aside0 (Kd.R Kd.string 9 w' w.heap.size (fun _ => True) v4 x4_1) ∧ Aside0 (Below w.heap.size w w'))
 case atStart => exact ⟨((⟨#[60, 114, 62]⟩ : ByteArray)), (([] : List ByteArray)), ((⟨#[]⟩ : ByteArray)), (0), (by first | rfl | (simp; done) | (simp [*]; done) | (simp; exact isEmpty_bne _)), (by first | rfl | (simp; done) | (simp [*]; done) | (simp; exact isEmpty_bne _)), (by first | rfl | (simp; done) | (simp [*]; done) | (simp; exact isEmpty_bne _)), H', ⟨Nat.le_refl _⟩, ⟨by first | exact Kd.R_nil _ _ _ _ _ | exact Kd.N_nil _ _ _ _ _ | exact Kd.V_nil _ _ _ _ _ | exact Kd.Q_nil _ _ _ _ _ | exact Kd.S_nil _ _ _ _ _⟩, ⟨by repeat (first | (with_reducible first | exact HB.out | apply below_alloc | apply pw_below_drewN | apply below_drew1) | exact HB.out)⟩⟩
 case round =>
  clear H'
  obtain ⟨x3_1, x4_1, x5_1, x6_1, rfl, rfl, rfl, HA, HK1, HO_4, HB⟩ := hrel
  cases gk with
  | zero => exact absurd HA.out (by simp [newellaw03_ElementJoins.l0])
  | succ k1 =>
   have H := HA.out
   clear HA
   simp only [newellaw03_ElementJoins.l0] at H
   have HC2 := Aside0.mk H
   clear H
   go_upto_region 3 with (fail)
   repeat (go_quiet (fail); go_upto_region 3 with (fail))
   go_cut [17] (fun v17 wc => ∃ (kq : Nat) (x17_1 : Bool), v17 = .bool x17_1 ∧ Aside0 (newellaw03_ElementJoins.j1 kq l0 x3_1 x4_1 x5_1 x6_1 x17_1 = some r) ∧ Aside0 (kq ≤ k1) ∧ Aside0 (Kd.R Kd.string 9 wc w.heap.size (fun _ => True) u4 x4_1) ∧ Aside0 (Below w.heap.size w wc))
   case first =>
    have H := HC2.out
    clear HC2
    by_cases c3 : x6_1 < (l0.length : Int)
    ·rw [if_pos c3] at H
     have c3b0 : decide (x6_1 < (l0.length : Int)) = true := decide_eq_true c3
     clear c3
     (first | rw [c3b0] | (simp only [i64_w, i32_w]; rw [c3b0]) | skip)
     have H' := Aside0.mk H
     clear H
     go_wp2
     repeat (go_quiet (fail); try go_wp2)
     go_meet
     case rel => exact ⟨_, (decide (x6_1 < 40)), (by first | rfl | (simp; done) | (simp [*]; done) | (simp; exact isEmpty_bne _)), H', ⟨by have := HK1.out; first | omega | exact Nat.le_refl _⟩, ⟨by (with_reducible repeat (first | apply Kd.R_alloc | apply Kd.R_drewN | apply Kd.R_drew)); exact HO_4.out⟩, ⟨by repeat (first | (with_reducible first | exact HB.out | apply below_alloc | apply pw_below_drewN | apply below_drew1) | exact HB.out)⟩⟩
    ·rw [if_neg c3] at H
     have c3b0 : decide (x6_1 < (l0.length : Int)) = false := decide_eq_false c3
     clear c3
     (first | rw [c3b0] | (simp only [i64_w, i32_w]; rw [c3b0]) | skip)
     have H' := Aside0.mk H
     clear H
     go_wp2
     repeat (go_quiet (fail); try go_wp2)
     go_meet
     case rel => exact ⟨_, (false), (by first | rfl | (simp; done) | (simp [*]; done) | (simp; exact isEmpty_bne _)), H', ⟨by have := HK1.out; first | omega | exact Nat.le_refl _⟩, ⟨by (with_reducible repeat (first | apply Kd.R_alloc | apply Kd.R_drewN | apply Kd.R_drew)); exact HO_4.out⟩, ⟨by repeat (first | (with_reducible first | exact HB.out | apply below_alloc | apply pw_below_drewN | apply below_drew1) | exact HB.out)⟩⟩
   case rest =>
    clear HC2
    try clear p2
    try clear c3
    try clear c3b0
    obtain ⟨kq, x17_1, rfl, HA, HJ1, HO_4, HB⟩ := hcut
    cases kq with
    | zero => exact absurd HA.out (by simp [newellaw03_ElementJoins.j1])
    | succ kj1 =>
     have H := HA.out
     clear HA
     simp only [newellaw03_ElementJoins.j1] at H
     by_cases c4 : x17_1 = true
     ·subst c4
      have H1 : (if 0 ≤ x6_1 then (if x6_1 < (l0.length : Int) then (if (Int.tmod (IntKind.u64.wrap (rd l0 x6_1)) 4) = 0 then (if x3_1.size + 1 ≤ 9223372036854775807 then (if x5_1.size + 1 ≤ 9223372036854775807 then (newellaw03_ElementJoins.l0 kj1 l0 (x3_1 ++ (⟨#[97]⟩ : ByteArray)) x4_1 (x5_1 ++ (⟨#[97]⟩ : ByteArray)) (wrap64 (x6_1 + 1))) else (none)) else (none)) else (if (Int.tmod (IntKind.u64.wrap (rd l0 x6_1)) 4) = 1 then (if x3_1.size + 15 ≤ 9223372036854775807 then (if x5_1.size + 3 ≤ 9223372036854775807 then (newellaw03_ElementJoins.l0 kj1 l0 (x3_1 ++ (⟨#[60, 33, 91, 67, 68, 65, 84, 65, 91, 60, 98, 62, 93, 93, 62]⟩ : ByteArray)) x4_1 (x5_1 ++ (⟨#[60, 98, 62]⟩ : ByteArray)) (wrap64 (x6_1 + 1))) else (none)) else (none)) else (if (Int.tmod (IntKind.u64.wrap (rd l0 x6_1)) 4) = 2 then (if x3_1.size + 10 ≤ 9223372036854775807 then (newellaw03_ElementJoins.l0 kj1 l0 (x3_1 ++ (⟨#[60, 33, 45, 45, 32, 99, 32, 45, 45, 62]⟩ : ByteArray)) x4_1 x5_1 (wrap64 (x6_1 + 1))) else (none)) else (if x3_1.size + 4 ≤ 9223372036854775807 then (if x5_1.toList = ([] : List UInt8) then (if x4_1.length < 8796093022208 then (newellaw03_ElementJoins.l0 kj1 l0 (x3_1 ++ (⟨#[60, 100, 47, 62]⟩ : ByteArray)) (x4_1 ++ [(⟨#[]⟩ : ByteArray)]) (⟨#[]⟩ : ByteArray) (wrap64 (x6_1 + 1))) else (none)) else (if x4_1.length < 8796093022208 then ((some (x4_1 ++ [x5_1] : List ByteArray)).bind fun y223 => (if y223.length < 8796093022208 then (newellaw03_ElementJoins.l0 kj1 l0 (x3_1 ++ (⟨#[60, 100, 47, 62]⟩ : ByteArray)) (y223 ++ [(⟨#[]⟩ : ByteArray)]) (⟨#[]⟩ : ByteArray) (wrap64 (x6_1 + 1))) else (none))) else (none))) else (none))))) else (none)) else (none)) = some r := by rw [if_pos rfl] at H; exact H
      clear H
      have H := H1
      clear H1
      by_cases c5 : 0 ≤ x6_1
      ·rw [if_pos c5] at H
       have c5b0 : decide (0 ≤ x6_1) = true := decide_eq_true c5
       clear c5
       by_cases c6 : x6_1 < (l0.length : Int)
       ·rw [if_pos c6] at H
        have c6b0 : decide (x6_1 < (l0.length : Int)) = true := decide_eq_true c6
        clear c6
        by_cases c7 : (Int.tmod (IntKind.u64.wrap (rd l0 x6_1)) 4) = 0
        ·rw [if_pos c7] at H
         have c7b0 : ((Int.tmod (IntKind.u64.wrap (rd l0 x6_1)) 4) == 0) = true := beq_iff_eq.mpr c7
         have c7b1 : ((Int.tmod (IntKind.u64.wrap (rd l0 x6_1)) 4) != 0) = false := bne_eq_false_iff_eq.mpr c7
         clear c7
         by_cases c8 : x3_1.size + 1 ≤ 9223372036854775807
         ·rw [if_pos c8] at H
          have c8b0 := eq_true c8
          have c8b1 : decide (x3_1.size + 1 ≤ 9223372036854775807) = true := decide_eq_true c8
          try have c8b2 : (9223372036854775807 < x3_1.size + 1) = False := eq_false (Nat.not_lt.2 c8)
          by_cases c9 : x5_1.size + 1 ≤ 9223372036854775807
          ·rw [if_pos c9] at H
           have c9b0 := eq_true c9
           have c9b1 : decide (x5_1.size + 1 ≤ 9223372036854775807) = true := decide_eq_true c9
           try have c9b2 : (9223372036854775807 < x5_1.size + 1) = False := eq_false (Nat.not_lt.2 c9)
           have H' := Aside0.mk H
           clear H
           have p219 : 0 ≤ (x6_1 : Int) := of_decide_eq_true (by first | (with_reducible assumption) | assumption)
           have q219 : x6_1 < (l0.length : Int) := of_decide_eq_true (by first | (with_reducible assumption) | assumption)
           obtain ⟨ad219, e219, hx219_0⟩ := Kd.at_int HR0.out x6_1 p219 q219
           cases e219
           replace hx219_0 := (HB.out.cell (World.block_lt_of_cell? w _ hx219_0)).trans hx219_0
           replace p219 := eq_true p219
           replace q219 := eq_true q219
           go_wp2
           repeat (go_quiet (fail); try go_wp2)
           go_roundg kj1
           case measure => have := HK1.out; have := HJ1.out; omega
           case rel => exact ⟨(x3_1 ++ (⟨#[97]⟩ : ByteArray)), (x4_1), (x5_1 ++ (⟨#[97]⟩ : ByteArray)), (wrap64 (x6_1 + 1)), (by first | rfl | (simp; done) | (simp [*]; done) | (simp; exact isEmpty_bne _)), (by first | rfl | (simp; done) | (simp [*]; done) | (simp; exact isEmpty_bne _)), (by first | rfl | (simp; done) | (simp [*]; done) | (simp; exact isEmpty_bne _)), H', ⟨by have := HK1.out; have := HJ1.out; omega⟩, ⟨by (with_reducible repeat (first | apply Kd.R_alloc | apply Kd.R_drewN | apply Kd.R_drew)); exact HO_4.out⟩, ⟨by repeat (first | (with_reducible first | exact HB.out | apply below_alloc | apply pw_below_drewN | apply below_drew1) | exact HB.out)⟩⟩
          ·rw [if_neg c9] at H
           exact absurd H (by simp)
         ·rw [if_neg c8] at H
          exact absurd H (by simp)
        ·rw [if_neg c7] at H
         have c7b0 : ((Int.tmod (IntKind.u64.wrap (rd l0 x6_1)) 4) == 0) = false := beq_eq_false_iff_ne.mpr c7
         have c7b1 : ((Int.tmod (IntKind.u64.wrap (rd l0 x6_1)) 4) != 0) = true := bne_iff_ne.mpr c7
         by_cases c10 : (Int.tmod (IntKind.u64.wrap (rd l0 x6_1)) 4) = 1
         ·rw [if_pos c10] at H
          have c10b0 : ((Int.tmod (IntKind.u64.wrap (rd l0 x6_1)) 4) == 1) = true := beq_iff_eq.mpr c10
          have c10b1 : ((Int.tmod (IntKind.u64.wrap (rd l0 x6_1)) 4) != 1) = false := bne_eq_false_iff_eq.mpr c10
          clear c10
          by_cases c11 : x3_1.size + 15 ≤ 9223372036854775807
          ·rw [if_pos c11] at H
           have c11b0 := eq_true c11
           have c11b1 : decide (x3_1.size + 15 ≤ 9223372036854775807) = true := decide_eq_true c11
           try have c11b2 : (9223372036854775807 < x3_1.size + 15) = False := eq_false (Nat.not_lt.2 c11)
           by_cases c12 : x5_1.size + 3 ≤ 9223372036854775807
           ·rw [if_pos c12] at H
            have c12b0 := eq_true c12
            have c12b1 : decide (x5_1.size + 3 ≤ 9223372036854775807) = true := decide_eq_true c12
            try have c12b2 : (9223372036854775807 < x5_1.size + 3) = False := eq_false (Nat.not_lt.2 c12)
            have H' := Aside0.mk H
            clear H
            have p219 : 0 ≤ (x6_1 : Int) := of_decide_eq_true (by first | (with_reducible assumption) | assumption)
            have q219 : x6_1 < (l0.length : Int) := of_decide_eq_true (by first | (with_reducible assumption) | assumption)
            obtain ⟨ad219, e219, hx219_0⟩ := Kd.at_int HR0.out x6_1 p219 q219
            cases e219
            replace hx219_0 := (HB.out.cell (World.block_lt_of_cell? w _ hx219_0)).trans hx219_0
            replace p219 := eq_true p219
            replace q219 := eq_true q219
            go_wp2
            repeat (go_quiet (fail); try go_wp2)
            go_roundg kj1
            case measure => have := HK1.out; have := HJ1.out; omega
            case rel => exact ⟨(x3_1 ++ (⟨#[60, 33, 91, 67, 68, 65, 84, 65, 91, 60, 98, 62, 93, 93, 62]⟩ : ByteArray)), (x4_1), (x5_1 ++ (⟨#[60, 98, 62]⟩ : ByteArray)), (wrap64 (x6_1 + 1)), (by first | rfl | (simp; done) | (simp [*]; done) | (simp; exact isEmpty_bne _)), (by first | rfl | (simp; done) | (simp [*]; done) | (simp; exact isEmpty_bne _)), (by first | rfl | (simp; done) | (simp [*]; done) | (simp; exact isEmpty_bne _)), H', ⟨by have := HK1.out; have := HJ1.out; omega⟩, ⟨by (with_reducible repeat (first | apply Kd.R_alloc | apply Kd.R_drewN | apply Kd.R_drew)); exact HO_4.out⟩, ⟨by repeat (first | (with_reducible first | exact HB.out | apply below_alloc | apply pw_below_drewN | apply below_drew1) | exact HB.out)⟩⟩
           ·rw [if_neg c12] at H
            exact absurd H (by simp)
          ·rw [if_neg c11] at H
           exact absurd H (by simp)
         ·rw [if_neg c10] at H
          have c10b0 : ((Int.tmod (IntKind.u64.wrap (rd l0 x6_1)) 4) == 1) = false := beq_eq_false_iff_ne.mpr c10
          have c10b1 : ((Int.tmod (IntKind.u64.wrap (rd l0 x6_1)) 4) != 1) = true := bne_iff_ne.mpr c10
          by_cases c13 : (Int.tmod (IntKind.u64.wrap (rd l0 x6_1)) 4) = 2
          ·rw [if_pos c13] at H
           have c13b0 : ((Int.tmod (IntKind.u64.wrap (rd l0 x6_1)) 4) == 2) = true := beq_iff_eq.mpr c13
           have c13b1 : ((Int.tmod (IntKind.u64.wrap (rd l0 x6_1)) 4) != 2) = false := bne_eq_false_iff_eq.mpr c13
           clear c13
           by_cases c14 : x3_1.size + 10 ≤ 9223372036854775807
           ·rw [if_pos c14] at H
            have c14b0 := eq_true c14
            have c14b1 : decide (x3_1.size + 10 ≤ 9223372036854775807) = true := decide_eq_true c14
            try have c14b2 : (9223372036854775807 < x3_1.size + 10) = False := eq_false (Nat.not_lt.2 c14)
            have H' := Aside0.mk H
            clear H
            have p219 : 0 ≤ (x6_1 : Int) := of_decide_eq_true (by first | (with_reducible assumption) | assumption)
            have q219 : x6_1 < (l0.length : Int) := of_decide_eq_true (by first | (with_reducible assumption) | assumption)
            obtain ⟨ad219, e219, hx219_0⟩ := Kd.at_int HR0.out x6_1 p219 q219
            cases e219
            replace hx219_0 := (HB.out.cell (World.block_lt_of_cell? w _ hx219_0)).trans hx219_0
            replace p219 := eq_true p219
            replace q219 := eq_true q219
            go_wp2
            repeat (go_quiet (fail); try go_wp2)
            go_roundg kj1
            case measure => have := HK1.out; have := HJ1.out; omega
            case rel => exact ⟨(x3_1 ++ (⟨#[60, 33, 45, 45, 32, 99, 32, 45, 45, 62]⟩ : ByteArray)), (x4_1), (x5_1), (wrap64 (x6_1 + 1)), (by first | rfl | (simp; done) | (simp [*]; done) | (simp; exact isEmpty_bne _)), (by first | rfl | (simp; done) | (simp [*]; done) | (simp; exact isEmpty_bne _)), (by first | rfl | (simp; done) | (simp [*]; done) | (simp; exact isEmpty_bne _)), H', ⟨by have := HK1.out; have := HJ1.out; omega⟩, ⟨by (with_reducible repeat (first | apply Kd.R_alloc | apply Kd.R_drewN | apply Kd.R_drew)); exact HO_4.out⟩, ⟨by repeat (first | (with_reducible first | exact HB.out | apply below_alloc | apply pw_below_drewN | apply below_drew1) | exact HB.out)⟩⟩
           ·rw [if_neg c14] at H
            exact absurd H (by simp)
          ·rw [if_neg c13] at H
           have c13b0 : ((Int.tmod (IntKind.u64.wrap (rd l0 x6_1)) 4) == 2) = false := beq_eq_false_iff_ne.mpr c13
           have c13b1 : ((Int.tmod (IntKind.u64.wrap (rd l0 x6_1)) 4) != 2) = true := bne_iff_ne.mpr c13
           by_cases c15 : x3_1.size + 4 ≤ 9223372036854775807
           ·rw [if_pos c15] at H
            have c15b0 := eq_true c15
            have c15b1 : decide (x3_1.size + 4 ≤ 9223372036854775807) = true := decide_eq_true c15
            try have c15b2 : (9223372036854775807 < x3_1.size + 4) = False := eq_false (Nat.not_lt.2 c15)
            by_cases c16 : x5_1.toList = ([] : List UInt8)
            ·rw [if_pos c16] at H
             have c16b0 : (x5_1.toList == ([] : List UInt8)) = true := beq_iff_eq.mpr c16
             have c16b1 : (x5_1.toList != ([] : List UInt8)) = false := bne_eq_false_iff_eq.mpr c16
             (try (have c16b2 : x5_1.toList.isEmpty = true := by simpa using c16))
             clear c16
             by_cases c17 : x4_1.length < 8796093022208
             ·rw [if_pos c17] at H
              have LMc17 := Aside0.mk c17
              clear c17
              obtain ⟨y220, hy220⟩ : ∃ y_ : List ByteArray, y_ = (x4_1 ++ [(⟨#[]⟩ : ByteArray)]) := ⟨_, rfl⟩
              replace H : (newellaw03_ElementJoins.l0 kj1 l0 (x3_1 ++ (⟨#[60, 100, 47, 62]⟩ : ByteArray)) y220 (⟨#[]⟩ : ByteArray) (wrap64 (x6_1 + 1))) = some r := by first | (rw [hy220]; with_reducible exact H) | (have H2_ := (Option.bind_some _ _).symm.trans H; rw [hy220]; with_reducible exact H2_) | (have H2_ := (Option.bind_some _ _).symm.trans H; with_reducible exact H2_) | with_reducible exact H | (rw [hy220]; exact H) | exact H
              have Ny220 := Aside0.mk hy220
              clear hy220
              have H' := Aside0.mk H
              clear H
              have p219 : 0 ≤ (x6_1 : Int) := of_decide_eq_true (by first | (with_reducible assumption) | assumption)
              have q219 : x6_1 < (l0.length : Int) := of_decide_eq_true (by first | (with_reducible assumption) | assumption)
              obtain ⟨ad219, e219, hx219_0⟩ := Kd.at_int HR0.out x6_1 p219 q219
              cases e219
              replace hx219_0 := (HB.out.cell (World.block_lt_of_cell? w _ hx219_0)).trans hx219_0
              replace p219 := eq_true p219
              replace q219 := eq_true q219
              go_wp2_with (first | ((with_reducible refine gate_builtin (b := .append) (xs := #[.tmp 34, .tmp 35]) rfl ?_); (try (refine gate_guard (by rfl) ?_; dsimp only)); at_builtin; refine Kd.R_append Kd.string (w0 := w) w.heap.size rfl (.tmp 34) (.tmp 35) 35 9 (.string ⟨#[]⟩) 16 rfl Try.underlying35 info9 rfl (by decide) (by omega) u4 x4_1 (⟨#[]⟩ : ByteArray) [.string (⟨#[]⟩ : ByteArray)] (fun _ => True) (fun _ => False) rfl rfl ?aP (fun _ hk => hk.elim) ?aF ?aO ?aB ?aS ?aL ?_; (case aP => exact rfl); (case aB => exact (by repeat (first | (with_reducible first | exact HB.out | apply below_alloc | apply pw_below_drewN | apply below_drew1) | exact HB.out))); (case aF => exact (fun _ _ => trivial)); (case aO => exact (by (with_reducible repeat (first | apply Kd.R_alloc | apply Kd.R_drewN | apply Kd.R_drew)); exact HO_4.out)); (case aS => exact (below_size (by repeat (first | (with_reducible first | exact HB.out | apply below_alloc | apply pw_below_drewN | apply below_drew1) | exact HB.out)))); (case aL => have := LMc17.out; omega); intro v221 w18 ho hb hg hat; rw [← Ny220.out] at ho; have n0_ := Aside0.mk (hb); have n1_ := Aside0.mk (ho); clear HB; clear HO_4; have HB := n0_; have HO222 := n1_; clear n0_ n1_; clear ho hb hg hat))
              repeat (go_quiet (first | ((with_reducible refine gate_builtin (b := .append) (xs := #[.tmp 34, .tmp 35]) rfl ?_); (try (refine gate_guard (by rfl) ?_; dsimp only)); at_builtin; refine Kd.R_append Kd.string (w0 := w) w.heap.size rfl (.tmp 34) (.tmp 35) 35 9 (.string ⟨#[]⟩) 16 rfl Try.underlying35 info9 rfl (by decide) (by omega) u4 x4_1 (⟨#[]⟩ : ByteArray) [.string (⟨#[]⟩ : ByteArray)] (fun _ => True) (fun _ => False) rfl rfl ?aP (fun _ hk => hk.elim) ?aF ?aO ?aB ?aS ?aL ?_; (case aP => exact rfl); (case aB => exact (by repeat (first | (with_reducible first | exact HB.out | apply below_alloc | apply pw_below_drewN | apply below_drew1) | exact HB.out))); (case aF => exact (fun _ _ => trivial)); (case aO => exact (by (with_reducible repeat (first | apply Kd.R_alloc | apply Kd.R_drewN | apply Kd.R_drew)); exact HO_4.out)); (case aS => exact (below_size (by repeat (first | (with_reducible first | exact HB.out | apply below_alloc | apply pw_below_drewN | apply below_drew1) | exact HB.out)))); (case aL => have := LMc17.out; omega); intro v221 w18 ho hb hg hat; rw [← Ny220.out] at ho; have n0_ := Aside0.mk (hb); have n1_ := Aside0.mk (ho); clear HB; clear HO_4; have HB := n0_; have HO222 := n1_; clear n0_ n1_; clear ho hb hg hat)); try go_wp2_with (first | ((with_reducible refine gate_builtin (b := .append) (xs := #[.tmp 34, .tmp 35]) rfl ?_); (try (refine gate_guard (by rfl) ?_; dsimp only)); at_builtin; refine Kd.R_append Kd.string (w0 := w) w.heap.size rfl (.tmp 34) (.tmp 35) 35 9 (.string ⟨#[]⟩) 16 rfl Try.underlying35 info9 rfl (by decide) (by omega) u4 x4_1 (⟨#[]⟩ : ByteArray) [.string (⟨#[]⟩ : ByteArray)] (fun _ => True) (fun _ => False) rfl rfl ?aP (fun _ hk => hk.elim) ?aF ?aO ?aB ?aS ?aL ?_; (case aP => exact rfl); (case aB => exact (by repeat (first | (with_reducible first | exact HB.out | apply below_alloc | apply pw_below_drewN | apply below_drew1) | exact HB.out))); (case aF => exact (fun _ _ => trivial)); (case aO => exact (by (with_reducible repeat (first | apply Kd.R_alloc | apply Kd.R_drewN | apply Kd.R_drew)); exact HO_4.out)); (case aS => exact (below_size (by repeat (first | (with_reducible first | exact HB.out | apply below_alloc | apply pw_below_drewN | apply below_drew1) | exact HB.out)))); (case aL => have := LMc17.out; omega); intro v221 w18 ho hb hg hat; rw [← Ny220.out] at ho; have n0_ := Aside0.mk (hb); have n1_ := Aside0.mk (ho); clear HB; clear HO_4; have HB := n0_; have HO222 := n1_; clear n0_ n1_; clear ho hb hg hat)))
              go_roundg kj1
              case measure => have := HK1.out; have := HJ1.out; omega
              case rel => exact ⟨(x3_1 ++ (⟨#[60, 100, 47, 62]⟩ : ByteArray)), (y220), ((⟨#[]⟩ : ByteArray)), (wrap64 (x6_1 + 1)), (by first | rfl | (simp; done) | (simp [*]; done) | (simp; exact isEmpty_bne _)), (by first | rfl | (simp; done) | (simp [*]; done) | (simp; exact isEmpty_bne _)), (by first | rfl | (simp; done) | (simp [*]; done) | (simp; exact isEmpty_bne _)), H', ⟨by have := HK1.out; have := HJ1.out; omega⟩, ⟨by (with_reducible repeat (first | apply Kd.R_alloc | apply Kd.R_drewN | apply Kd.R_drew)); exact HO222.out⟩, ⟨by repeat (first | (with_reducible first | exact HB.out | apply below_alloc | apply pw_below_drewN | apply below_drew1) | exact HB.out)⟩⟩
             ·rw [if_neg c17] at H
              exact absurd H (by simp)
            ·rw [if_neg c16] at H
             have c16b0 : (x5_1.toList == ([] : List UInt8)) = false := beq_eq_false_iff_ne.mpr c16
             have c16b1 : (x5_1.toList != ([] : List UInt8)) = true := bne_iff_ne.mpr c16
             (try (have c16b2 : x5_1.toList.isEmpty = false := by simpa using c16))
             by_cases c19 : x4_1.length < 8796093022208
             ·rw [if_pos c19] at H
              have LMc19 := Aside0.mk c19
              clear c19
              obtain ⟨y223, hy223⟩ : ∃ y_ : List ByteArray, y_ = (x4_1 ++ [x5_1]) := ⟨_, rfl⟩
              replace H : (if y223.length < 8796093022208 then (newellaw03_ElementJoins.l0 kj1 l0 (x3_1 ++ (⟨#[60, 100, 47, 62]⟩ : ByteArray)) (y223 ++ [(⟨#[]⟩ : ByteArray)]) (⟨#[]⟩ : ByteArray) (wrap64 (x6_1 + 1))) else (none)) = some r := by first | (rw [hy223]; with_reducible exact H) | (have H2_ := (Option.bind_some _ _).symm.trans H; rw [hy223]; with_reducible exact H2_) | (have H2_ := (Option.bind_some _ _).symm.trans H; with_reducible exact H2_) | with_reducible exact H | (rw [hy223]; exact H) | exact H
              have Ny223 := Aside0.mk hy223
              clear hy223
              by_cases c20 : y223.length < 8796093022208
              ·rw [if_pos c20] at H
               have LMc20 := Aside0.mk c20
               clear c20
               obtain ⟨y226, hy226⟩ : ∃ y_ : List ByteArray, y_ = (y223 ++ [(⟨#[]⟩ : ByteArray)]) := ⟨_, rfl⟩
               replace H : (newellaw03_ElementJoins.l0 kj1 l0 (x3_1 ++ (⟨#[60, 100, 47, 62]⟩ : ByteArray)) y226 (⟨#[]⟩ : ByteArray) (wrap64 (x6_1 + 1))) = some r := by first | (rw [hy226]; with_reducible exact H) | (have H2_ := (Option.bind_some _ _).symm.trans H; rw [hy226]; with_reducible exact H2_) | (have H2_ := (Option.bind_some _ _).symm.trans H; with_reducible exact H2_) | with_reducible exact H | (rw [hy226]; exact H) | exact H
               have Ny226 := Aside0.mk hy226
               clear hy226
               have H' := Aside0.mk H
               clear H
               have p219 : 0 ≤ (x6_1 : Int) := of_decide_eq_true (by first | (with_reducible assumption) | assumption)
               have q219 : x6_1 < (l0.length : Int) := of_decide_eq_true (by first | (with_reducible assumption) | assumption)
               obtain ⟨ad219, e219, hx219_0⟩ := Kd.at_int HR0.out x6_1 p219 q219
               cases e219
               replace hx219_0 := (HB.out.cell (World.block_lt_of_cell? w _ hx219_0)).trans hx219_0
               replace p219 := eq_true p219
               replace q219 := eq_true q219
               go_wp2_with (first | ((with_reducible refine gate_builtin (b := .append) (xs := #[.tmp 30, .tmp 32]) rfl ?_); (try (refine gate_guard (by rfl) ?_; dsimp only)); at_builtin; refine Kd.R_append Kd.string (w0 := w) w.heap.size rfl (.tmp 30) (.tmp 32) 35 9 (.string ⟨#[]⟩) 16 rfl Try.underlying35 info9 rfl (by decide) (by omega) u4 x4_1 x5_1 [.string x5_1] (fun _ => True) (fun _ => False) rfl rfl ?aP (fun _ hk => hk.elim) ?aF ?aO ?aB ?aS ?aL ?_; (case aP => exact rfl); (case aB => exact (by repeat (first | (with_reducible first | exact HB.out | apply below_alloc | apply pw_below_drewN | apply below_drew1) | exact HB.out))); (case aF => exact (fun _ _ => trivial)); (case aO => exact (by (with_reducible repeat (first | apply Kd.R_alloc | apply Kd.R_drewN | apply Kd.R_drew)); exact HO_4.out)); (case aS => exact (below_size (by repeat (first | (with_reducible first | exact HB.out | apply below_alloc | apply pw_below_drewN | apply below_drew1) | exact HB.out)))); (case aL => have := LMc19.out; omega); intro v224 w21 ho hb hg hat; rw [← Ny223.out] at ho; have n0_ := Aside0.mk (hb); have n1_ := Aside0.mk (ho); clear HB; clear HO_4; have HB := n0_; have HO225 := n1_; clear n0_ n1_; clear ho hb hg hat) | ((with_reducible refine gate_builtin (b := .append) (xs := #[.tmp 34, .tmp 35]) rfl ?_); (try (refine gate_guard (by rfl) ?_; dsimp only)); at_builtin; refine Kd.R_append Kd.string (w0 := w) w.heap.size rfl (.tmp 34) (.tmp 35) 35 9 (.string ⟨#[]⟩) 16 rfl Try.underlying35 info9 rfl (by decide) (by omega) v224 y223 (⟨#[]⟩ : ByteArray) [.string (⟨#[]⟩ : ByteArray)] (fun _ => True) (fun _ => False) rfl rfl ?aP (fun _ hk => hk.elim) ?aF ?aO ?aB ?aS ?aL ?_; (case aP => exact rfl); (case aB => exact (by repeat (first | (with_reducible first | exact HB.out | apply below_alloc | apply pw_below_drewN | apply below_drew1) | exact HB.out))); (case aF => exact (fun _ _ => trivial)); (case aO => exact (by (with_reducible repeat (first | apply Kd.R_alloc | apply Kd.R_drewN | apply Kd.R_drew)); exact HO225.out)); (case aS => exact (below_size (by repeat (first | (with_reducible first | exact HB.out | apply below_alloc | apply pw_below_drewN | apply below_drew1) | exact HB.out)))); (case aL => have := LMc20.out; omega); intro v227 w22 ho hb hg hat; rw [← Ny226.out] at ho; have n0_ := Aside0.mk (hb); have n1_ := Aside0.mk (ho); clear HB; clear HO225; have HB := n0_; have HO228 := n1_; clear n0_ n1_; clear ho hb hg hat))
               repeat (go_quiet (first | ((with_reducible refine gate_builtin (b := .append) (xs := #[.tmp 30, .tmp 32]) rfl ?_); (try (refine gate_guard (by rfl) ?_; dsimp only)); at_builtin; refine Kd.R_append Kd.string (w0 := w) w.heap.size rfl (.tmp 30) (.tmp 32) 35 9 (.string ⟨#[]⟩) 16 rfl Try.underlying35 info9 rfl (by decide) (by omega) u4 x4_1 x5_1 [.string x5_1] (fun _ => True) (fun _ => False) rfl rfl ?aP (fun _ hk => hk.elim) ?aF ?aO ?aB ?aS ?aL ?_; (case aP => exact rfl); (case aB => exact (by repeat (first | (with_reducible first | exact HB.out | apply below_alloc | apply pw_below_drewN | apply below_drew1) | exact HB.out))); (case aF => exact (fun _ _ => trivial)); (case aO => exact (by (with_reducible repeat (first | apply Kd.R_alloc | apply Kd.R_drewN | apply Kd.R_drew)); exact HO_4.out)); (case aS => exact (below_size (by repeat (first | (with_reducible first | exact HB.out | apply below_alloc | apply pw_below_drewN | apply below_drew1) | exact HB.out)))); (case aL => have := LMc19.out; omega); intro v224 w21 ho hb hg hat; rw [← Ny223.out] at ho; have n0_ := Aside0.mk (hb); have n1_ := Aside0.mk (ho); clear HB; clear HO_4; have HB := n0_; have HO225 := n1_; clear n0_ n1_; clear ho hb hg hat) | ((with_reducible refine gate_builtin (b := .append) (xs := #[.tmp 34, .tmp 35]) rfl ?_); (try (refine gate_guard (by rfl) ?_; dsimp only)); at_builtin; refine Kd.R_append Kd.string (w0 := w) w.heap.size rfl (.tmp 34) (.tmp 35) 35 9 (.string ⟨#[]⟩) 16 rfl Try.underlying35 info9 rfl (by decide) (by omega) v224 y223 (⟨#[]⟩ : ByteArray) [.string (⟨#[]⟩ : ByteArray)] (fun _ => True) (fun _ => False) rfl rfl ?aP (fun _ hk => hk.elim) ?aF ?aO ?aB ?aS ?aL ?_; (case aP => exact rfl); (case aB => exact (by repeat (first | (with_reducible first | exact HB.out | apply below_alloc | apply pw_below_drewN | apply below_drew1) | exact HB.out))); (case aF => exact (fun _ _ => trivial)); (case aO => exact (by (with_reducible repeat (first | apply Kd.R_alloc | apply Kd.R_drewN | apply Kd.R_drew)); exact HO225.out)); (case aS => exact (below_size (by repeat (first | (with_reducible first | exact HB.out | apply below_alloc | apply pw_below_drewN | apply below_drew1) | exact HB.out)))); (case aL => have := LMc20.out; omega); intro v227 w22 ho hb hg hat; rw [← Ny226.out] at ho; have n0_ := Aside0.mk (hb); have n1_ := Aside0.mk (ho); clear HB; clear HO225; have HB := n0_; have HO228 := n1_; clear n0_ n1_; clear ho hb hg hat)); try go_wp2_with (first | ((with_reducible refine gate_builtin (b := .append) (xs := #[.tmp 30, .tmp 32]) rfl ?_); (try (refine gate_guard (by rfl) ?_; dsimp only)); at_builtin; refine Kd.R_append Kd.string (w0 := w) w.heap.size rfl (.tmp 30) (.tmp 32) 35 9 (.string ⟨#[]⟩) 16 rfl Try.underlying35 info9 rfl (by decide) (by omega) u4 x4_1 x5_1 [.string x5_1] (fun _ => True) (fun _ => False) rfl rfl ?aP (fun _ hk => hk.elim) ?aF ?aO ?aB ?aS ?aL ?_; (case aP => exact rfl); (case aB => exact (by repeat (first | (with_reducible first | exact HB.out | apply below_alloc | apply pw_below_drewN | apply below_drew1) | exact HB.out))); (case aF => exact (fun _ _ => trivial)); (case aO => exact (by (with_reducible repeat (first | apply Kd.R_alloc | apply Kd.R_drewN | apply Kd.R_drew)); exact HO_4.out)); (case aS => exact (below_size (by repeat (first | (with_reducible first | exact HB.out | apply below_alloc | apply pw_below_drewN | apply below_drew1) | exact HB.out)))); (case aL => have := LMc19.out; omega); intro v224 w21 ho hb hg hat; rw [← Ny223.out] at ho; have n0_ := Aside0.mk (hb); have n1_ := Aside0.mk (ho); clear HB; clear HO_4; have HB := n0_; have HO225 := n1_; clear n0_ n1_; clear ho hb hg hat) | ((with_reducible refine gate_builtin (b := .append) (xs := #[.tmp 34, .tmp 35]) rfl ?_); (try (refine gate_guard (by rfl) ?_; dsimp only)); at_builtin; refine Kd.R_append Kd.string (w0 := w) w.heap.size rfl (.tmp 34) (.tmp 35) 35 9 (.string ⟨#[]⟩) 16 rfl Try.underlying35 info9 rfl (by decide) (by omega) v224 y223 (⟨#[]⟩ : ByteArray) [.string (⟨#[]⟩ : ByteArray)] (fun _ => True) (fun _ => False) rfl rfl ?aP (fun _ hk => hk.elim) ?aF ?aO ?aB ?aS ?aL ?_; (case aP => exact rfl); (case aB => exact (by repeat (first | (with_reducible first | exact HB.out | apply below_alloc | apply pw_below_drewN | apply below_drew1) | exact HB.out))); (case aF => exact (fun _ _ => trivial)); (case aO => exact (by (with_reducible repeat (first | apply Kd.R_alloc | apply Kd.R_drewN | apply Kd.R_drew)); exact HO225.out)); (case aS => exact (below_size (by repeat (first | (with_reducible first | exact HB.out | apply below_alloc | apply pw_below_drewN | apply below_drew1) | exact HB.out)))); (case aL => have := LMc20.out; omega); intro v227 w22 ho hb hg hat; rw [← Ny226.out] at ho; have n0_ := Aside0.mk (hb); have n1_ := Aside0.mk (ho); clear HB; clear HO225; have HB := n0_; have HO228 := n1_; clear n0_ n1_; clear ho hb hg hat)))
               go_roundg kj1
               case measure => have := HK1.out; have := HJ1.out; omega
               case rel => exact ⟨(x3_1 ++ (⟨#[60, 100, 47, 62]⟩ : ByteArray)), (y226), ((⟨#[]⟩ : ByteArray)), (wrap64 (x6_1 + 1)), (by first | rfl | (simp; done) | (simp [*]; done) | (simp; exact isEmpty_bne _)), (by first | rfl | (simp; done) | (simp [*]; done) | (simp; exact isEmpty_bne _)), (by first | rfl | (simp; done) | (simp [*]; done) | (simp; exact isEmpty_bne _)), H', ⟨by have := HK1.out; have := HJ1.out; omega⟩, ⟨by (with_reducible repeat (first | apply Kd.R_alloc | apply Kd.R_drewN | apply Kd.R_drew)); exact HO228.out⟩, ⟨by repeat (first | (with_reducible first | exact HB.out | apply below_alloc | apply pw_below_drewN | apply below_drew1) | exact HB.out)⟩⟩
              ·rw [if_neg c20] at H
               exact absurd H (by simp)
             ·rw [if_neg c19] at H
              exact absurd H (by simp)
           ·rw [if_neg c15] at H
            exact absurd H (by simp)
       ·rw [if_neg c6] at H
        exact absurd H (by simp)
      ·rw [if_neg c5] at H
       exact absurd H (by simp)
     ·replace c4 := Bool.eq_false_iff.mpr c4
      subst c4
      have H1 : (if x5_1.toList = ([] : List UInt8) then (newellaw03_ElementJoins.j2 kj1 x3_1 x4_1) else (if x4_1.length < 8796093022208 then (newellaw03_ElementJoins.j2 kj1 x3_1 (x4_1 ++ [x5_1])) else (none))) = some r := by rw [if_neg (show ¬ (false = true) by decide)] at H; exact H
      clear H
      have H := H1
      clear H1
      have HC23 := Aside0.mk H
      clear H
      go_upto_if 54 with (fail)
      repeat (go_quiet (fail); go_upto_if 54 with (fail))
      go_cut [4] (fun v4 wc => ∃ (kq : Nat) (x4_22 : List ByteArray), Aside0 (newellaw03_ElementJoins.j2 kq x3_1 x4_22 = some r) ∧ Aside0 (kq ≤ kj1) ∧ Aside0 (Kd.R Kd.string 9 wc w.heap.size (fun _ => True) v4 x4_22) ∧ Aside0 (Below w.heap.size w wc))
      case first =>
       have H := HC23.out
       clear HC23
       by_cases c24 : x5_1.toList = ([] : List UInt8)
       ·rw [if_pos c24] at H
        have c24b0 : (x5_1.toList == ([] : List UInt8)) = true := beq_iff_eq.mpr c24
        have c24b1 : (x5_1.toList != ([] : List UInt8)) = false := bne_eq_false_iff_eq.mpr c24
        (try (have c24b2 : x5_1.toList.isEmpty = true := by simpa using c24))
        clear c24
        (first | rw [c24b0] | rw [c24b2] | (simp only [i64_w, i32_w]; rw [c24b0]) | skip)
        have H' := Aside0.mk H
        clear H
        go_wp2
        repeat (go_quiet (fail); try go_wp2)
        go_meet
        case rel => exact ⟨_, (x4_1), H', ⟨by have := HK1.out; have := HJ1.out; first | omega | exact Nat.le_refl _⟩, ⟨by (with_reducible repeat (first | apply Kd.R_alloc | apply Kd.R_drewN | apply Kd.R_drew)); exact HO_4.out⟩, ⟨by repeat (first | (with_reducible first | exact HB.out | apply below_alloc | apply pw_below_drewN | apply below_drew1) | exact HB.out)⟩⟩
       ·rw [if_neg c24] at H
        have c24b0 : (x5_1.toList == ([] : List UInt8)) = false := beq_eq_false_iff_ne.mpr c24
        have c24b1 : (x5_1.toList != ([] : List UInt8)) = true := bne_iff_ne.mpr c24
        (try (have c24b2 : x5_1.toList.isEmpty = false := by simpa using c24))
        (first | rw [c24b0] | rw [c24b2] | (simp only [i64_w, i32_w]; rw [c24b0]) | skip)
        by_cases c25 : x4_1.length < 8796093022208
        ·rw [if_pos c25] at H
         have LMc25 := Aside0.mk c25
         clear c25
         obtain ⟨y229, hy229⟩ : ∃ y_ : List ByteArray, y_ = (x4_1 ++ [x5_1]) := ⟨_, rfl⟩
         replace H : (newellaw03_ElementJoins.j2 kj1 x3_1 y229) = some r := by first | (rw [hy229]; with_reducible exact H) | (have H2_ := (Option.bind_some _ _).symm.trans H; rw [hy229]; with_reducible exact H2_) | (have H2_ := (Option.bind_some _ _).symm.trans H; with_reducible exact H2_) | with_reducible exact H | (rw [hy229]; exact H) | exact H
         have Ny229 := Aside0.mk hy229
         clear hy229
         have H' := Aside0.mk H
         clear H
         go_wp2_with (first | ((with_reducible refine gate_builtin (b := .append) (xs := #[.tmp 55, .tmp 57]) rfl ?_); (try (refine gate_guard (by rfl) ?_; dsimp only)); at_builtin; refine Kd.R_append Kd.string (w0 := w) w.heap.size rfl (.tmp 55) (.tmp 57) 35 9 (.string ⟨#[]⟩) 16 rfl Try.underlying35 info9 rfl (by decide) (by omega) u4 x4_1 x5_1 [.string x5_1] (fun _ => True) (fun _ => False) rfl rfl ?aP (fun _ hk => hk.elim) ?aF ?aO ?aB ?aS ?aL ?_; (case aP => exact rfl); (case aB => exact (by repeat (first | (with_reducible first | exact HB.out | apply below_alloc | apply pw_below_drewN | apply below_drew1) | exact HB.out))); (case aF => exact (fun _ _ => trivial)); (case aO => exact (by (with_reducible repeat (first | apply Kd.R_alloc | apply Kd.R_drewN | apply Kd.R_drew)); exact HO_4.out)); (case aS => exact (below_size (by repeat (first | (with_reducible first | exact HB.out | apply below_alloc | apply pw_below_drewN | apply below_drew1) | exact HB.out)))); (case aL => have := LMc25.out; omega); intro v230 w26 ho hb hg hat; rw [← Ny229.out] at ho; have n0_ := Aside0.mk (hb); have n1_ := Aside0.mk (ho); clear HB; clear HO_4; have HB := n0_; have HO231 := n1_; clear n0_ n1_; clear ho hb hg hat))
         repeat (go_quiet (first | ((with_reducible refine gate_builtin (b := .append) (xs := #[.tmp 55, .tmp 57]) rfl ?_); (try (refine gate_guard (by rfl) ?_; dsimp only)); at_builtin; refine Kd.R_append Kd.string (w0 := w) w.heap.size rfl (.tmp 55) (.tmp 57) 35 9 (.string ⟨#[]⟩) 16 rfl Try.underlying35 info9 rfl (by decide) (by omega) u4 x4_1 x5_1 [.string x5_1] (fun _ => True) (fun _ => False) rfl rfl ?aP (fun _ hk => hk.elim) ?aF ?aO ?aB ?aS ?aL ?_; (case aP => exact rfl); (case aB => exact (by repeat (first | (with_reducible first | exact HB.out | apply below_alloc | apply pw_below_drewN | apply below_drew1) | exact HB.out))); (case aF => exact (fun _ _ => trivial)); (case aO => exact (by (with_reducible repeat (first | apply Kd.R_alloc | apply Kd.R_drewN | apply Kd.R_drew)); exact HO_4.out)); (case aS => exact (below_size (by repeat (first | (with_reducible first | exact HB.out | apply below_alloc | apply pw_below_drewN | apply below_drew1) | exact HB.out)))); (case aL => have := LMc25.out; omega); intro v230 w26 ho hb hg hat; rw [← Ny229.out] at ho; have n0_ := Aside0.mk (hb); have n1_ := Aside0.mk (ho); clear HB; clear HO_4; have HB := n0_; have HO231 := n1_; clear n0_ n1_; clear ho hb hg hat)); try go_wp2_with (first | ((with_reducible refine gate_builtin (b := .append) (xs := #[.tmp 55, .tmp 57]) rfl ?_); (try (refine gate_guard (by rfl) ?_; dsimp only)); at_builtin; refine Kd.R_append Kd.string (w0 := w) w.heap.size rfl (.tmp 55) (.tmp 57) 35 9 (.string ⟨#[]⟩) 16 rfl Try.underlying35 info9 rfl (by decide) (by omega) u4 x4_1 x5_1 [.string x5_1] (fun _ => True) (fun _ => False) rfl rfl ?aP (fun _ hk => hk.elim) ?aF ?aO ?aB ?aS ?aL ?_; (case aP => exact rfl); (case aB => exact (by repeat (first | (with_reducible first | exact HB.out | apply below_alloc | apply pw_below_drewN | apply below_drew1) | exact HB.out))); (case aF => exact (fun _ _ => trivial)); (case aO => exact (by (with_reducible repeat (first | apply Kd.R_alloc | apply Kd.R_drewN | apply Kd.R_drew)); exact HO_4.out)); (case aS => exact (below_size (by repeat (first | (with_reducible first | exact HB.out | apply below_alloc | apply pw_below_drewN | apply below_drew1) | exact HB.out)))); (case aL => have := LMc25.out; omega); intro v230 w26 ho hb hg hat; rw [← Ny229.out] at ho; have n0_ := Aside0.mk (hb); have n1_ := Aside0.mk (ho); clear HB; clear HO_4; have HB := n0_; have HO231 := n1_; clear n0_ n1_; clear ho hb hg hat)))
         go_meet
         case rel => exact ⟨_, (y229), H', ⟨by have := HK1.out; have := HJ1.out; first | omega | exact Nat.le_refl _⟩, ⟨by (with_reducible repeat (first | apply Kd.R_alloc | apply Kd.R_drewN | apply Kd.R_drew)); exact HO231.out⟩, ⟨by repeat (first | (with_reducible first | exact HB.out | apply below_alloc | apply pw_below_drewN | apply below_drew1) | exact HB.out)⟩⟩
        ·rw [if_neg c25] at H
         exact absurd H (by simp)
      case rest =>
       clear HC23
       try clear c1
       try clear c2
       try clear p2
       try clear q2
       try clear hx2
       try clear c3
       try clear c3b0
       try clear c4
       try clear c5
       try clear c5b0
       try clear c6
       try clear c6b0
       try clear p6
       try clear c7
       try clear c7b0
       try clear c7b1
       try clear c8
       try clear c8b0
       try clear c8b1
       try clear c8b2
       try clear c9
       try clear c9b0
       try clear c9b1
       try clear c9b2
       try clear c10
       try clear c10b0
       try clear c10b1
       try clear c11
       try clear c11b0
       try clear c11b1
       try clear c11b2
       try clear c12
       try clear c12b0
       try clear c12b1
       try clear c12b2
       try clear c13
       try clear c13b0
       try clear c13b1
       try clear c14
       try clear c14b0
       try clear c14b1
       try clear c14b2
       try clear c15
       try clear c15b0
       try clear c15b1
       try clear c15b2
       try clear c16
       try clear c16b0
       try clear c16b1
       try clear c16b2
       try clear c17
       try clear c19
       try clear c20
       try clear p21
       try clear q21
       try clear hx21
       try clear c24
       try clear c24b0
       try clear c24b1
       try clear c24b2
       try clear c25
       try clear hx219_0
       try clear p2
       try clear p219
       try clear q219
       obtain ⟨kq, x4_22, HA, HJ22, HO_4, HB⟩ := hcut
       cases kq with
       | zero => exact absurd HA.out (by simp [newellaw03_ElementJoins.j2])
       | succ kj22 =>
        have H := HA.out
        clear HA
        simp only [newellaw03_ElementJoins.j2] at H
        by_cases c27 : x3_1.size + 4 ≤ 9223372036854775807
        ·rw [if_pos c27] at H
         have c27b0 := eq_true c27
         have c27b1 : decide (x3_1.size + 4 ≤ 9223372036854775807) = true := decide_eq_true c27
         try have c27b2 : (9223372036854775807 < x3_1.size + 4) = False := eq_false (Nat.not_lt.2 c27)
         replace H := Option.bind_eq_some_iff.mp H
         obtain ⟨⟨t232, t233⟩, A280, H⟩ := H
         replace H : ((newellaw03_awake.f kj22).bind fun t236 => (if t236 = true then (if t233 = 0 then (newellaw03_ElementJoins.j3 kj22 x4_22 t232 ((t232.length : Int) != (wrap64 ((x4_22.length : Int) + 1)))) else (newellaw03_ElementJoins.j3 kj22 x4_22 t232 true)) else (newellaw03_ElementJoins.j3 kj22 x4_22 t232 true))) = some r := H
         have A28 := Aside0.mk A280
         clear A280
         have HC29 := Aside0.mk H
         clear H
         go_upto_region 19 with (first | (go_at_call 9; (with_reducible refine (element_Parse.calls (x3_1 ++ (⟨#[60, 47, 114, 62]⟩ : ByteArray)) t232 t233 _ ?side1 A28.out).mono ?_); (case side1 => exact Glob.step HG.out (by repeat (first | (with_reducible first | exact HB.out | apply below_alloc | apply pw_below_drewN | apply below_drew1) | exact HB.out))); rintro e w30 ⟨v234, rfl, ho0, hb⟩; have n0_ := Aside0.mk (Kd.R_below (by (with_reducible repeat (first | apply Kd.R_alloc | apply Kd.R_drewN | apply Kd.R_drew)); exact HO_4.out) hb); have n1_ := Aside0.mk (Kd.S_lower ho0 (below_size (by repeat (first | (with_reducible first | exact HB.out | apply below_alloc | apply pw_below_drewN | apply below_drew1) | exact HB.out)))); have n2_ := Aside0.mk (below_step (by repeat (first | (with_reducible first | exact HB.out | apply below_alloc | apply pw_below_drewN | apply below_drew1) | exact HB.out)) hb); clear HO_4; clear HB; have HO_4 := n0_; have HO235 := n1_; have HB := n2_; clear n0_ n1_ n2_; (try clear hb); (try clear hb2); (try clear hk); (try clear hi); (try clear ho0)))
         repeat (go_quiet (first | (go_at_call 9; (with_reducible refine (element_Parse.calls (x3_1 ++ (⟨#[60, 47, 114, 62]⟩ : ByteArray)) t232 t233 _ ?side1 A28.out).mono ?_); (case side1 => exact Glob.step HG.out (by repeat (first | (with_reducible first | exact HB.out | apply below_alloc | apply pw_below_drewN | apply below_drew1) | exact HB.out))); rintro e w30 ⟨v234, rfl, ho0, hb⟩; have n0_ := Aside0.mk (Kd.R_below (by (with_reducible repeat (first | apply Kd.R_alloc | apply Kd.R_drewN | apply Kd.R_drew)); exact HO_4.out) hb); have n1_ := Aside0.mk (Kd.S_lower ho0 (below_size (by repeat (first | (with_reducible first | exact HB.out | apply below_alloc | apply pw_below_drewN | apply below_drew1) | exact HB.out)))); have n2_ := Aside0.mk (below_step (by repeat (first | (with_reducible first | exact HB.out | apply below_alloc | apply pw_below_drewN | apply below_drew1) | exact HB.out)) hb); clear HO_4; clear HB; have HO_4 := n0_; have HO235 := n1_; have HB := n2_; clear n0_ n1_ n2_; (try clear hb); (try clear hb2); (try clear hk); (try clear hi); (try clear ho0))); go_upto_region 19 with (first | (go_at_call 9; (with_reducible refine (element_Parse.calls (x3_1 ++ (⟨#[60, 47, 114, 62]⟩ : ByteArray)) t232 t233 _ ?side1 A28.out).mono ?_); (case side1 => exact Glob.step HG.out (by repeat (first | (with_reducible first | exact HB.out | apply below_alloc | apply pw_below_drewN | apply below_drew1) | exact HB.out))); rintro e w30 ⟨v234, rfl, ho0, hb⟩; have n0_ := Aside0.mk (Kd.R_below (by (with_reducible repeat (first | apply Kd.R_alloc | apply Kd.R_drewN | apply Kd.R_drew)); exact HO_4.out) hb); have n1_ := Aside0.mk (Kd.S_lower ho0 (below_size (by repeat (first | (with_reducible first | exact HB.out | apply below_alloc | apply pw_below_drewN | apply below_drew1) | exact HB.out)))); have n2_ := Aside0.mk (below_step (by repeat (first | (with_reducible first | exact HB.out | apply below_alloc | apply pw_below_drewN | apply below_drew1) | exact HB.out)) hb); clear HO_4; clear HB; have HO_4 := n0_; have HO235 := n1_; have HB := n2_; clear n0_ n1_ n2_; (try clear hb); (try clear hb2); (try clear hk); (try clear hi); (try clear ho0))))
         (try simp only [Act.put, List.setIfInBounds_toArray, List.set_cons_zero, List.set_cons_succ])
         go_cut [78] (fun v78 wc => ∃ (kq : Nat) (x78_28 : Bool), v78 = .bool x78_28 ∧ Aside0 (newellaw03_ElementJoins.j3 kq x4_22 t232 x78_28 = some r) ∧ Aside0 (kq ≤ kj22) ∧ Aside0 (Kd.R Kd.string 9 wc w.heap.size (fun _ => True) u4 x4_22) ∧ Aside0 (Kd.S k29 29 wc w.heap.size (fun _ => True) v234 t232) ∧ Aside0 (Below w.heap.size w wc))
         case first =>
          have H := HC29.out
          clear HC29
          replace H := Option.bind_eq_some_iff.mp H
          obtain ⟨t236, A310, H⟩ := H
          replace H : (if t236 = true then (if t233 = 0 then (newellaw03_ElementJoins.j3 kj22 x4_22 t232 ((t232.length : Int) != (wrap64 ((x4_22.length : Int) + 1)))) else (newellaw03_ElementJoins.j3 kj22 x4_22 t232 true)) else (newellaw03_ElementJoins.j3 kj22 x4_22 t232 true)) = some r := H
          have A31 := Aside0.mk A310
          clear A310
          by_cases c32 : t236 = true
          ·subst c32
           have H1 : (if t233 = 0 then (newellaw03_ElementJoins.j3 kj22 x4_22 t232 ((t232.length : Int) != (wrap64 ((x4_22.length : Int) + 1)))) else (newellaw03_ElementJoins.j3 kj22 x4_22 t232 true)) = some r := by rw [if_pos rfl] at H; exact H
           clear H
           have H := H1
           clear H1
           by_cases c33 : t233 = 0
           ·rw [if_pos c33] at H
            have c33b0 : (t233 == 0) = true := beq_iff_eq.mpr c33
            have c33b1 : (t233 != 0) = false := bne_eq_false_iff_eq.mpr c33
            clear c33
            (first | rw [c33b0] | (simp only [i64_w, i32_w]; rw [c33b0]) | skip)
            have H' := Aside0.mk H
            clear H
            go_wp2_with (first | (go_at_call 8; (with_reducible refine (newellaw03_awake.calls kj22  true _ ?side1 A31.out).mono ?_); (case side1 => exact Glob.step HG.out (by repeat (first | (with_reducible first | exact HB.out | apply below_alloc | apply pw_below_drewN | apply below_drew1) | exact HB.out))); rintro e w34 ⟨rfl, hb⟩; have n0_ := Aside0.mk (Kd.R_below (by (with_reducible repeat (first | apply Kd.R_alloc | apply Kd.R_drewN | apply Kd.R_drew)); exact HO_4.out) hb); have n1_ := Aside0.mk (Kd.S_below (by (with_reducible repeat (first | apply Kd.S_alloc | apply Kd.S_drewN | apply Kd.S_drew)); exact HO235.out) hb); have n2_ := Aside0.mk (below_step (by repeat (first | (with_reducible first | exact HB.out | apply below_alloc | apply pw_below_drewN | apply below_drew1) | exact HB.out)) hb); clear HO_4; clear HO235; clear HB; have HO_4 := n0_; have HO235 := n1_; have HB := n2_; clear n0_ n1_ n2_; (try clear hb); (try clear hb2); (try clear hk); (try clear hi); obtain ⟨Ao35, co35, eo35⟩ := Kd.S_slice HO235.out; subst eo35; obtain ⟨Ao36, co36, eo36⟩ := Kd.R_slice HO_4.out; subst eo36))
            repeat (go_quiet (first | (go_at_call 8; (with_reducible refine (newellaw03_awake.calls kj22  true _ ?side1 A31.out).mono ?_); (case side1 => exact Glob.step HG.out (by repeat (first | (with_reducible first | exact HB.out | apply below_alloc | apply pw_below_drewN | apply below_drew1) | exact HB.out))); rintro e w34 ⟨rfl, hb⟩; have n0_ := Aside0.mk (Kd.R_below (by (with_reducible repeat (first | apply Kd.R_alloc | apply Kd.R_drewN | apply Kd.R_drew)); exact HO_4.out) hb); have n1_ := Aside0.mk (Kd.S_below (by (with_reducible repeat (first | apply Kd.S_alloc | apply Kd.S_drewN | apply Kd.S_drew)); exact HO235.out) hb); have n2_ := Aside0.mk (below_step (by repeat (first | (with_reducible first | exact HB.out | apply below_alloc | apply pw_below_drewN | apply below_drew1) | exact HB.out)) hb); clear HO_4; clear HO235; clear HB; have HO_4 := n0_; have HO235 := n1_; have HB := n2_; clear n0_ n1_ n2_; (try clear hb); (try clear hb2); (try clear hk); (try clear hi); obtain ⟨Ao35, co35, eo35⟩ := Kd.S_slice HO235.out; subst eo35; obtain ⟨Ao36, co36, eo36⟩ := Kd.R_slice HO_4.out; subst eo36)); try go_wp2_with (first | (go_at_call 8; (with_reducible refine (newellaw03_awake.calls kj22  true _ ?side1 A31.out).mono ?_); (case side1 => exact Glob.step HG.out (by repeat (first | (with_reducible first | exact HB.out | apply below_alloc | apply pw_below_drewN | apply below_drew1) | exact HB.out))); rintro e w34 ⟨rfl, hb⟩; have n0_ := Aside0.mk (Kd.R_below (by (with_reducible repeat (first | apply Kd.R_alloc | apply Kd.R_drewN | apply Kd.R_drew)); exact HO_4.out) hb); have n1_ := Aside0.mk (Kd.S_below (by (with_reducible repeat (first | apply Kd.S_alloc | apply Kd.S_drewN | apply Kd.S_drew)); exact HO235.out) hb); have n2_ := Aside0.mk (below_step (by repeat (first | (with_reducible first | exact HB.out | apply below_alloc | apply pw_below_drewN | apply below_drew1) | exact HB.out)) hb); clear HO_4; clear HO235; clear HB; have HO_4 := n0_; have HO235 := n1_; have HB := n2_; clear n0_ n1_ n2_; (try clear hb); (try clear hb2); (try clear hk); (try clear hi); obtain ⟨Ao35, co35, eo35⟩ := Kd.S_slice HO235.out; subst eo35; obtain ⟨Ao36, co36, eo36⟩ := Kd.R_slice HO_4.out; subst eo36)))
            go_meet
            case rel => exact ⟨_, (((t232.length : Int) != (wrap64 ((x4_22.length : Int) + 1)))), (by first | rfl | (simp; done) | (simp [*]; done) | (simp; exact isEmpty_bne _)), H', ⟨by have := HK1.out; have := HJ1.out; have := HJ22.out; first | omega | exact Nat.le_refl _⟩, ⟨by (with_reducible repeat (first | apply Kd.R_alloc | apply Kd.R_drewN | apply Kd.R_drew)); exact HO_4.out⟩, ⟨by (with_reducible repeat (first | apply Kd.S_alloc | apply Kd.S_drewN | apply Kd.S_drew)); exact HO235.out⟩, ⟨by repeat (first | (with_reducible first | exact HB.out | apply below_alloc | apply pw_below_drewN | apply below_drew1) | exact HB.out)⟩⟩
           ·rw [if_neg c33] at H
            have c33b0 : (t233 == 0) = false := beq_eq_false_iff_ne.mpr c33
            have c33b1 : (t233 != 0) = true := bne_iff_ne.mpr c33
            (first | rw [c33b0] | (simp only [i64_w, i32_w]; rw [c33b0]) | skip)
            have H' := Aside0.mk H
            clear H
            go_wp2_with (first | (go_at_call 8; (with_reducible refine (newellaw03_awake.calls kj22  true _ ?side1 A31.out).mono ?_); (case side1 => exact Glob.step HG.out (by repeat (first | (with_reducible first | exact HB.out | apply below_alloc | apply pw_below_drewN | apply below_drew1) | exact HB.out))); rintro e w37 ⟨rfl, hb⟩; have n0_ := Aside0.mk (Kd.R_below (by (with_reducible repeat (first | apply Kd.R_alloc | apply Kd.R_drewN | apply Kd.R_drew)); exact HO_4.out) hb); have n1_ := Aside0.mk (Kd.S_below (by (with_reducible repeat (first | apply Kd.S_alloc | apply Kd.S_drewN | apply Kd.S_drew)); exact HO235.out) hb); have n2_ := Aside0.mk (below_step (by repeat (first | (with_reducible first | exact HB.out | apply below_alloc | apply pw_below_drewN | apply below_drew1) | exact HB.out)) hb); clear HO_4; clear HO235; clear HB; have HO_4 := n0_; have HO235 := n1_; have HB := n2_; clear n0_ n1_ n2_; (try clear hb); (try clear hb2); (try clear hk); (try clear hi)))
            repeat (go_quiet (first | (go_at_call 8; (with_reducible refine (newellaw03_awake.calls kj22  true _ ?side1 A31.out).mono ?_); (case side1 => exact Glob.step HG.out (by repeat (first | (with_reducible first | exact HB.out | apply below_alloc | apply pw_below_drewN | apply below_drew1) | exact HB.out))); rintro e w37 ⟨rfl, hb⟩; have n0_ := Aside0.mk (Kd.R_below (by (with_reducible repeat (first | apply Kd.R_alloc | apply Kd.R_drewN | apply Kd.R_drew)); exact HO_4.out) hb); have n1_ := Aside0.mk (Kd.S_below (by (with_reducible repeat (first | apply Kd.S_alloc | apply Kd.S_drewN | apply Kd.S_drew)); exact HO235.out) hb); have n2_ := Aside0.mk (below_step (by repeat (first | (with_reducible first | exact HB.out | apply below_alloc | apply pw_below_drewN | apply below_drew1) | exact HB.out)) hb); clear HO_4; clear HO235; clear HB; have HO_4 := n0_; have HO235 := n1_; have HB := n2_; clear n0_ n1_ n2_; (try clear hb); (try clear hb2); (try clear hk); (try clear hi))); try go_wp2_with (first | (go_at_call 8; (with_reducible refine (newellaw03_awake.calls kj22  true _ ?side1 A31.out).mono ?_); (case side1 => exact Glob.step HG.out (by repeat (first | (with_reducible first | exact HB.out | apply below_alloc | apply pw_below_drewN | apply below_drew1) | exact HB.out))); rintro e w37 ⟨rfl, hb⟩; have n0_ := Aside0.mk (Kd.R_below (by (with_reducible repeat (first | apply Kd.R_alloc | apply Kd.R_drewN | apply Kd.R_drew)); exact HO_4.out) hb); have n1_ := Aside0.mk (Kd.S_below (by (with_reducible repeat (first | apply Kd.S_alloc | apply Kd.S_drewN | apply Kd.S_drew)); exact HO235.out) hb); have n2_ := Aside0.mk (below_step (by repeat (first | (with_reducible first | exact HB.out | apply below_alloc | apply pw_below_drewN | apply below_drew1) | exact HB.out)) hb); clear HO_4; clear HO235; clear HB; have HO_4 := n0_; have HO235 := n1_; have HB := n2_; clear n0_ n1_ n2_; (try clear hb); (try clear hb2); (try clear hk); (try clear hi))))
            go_meet
            case rel => exact ⟨_, (true), (by first | rfl | (simp; done) | (simp [*]; done) | (simp; exact isEmpty_bne _)), H', ⟨by have := HK1.out; have := HJ1.out; have := HJ22.out; first | omega | exact Nat.le_refl _⟩, ⟨by (with_reducible repeat (first | apply Kd.R_alloc | apply Kd.R_drewN | apply Kd.R_drew)); exact HO_4.out⟩, ⟨by (with_reducible repeat (first | apply Kd.S_alloc | apply Kd.S_drewN | apply Kd.S_drew)); exact HO235.out⟩, ⟨by repeat (first | (with_reducible first | exact HB.out | apply below_alloc | apply pw_below_drewN | apply below_drew1) | exact HB.out)⟩⟩
          ·replace c32 := Bool.eq_false_iff.mpr c32
           subst c32
           have H1 : (newellaw03_ElementJoins.j3 kj22 x4_22 t232 true) = some r := by rw [if_neg (show ¬ (false = true) by decide)] at H; exact H
           clear H
           have H := H1
           clear H1
           have H' := Aside0.mk H
           clear H
           go_wp2_with (first | (go_at_call 8; (with_reducible refine (newellaw03_awake.calls kj22  false _ ?side1 A31.out).mono ?_); (case side1 => exact Glob.step HG.out (by repeat (first | (with_reducible first | exact HB.out | apply below_alloc | apply pw_below_drewN | apply below_drew1) | exact HB.out))); rintro e w38 ⟨rfl, hb⟩; have n0_ := Aside0.mk (Kd.R_below (by (with_reducible repeat (first | apply Kd.R_alloc | apply Kd.R_drewN | apply Kd.R_drew)); exact HO_4.out) hb); have n1_ := Aside0.mk (Kd.S_below (by (with_reducible repeat (first | apply Kd.S_alloc | apply Kd.S_drewN | apply Kd.S_drew)); exact HO235.out) hb); have n2_ := Aside0.mk (below_step (by repeat (first | (with_reducible first | exact HB.out | apply below_alloc | apply pw_below_drewN | apply below_drew1) | exact HB.out)) hb); clear HO_4; clear HO235; clear HB; have HO_4 := n0_; have HO235 := n1_; have HB := n2_; clear n0_ n1_ n2_; (try clear hb); (try clear hb2); (try clear hk); (try clear hi)))
           repeat (go_quiet (first | (go_at_call 8; (with_reducible refine (newellaw03_awake.calls kj22  false _ ?side1 A31.out).mono ?_); (case side1 => exact Glob.step HG.out (by repeat (first | (with_reducible first | exact HB.out | apply below_alloc | apply pw_below_drewN | apply below_drew1) | exact HB.out))); rintro e w38 ⟨rfl, hb⟩; have n0_ := Aside0.mk (Kd.R_below (by (with_reducible repeat (first | apply Kd.R_alloc | apply Kd.R_drewN | apply Kd.R_drew)); exact HO_4.out) hb); have n1_ := Aside0.mk (Kd.S_below (by (with_reducible repeat (first | apply Kd.S_alloc | apply Kd.S_drewN | apply Kd.S_drew)); exact HO235.out) hb); have n2_ := Aside0.mk (below_step (by repeat (first | (with_reducible first | exact HB.out | apply below_alloc | apply pw_below_drewN | apply below_drew1) | exact HB.out)) hb); clear HO_4; clear HO235; clear HB; have HO_4 := n0_; have HO235 := n1_; have HB := n2_; clear n0_ n1_ n2_; (try clear hb); (try clear hb2); (try clear hk); (try clear hi))); try go_wp2_with (first | (go_at_call 8; (with_reducible refine (newellaw03_awake.calls kj22  false _ ?side1 A31.out).mono ?_); (case side1 => exact Glob.step HG.out (by repeat (first | (with_reducible first | exact HB.out | apply below_alloc | apply pw_below_drewN | apply below_drew1) | exact HB.out))); rintro e w38 ⟨rfl, hb⟩; have n0_ := Aside0.mk (Kd.R_below (by (with_reducible repeat (first | apply Kd.R_alloc | apply Kd.R_drewN | apply Kd.R_drew)); exact HO_4.out) hb); have n1_ := Aside0.mk (Kd.S_below (by (with_reducible repeat (first | apply Kd.S_alloc | apply Kd.S_drewN | apply Kd.S_drew)); exact HO235.out) hb); have n2_ := Aside0.mk (below_step (by repeat (first | (with_reducible first | exact HB.out | apply below_alloc | apply pw_below_drewN | apply below_drew1) | exact HB.out)) hb); clear HO_4; clear HO235; clear HB; have HO_4 := n0_; have HO235 := n1_; have HB := n2_; clear n0_ n1_ n2_; (try clear hb); (try clear hb2); (try clear hk); (try clear hi))))
           go_meet
           case rel => exact ⟨_, (true), (by first | rfl | (simp; done) | (simp [*]; done) | (simp; exact isEmpty_bne _)), H', ⟨by have := HK1.out; have := HJ1.out; have := HJ22.out; first | omega | exact Nat.le_refl _⟩, ⟨by (with_reducible repeat (first | apply Kd.R_alloc | apply Kd.R_drewN | apply Kd.R_drew)); exact HO_4.out⟩, ⟨by (with_reducible repeat (first | apply Kd.S_alloc | apply Kd.S_drewN | apply Kd.S_drew)); exact HO235.out⟩, ⟨by repeat (first | (with_reducible first | exact HB.out | apply below_alloc | apply pw_below_drewN | apply below_drew1) | exact HB.out)⟩⟩
         case rest =>
          clear HC29
          try clear c1
          try clear c2
          try clear p2
          try clear q2
          try clear hx2
          try clear c3
          try clear c3b0
          try clear c4
          try clear c5
          try clear c5b0
          try clear c6
          try clear c6b0
          try clear p6
          try clear c7
          try clear c7b0
          try clear c7b1
          try clear c8
          try clear c8b0
          try clear c8b1
          try clear c8b2
          try clear c9
          try clear c9b0
          try clear c9b1
          try clear c9b2
          try clear c10
          try clear c10b0
          try clear c10b1
          try clear c11
          try clear c11b0
          try clear c11b1
          try clear c11b2
          try clear c12
          try clear c12b0
          try clear c12b1
          try clear c12b2
          try clear c13
          try clear c13b0
          try clear c13b1
          try clear c14
          try clear c14b0
          try clear c14b1
          try clear c14b2
          try clear c15
          try clear c15b0
          try clear c15b1
          try clear c15b2
          try clear c16
          try clear c16b0
          try clear c16b1
          try clear c16b2
          try clear c17
          try clear c19
          try clear c20
          try clear p21
          try clear q21
          try clear hx21
          try clear c24
          try clear c24b0
          try clear c24b1
          try clear c24b2
          try clear c25
          try clear c27
          try clear c27b0
          try clear c27b1
          try clear c27b2
          try clear c32
          try clear c33
          try clear c33b0
          try clear c33b1
          try clear hx219_0
          try clear p2
          try clear p21
          try clear p219
          try clear p6
          try clear q2
          try clear q21
          try clear q219
          obtain ⟨kq, x78_28, rfl, HA, HJ28, HO_4, HO_7, HB⟩ := hcut
          cases kq with
          | zero => exact absurd HA.out (by simp [newellaw03_ElementJoins.j3])
          | succ kj28 =>
           have H := HA.out
           clear HA
           simp only [newellaw03_ElementJoins.j3] at H
           (try simp only [toList_lit] at H)
           by_cases c39 : x78_28 = true
           ·subst c39
            have H1 : (some false) = some r := by rw [if_pos rfl] at H; exact H
            clear H
            have H := H1
            clear H1
            exfalso
            obtain rfl := Option.some.inj H
            exact absurd hr_ (by decide)
           ·replace c39 := Bool.eq_false_iff.mpr c39
            subst c39
            have H1 : (newellaw03_ElementJoins.l1 kj28 x4_22 t232 0) = some r := by rw [if_neg (show ¬ (false = true) by decide)] at H; exact H
            clear H
            have H := H1
            clear H1
            have H' := Aside0.mk H
            clear H
            go_wp2
            repeat (go_quiet (fail); try go_wp2)
            go_loopg [9] kj28 (fun kq v9 w' => ∃ (x9_5 : Int), v9 = .int .i64 x9_5 ∧ Aside0 (newellaw03_ElementJoins.l1 kq x4_22 t232 x9_5 = some r) ∧ Aside0 (kq ≤ kj28) ∧ Aside0 (Kd.R Kd.string 9 w' w.heap.size (fun _ => True) u4 x4_22) ∧ Aside0 (Kd.S k29 29 w' w.heap.size (fun _ => True) v234 t232) ∧ Aside0 (Below w.heap.size w w'))
            case atStart => exact ⟨(0), (by first | rfl | (simp; done) | (simp [*]; done) | (simp; exact isEmpty_bne _)), H', ⟨Nat.le_refl _⟩, ⟨by (with_reducible repeat (first | apply Kd.R_alloc | apply Kd.R_drewN | apply Kd.R_drew)); exact HO_4.out⟩, ⟨by (with_reducible repeat (first | apply Kd.S_alloc | apply Kd.S_drewN | apply Kd.S_drew)); exact HO_7.out⟩, ⟨by repeat (first | (with_reducible first | exact HB.out | apply below_alloc | apply pw_below_drewN | apply below_drew1) | exact HB.out)⟩⟩
            case round =>
             clear H'
             try clear c1
             try clear c2
             try clear p2
             try clear q2
             try clear hx2
             try clear c3
             try clear c3b0
             try clear c4
             try clear c5
             try clear c5b0
             try clear c6
             try clear c6b0
             try clear p6
             try clear c7
             try clear c7b0
             try clear c7b1
             try clear c8
             try clear c8b0
             try clear c8b1
             try clear c8b2
             try clear c9
             try clear c9b0
             try clear c9b1
             try clear c9b2
             try clear c10
             try clear c10b0
             try clear c10b1
             try clear c11
             try clear c11b0
             try clear c11b1
             try clear c11b2
             try clear c12
             try clear c12b0
             try clear c12b1
             try clear c12b2
             try clear c13
             try clear c13b0
             try clear c13b1
             try clear c14
             try clear c14b0
             try clear c14b1
             try clear c14b2
             try clear c15
             try clear c15b0
             try clear c15b1
             try clear c15b2
             try clear c16
             try clear c16b0
             try clear c16b1
             try clear c16b2
             try clear c17
             try clear c19
             try clear c20
             try clear p21
             try clear q21
             try clear hx21
             try clear c24
             try clear c24b0
             try clear c24b1
             try clear c24b2
             try clear c25
             try clear c27
             try clear c27b0
             try clear c27b1
             try clear c27b2
             try clear c32
             try clear c33
             try clear c33b0
             try clear c33b1
             try clear c39
             try clear hx219_0
             try clear p2
             try clear p21
             try clear p219
             try clear p6
             try clear q2
             try clear q21
             try clear q219
             obtain ⟨x9_5, rfl, HA, HK5, HO_4, HO_7, HB⟩ := hrel
             cases gk with
             | zero => exact absurd HA.out (by simp [newellaw03_ElementJoins.l1])
             | succ k5 =>
              have H := HA.out
              clear HA
              simp only [newellaw03_ElementJoins.l1] at H
              (try simp only [toList_lit] at H)
              by_cases c40 : x9_5 < (x4_22.length : Int)
              ·rw [if_pos c40] at H
               have c40b0 : decide (x9_5 < (x4_22.length : Int)) = true := decide_eq_true c40
               clear c40
               obtain ⟨ji41, hji41⟩ : ∃ j_ : Int, (wrap64 (x9_5 + 1)) = j_ := ⟨_, rfl⟩
               replace H : (if 0 ≤ (ji41) then (if (ji41) < (t232.length : Int) then (if 0 ≤ x9_5 then (if ((rd_T29 t232 (ji41)).f2).toList = (rdOf ByteArray.empty x4_22 x9_5).toList then (if ((rd_T29 t232 (ji41)).f0) = 0 then (if ((((rd_T29 t232 (ji41)).f1).toList == ([100] : List UInt8)) != ((rdOf ByteArray.empty x4_22 x9_5).toList == ([] : List UInt8))) = true then (some false) else (newellaw03_ElementJoins.l1 k5 x4_22 t232 ji41)) else (some false)) else (some false)) else (none)) else (none)) else (none)) = some r := by first | (rw [hji41] at H; exact H) | (simp only [hji41] at H ⊢; exact H)
               have hji41w : (IntKind.i64.wrap (x9_5 + 1)) = ji41 := (i64_w _).trans hji41
               by_cases c42 : 0 ≤ (ji41)
               ·rw [if_pos c42] at H
                have c42b0 : decide (0 ≤ (ji41)) = true := decide_eq_true c42
                clear c42
                by_cases c43 : (ji41) < (t232.length : Int)
                ·rw [if_pos c43] at H
                 have c43b0 : decide ((ji41) < (t232.length : Int)) = true := decide_eq_true c43
                 clear c43
                 by_cases c44 : 0 ≤ x9_5
                 ·rw [if_pos c44] at H
                  have c44b0 : decide (0 ≤ x9_5) = true := decide_eq_true c44
                  clear c44
                  by_cases c45 : ((rd_T29 t232 (ji41)).f2).toList = (rdOf ByteArray.empty x4_22 x9_5).toList
                  ·rw [if_pos c45] at H
                   have c45b0 : (((rd_T29 t232 (ji41)).f2).toList == (rdOf ByteArray.empty x4_22 x9_5).toList) = true := beq_iff_eq.mpr c45
                   have c45b1 : (((rd_T29 t232 (ji41)).f2).toList != (rdOf ByteArray.empty x4_22 x9_5).toList) = false := bne_eq_false_iff_eq.mpr c45
                   clear c45
                   by_cases c46 : ((rd_T29 t232 (ji41)).f0) = 0
                   ·rw [if_pos c46] at H
                    have c46b0 : (((rd_T29 t232 (ji41)).f0) == 0) = true := beq_iff_eq.mpr c46
                    have c46b1 : (((rd_T29 t232 (ji41)).f0) != 0) = false := bne_eq_false_iff_eq.mpr c46
                    clear c46
                    by_cases c47 : ((((rd_T29 t232 (ji41)).f1).toList == ([100] : List UInt8)) != ((rdOf ByteArray.empty x4_22 x9_5).toList == ([] : List UInt8))) = true
                    ·rw [if_pos c47] at H
                     have c47b0 : ((((rd_T29 t232 (ji41)).f1).toList == ([100] : List UInt8)) != ((rdOf ByteArray.empty x4_22 x9_5).toList == ([] : List UInt8))) = true := c47
                     (try (have c47b0e : ((((rd_T29 t232 (ji41)).f1).toList == ([100] : List UInt8)) != ((rdOf ByteArray.empty x4_22 x9_5).toList).isEmpty) = true := by have z_ := c47b0; have en_ : ∀ l_ : List UInt8, (l_ == ([] : List UInt8)) = l_.isEmpty := (fun l_ => by cases l_ <;> rfl); simp only [en_] at z_; exact z_))
                     (try (have c47b1 : decide ((((rd_T29 t232 (ji41)).f1).toList == ([100] : List UInt8)) = ((rdOf ByteArray.empty x4_22 x9_5).toList == ([] : List UInt8))) = false := by simpa using c47))
                     (try (have c47b2 : ((((rd_T29 t232 (ji41)).f1).toList == ([100] : List UInt8)) == ((rdOf ByteArray.empty x4_22 x9_5).toList == ([] : List UInt8))) = false := by simpa using c47))
                     (try (have c47b2e : ((((rd_T29 t232 (ji41)).f1).toList == ([100] : List UInt8)) == ((rdOf ByteArray.empty x4_22 x9_5).toList).isEmpty) = false := by have z_ := c47b2; have en_ : ∀ l_ : List UInt8, (l_ == ([] : List UInt8)) = l_.isEmpty := (fun l_ => by cases l_ <;> rfl); simp only [en_] at z_; exact z_))
                     (try (have c47b3 : ¬ ((((rd_T29 t232 (ji41)).f1).toList == ([100] : List UInt8)) = ((rdOf ByteArray.empty x4_22 x9_5).toList == ([] : List UInt8))) := by simpa using c47))
                     clear c47
                     exfalso
                     obtain rfl := Option.some.inj H
                     exact absurd hr_ (by decide)
                    ·rw [if_neg c47] at H
                     have c47b0 : ((((rd_T29 t232 (ji41)).f1).toList == ([100] : List UInt8)) != ((rdOf ByteArray.empty x4_22 x9_5).toList == ([] : List UInt8))) = false := by simpa using c47
                     (try (have c47b0e : ((((rd_T29 t232 (ji41)).f1).toList == ([100] : List UInt8)) != ((rdOf ByteArray.empty x4_22 x9_5).toList).isEmpty) = false := by have z_ := c47b0; have en_ : ∀ l_ : List UInt8, (l_ == ([] : List UInt8)) = l_.isEmpty := (fun l_ => by cases l_ <;> rfl); simp only [en_] at z_; exact z_))
                     (try (have c47b1 : decide ((((rd_T29 t232 (ji41)).f1).toList == ([100] : List UInt8)) = ((rdOf ByteArray.empty x4_22 x9_5).toList == ([] : List UInt8))) = true := by simpa using c47))
                     (try (have c47b2 : ((((rd_T29 t232 (ji41)).f1).toList == ([100] : List UInt8)) == ((rdOf ByteArray.empty x4_22 x9_5).toList == ([] : List UInt8))) = true := by simpa using c47))
                     (try (have c47b2e : ((((rd_T29 t232 (ji41)).f1).toList == ([100] : List UInt8)) == ((rdOf ByteArray.empty x4_22 x9_5).toList).isEmpty) = true := by have z_ := c47b2; have en_ : ∀ l_ : List UInt8, (l_ == ([] : List UInt8)) = l_.isEmpty := (fun l_ => by cases l_ <;> rfl); simp only [en_] at z_; exact z_))
                     clear c47
                     have H' := Aside0.mk H
                     clear H
                     obtain ⟨Ao48, co48, eo48⟩ := Kd.R_slice HO_4.out
                     subst eo48
                     obtain ⟨Ao49, co49, eo49⟩ := Kd.S_slice HO_7.out
                     subst eo49
                     have p237 : 0 ≤ ((ji41) : Int) := of_decide_eq_true (by first | (with_reducible assumption) | assumption)
                     have q237 : (ji41) < (t232.length : Int) := of_decide_eq_true (by first | (with_reducible assumption) | assumption)
                     obtain ⟨ad237, A237_3, c237_3, e237, hx237_0, hx237_1, hx237_2, hx237_3, hl237_3, hi237_3⟩ := at_T29 (Kd.S_reads' HO_7.out).2.2 (ji41) p237 q237
                     cases e237
                     obtain ⟨ce237, hce237, hMe237, hcc237⟩ := Kd.S_get HO_7.out z29 (ji41) p237 (by first | exact q237 | exact of_decide_eq_true (by first | (with_reducible assumption) | assumption) | (have e_ := (Kd.S_reads' HO_7.out).1; omega))
                     obtain ⟨ve237_3, rfl, ge237_3⟩ := k29_openM hMe237
                     have hv237_3 := hcc237 3 _ rfl
                     rw [add_field _ _ 3 (by omega)] at hv237_3
                     replace hv237_3 := Option.some.inj (hv237_3.symm.trans hx237_3)
                     rw [hv237_3] at ge237_3
                     have HL237_3 := Aside0.mk (show Kd.R k68 68 _ _ _ _ ((rd_T29 t232 (ji41)).f3) from ge237_3)
                     clear hv237_3 ge237_3
                     clear hcc237 hce237
                     have HR237_3 := Aside0.mk hi237_3
                     have HC237_3 := Aside0.mk hl237_3
                     clear hi237_3 hl237_3
                     replace p237 := eq_true p237
                     replace q237 := eq_true q237
                     have p238 : 0 ≤ (x9_5 : Int) := of_decide_eq_true (by first | (with_reducible assumption) | assumption)
                     have q238 : x9_5 < (x4_22.length : Int) := of_decide_eq_true (by first | (with_reducible assumption) | assumption)
                     (try (obtain ⟨Ao_, co_, eo_⟩ := Kd.R_slice HO_4.out; subst eo_))
                     obtain ⟨ad238, e238, hx238_0⟩ := Kd.at_string (Kd.R_reads' HO_4.out).2.2 x9_5 p238 q238
                     cases e238
                     replace p238 := eq_true p238
                     replace q238 := eq_true q238
                     have p239 : 0 ≤ ((ji41) : Int) := of_decide_eq_true (by first | (with_reducible assumption) | assumption)
                     have q239 : (ji41) < (t232.length : Int) := of_decide_eq_true (by first | (with_reducible assumption) | assumption)
                     obtain ⟨ad239, A239_3, c239_3, e239, hx239_0, hx239_1, hx239_2, hx239_3, hl239_3, hi239_3⟩ := at_T29 (Kd.S_reads' HO_7.out).2.2 (ji41) p239 q239
                     obtain rfl : ad237 = ad239 := (by injection e239)
                     obtain ⟨ce239, hce239, hMe239, hcc239⟩ := Kd.S_get HO_7.out z29 (ji41) p239 (by first | exact q239 | exact of_decide_eq_true (by first | (with_reducible assumption) | assumption) | (have e_ := (Kd.S_reads' HO_7.out).1; omega))
                     obtain ⟨ve239_3, rfl, ge239_3⟩ := k29_openM hMe239
                     have hv239_3 := hcc239 3 _ rfl
                     rw [add_field _ _ 3 (by omega)] at hv239_3
                     replace hv239_3 := Option.some.inj (hv239_3.symm.trans hx239_3)
                     rw [hv239_3] at ge239_3
                     have HL239_3 := Aside0.mk (show Kd.R k68 68 _ _ _ _ ((rd_T29 t232 (ji41)).f3) from ge239_3)
                     clear hv239_3 ge239_3
                     clear hcc239 hce239
                     have HR239_3 := Aside0.mk hi239_3
                     have HC239_3 := Aside0.mk hl239_3
                     clear hi239_3 hl239_3
                     replace p239 := eq_true p239
                     replace q239 := eq_true q239
                     have ea_ := Option.some.inj (hx237_3.symm.trans hx239_3)
                     injection ea_ with ea_ en_ ec_
                     subst ea_
                     subst ec_
                     clear en_
                     have p240 : 0 ≤ ((ji41) : Int) := of_decide_eq_true (by first | (with_reducible assumption) | assumption)
                     have q240 : (ji41) < (t232.length : Int) := of_decide_eq_true (by first | (with_reducible assumption) | assumption)
                     obtain ⟨ad240, A240_3, c240_3, e240, hx240_0, hx240_1, hx240_2, hx240_3, hl240_3, hi240_3⟩ := at_T29 (Kd.S_reads' HO_7.out).2.2 (ji41) p240 q240
                     obtain rfl : ad237 = ad240 := (by injection e240)
                     obtain ⟨ce240, hce240, hMe240, hcc240⟩ := Kd.S_get HO_7.out z29 (ji41) p240 (by first | exact q240 | exact of_decide_eq_true (by first | (with_reducible assumption) | assumption) | (have e_ := (Kd.S_reads' HO_7.out).1; omega))
                     obtain ⟨ve240_3, rfl, ge240_3⟩ := k29_openM hMe240
                     have hv240_3 := hcc240 3 _ rfl
                     rw [add_field _ _ 3 (by omega)] at hv240_3
                     replace hv240_3 := Option.some.inj (hv240_3.symm.trans hx240_3)
                     rw [hv240_3] at ge240_3
                     have HL240_3 := Aside0.mk (show Kd.R k68 68 _ _ _ _ ((rd_T29 t232 (ji41)).f3) from ge240_3)
                     clear hv240_3 ge240_3
                     clear hcc240 hce240
                     have HR240_3 := Aside0.mk hi240_3
                     have HC240_3 := Aside0.mk hl240_3
                     clear hi240_3 hl240_3
                     replace p240 := eq_true p240
                     replace q240 := eq_true q240
                     have ea_ := Option.some.inj (hx237_3.symm.trans hx240_3)
                     injection ea_ with ea_ en_ ec_
                     subst ea_
                     subst ec_
                     clear en_
                     have p241 : 0 ≤ (x9_5 : Int) := of_decide_eq_true (by first | (with_reducible assumption) | assumption)
                     have q241 : x9_5 < (x4_22.length : Int) := of_decide_eq_true (by first | (with_reducible assumption) | assumption)
                     (try (obtain ⟨Ao_, co_, eo_⟩ := Kd.R_slice HO_4.out; subst eo_))
                     obtain ⟨ad241, e241, hx241_0⟩ := Kd.at_string (Kd.R_reads' HO_4.out).2.2 x9_5 p241 q241
                     obtain rfl : ad238 = ad241 := (by injection e241)
                     replace p241 := eq_true p241
                     replace q241 := eq_true q241
                     go_wp2
                     repeat (go_quiet (fail); try go_wp2)
                     go_roundg k5
                     case measure => have := HK1.out; have := HJ1.out; have := HJ22.out; have := HJ28.out; have := HK5.out; omega
                     case rel => exact ⟨(ji41), (by first | rfl | (simp; done) | (simp only [← hji41] <;> (first | rfl | simp)) | (simp [*]; done)), H', ⟨by have := HK1.out; have := HJ1.out; have := HJ22.out; have := HJ28.out; have := HK5.out; omega⟩, ⟨by (with_reducible repeat (first | apply Kd.R_alloc | apply Kd.R_drewN | apply Kd.R_drew)); exact HO_4.out⟩, ⟨by (with_reducible repeat (first | apply Kd.S_alloc | apply Kd.S_drewN | apply Kd.S_drew)); exact HO_7.out⟩, ⟨by repeat (first | (with_reducible first | exact HB.out | apply below_alloc | apply pw_below_drewN | apply below_drew1) | exact HB.out)⟩⟩
                   ·rw [if_neg c46] at H
                    have c46b0 : (((rd_T29 t232 (ji41)).f0) == 0) = false := beq_eq_false_iff_ne.mpr c46
                    have c46b1 : (((rd_T29 t232 (ji41)).f0) != 0) = true := bne_iff_ne.mpr c46
                    exfalso
                    obtain rfl := Option.some.inj H
                    exact absurd hr_ (by decide)
                  ·rw [if_neg c45] at H
                   have c45b0 : (((rd_T29 t232 (ji41)).f2).toList == (rdOf ByteArray.empty x4_22 x9_5).toList) = false := beq_eq_false_iff_ne.mpr c45
                   have c45b1 : (((rd_T29 t232 (ji41)).f2).toList != (rdOf ByteArray.empty x4_22 x9_5).toList) = true := bne_iff_ne.mpr c45
                   exfalso
                   obtain rfl := Option.some.inj H
                   exact absurd hr_ (by decide)
                 ·rw [if_neg c44] at H
                  exact absurd H (by simp)
                ·rw [if_neg c43] at H
                 exact absurd H (by simp)
               ·rw [if_neg c42] at H
                exact absurd H (by simp)
              ·rw [if_neg c40] at H
               have c40b0 : decide (x9_5 < (x4_22.length : Int)) = false := decide_eq_false c40
               clear c40
               obtain rfl := Option.some.inj H
               obtain ⟨Ao50, co50, eo50⟩ := Kd.R_slice HO_4.out
               subst eo50
               go_wp2
               repeat (go_quiet (fail); try go_wp2)
               go_ret
               exact ⟨by first | rfl | (simp [errW_none, errW_some] <;> rfl) | (simp [*, errW_none, errW_some] <;> rfl), by repeat (first | (with_reducible first | exact HB.out | apply below_alloc | apply pw_below_drewN | apply below_drew1) | exact HB.out)⟩
        ·rw [if_neg c27] at H
         exact absurd H (by simp)

end Go.Proofs.Ytkoogebfdinbnaa.Q

namespace Go.Proofs.Ytkoogebfdinbnaa.Q
open Go.RowKit Go.Proofs.YtkoogebfdinbnaaW.PrintWords Go.Proofs.YtkoogebfdinbnaaW.PrintLast Go.Proofs.YtkoogebfdinbnaaW.Own Go.Proofs.YtkoogebfdinbnaaW.PrintMore
set_option linter.unusedVariables false
set_option linter.unusedSimpArgs false
namespace Rd
open Go Go.RowKit
theorem add_more (a : Addr) (i j : Nat) : (a.add i).add j = a.add (i + j) := by
  by_cases hi : i = 0
  · subst hi
    simp [Addr.add]
  · by_cases hj : j = 0
    · subst hj
      simp [Addr.add]
    · have hij : ¬ (i + j = 0) := by omega
      simp [Addr.add, hi, hj]
      omega
def Opens {α : Type} (t : TypeId) (d : Kd α) (wf : α → Prop) (bulk : α → Nat) : Prop :=
  Try.prog.cellsOf t = d.sz ∧ ∀ (H : Type) (enc : TypeId × Value → H) (W : World) (fuel : Nat) (cs : List Value) (dd : DataW H) (ps : List MemPlace),
    DataW.trod enc Try.prog W 0 (fun _ => true) true fuel t cs = some (dd, ps) → ∃ x, d.K W x cs ∧ wf x ∧ bulk x ≤ Rows.uptoBulk dd
theorem opens_int {t : TypeId} {k : IntKind} (hu : Try.prog.underlying t = some (.int k)) (hc : Try.prog.cellsOf t = 1) : Opens t (Kd.int k) (fun n => (Lit.int k n).wf = true) (fun _ => 1) := by
  refine ⟨hc, fun H enc W fuel cs dd ps h => ?_⟩
  obtain ⟨n, rfl, hx, hw⟩ := DataW.trod_int hu h
  obtain ⟨rfl, rfl⟩ := Prod.mk.inj hx
  exact ⟨n, rfl, hw, by simp [Rows.uptoBulk]⟩
def sumOf {α : Type} (f : α → Nat) (l : List α) : Nat := (l.map f).sum
theorem bulkAll_append {H : Type} (a b : List (DataW H)) : Rows.uptoBulkAll (a ++ b) = Rows.uptoBulkAll a + Rows.uptoBulkAll b := by
  induction a with
  | nil => simp [Rows.uptoBulkAll]
  | cons x l ih => simp only [List.cons_append, Rows.uptoBulkAll, ih]; omega
theorem opens_slice {α : Type} {t e : TypeId} {d : Kd α} {wf : α → Prop} {bulk : α → Nat} (hu : Try.prog.underlying t = some (.slice e)) (hc : Try.prog.cellsOf t = 1) (h : Opens e d wf bulk) :
    Opens t (Kd.slice e d) (fun xs => xs.length ≤ maxLen ∧ ∀ x ∈ xs, wf x) (fun xs => sumOf bulk xs + 1) := by
  refine ⟨hc, fun H enc W fuel cs dd ps hh => ?_⟩
  rcases DataW.trod_slice hu hh with ⟨rfl, hx⟩ | ⟨a, len, cap, elems, rest, n, rfl, rfl, hx, -, hlc, hcm, hel, he, -, -⟩
  · obtain ⟨rfl, rfl⟩ := Prod.mk.inj hx
    refine ⟨[], ?_, ?_, ?_⟩
    · exact ⟨none, 0, rfl, Nat.le_refl _, Kd.C_nil _ _⟩
    · refine ⟨?_, fun _ h => by simp at h⟩
      rw [List.length_nil]
      exact Nat.zero_le _
    · simp only [sumOf, List.map_nil, List.sum_nil, Rows.uptoBulk]
      exact Nat.le_refl _
  · have e1 := congrArg Prod.fst hx
    simp only at e1
    subst e1
    clear hx hh
    obtain ⟨hsz, hop⟩ := h
    have key : ∀ m, m ≤ elems.length → ∃ xs : List α, xs.length = m ∧ (∀ x ∈ xs, wf x) ∧ sumOf bulk xs ≤ Rows.uptoBulkAll ((elems.take m).map (·.1)) ∧
        ∀ j p, xs[j]? = some p → ∃ c, c.length = d.sz ∧ d.K W p c ∧ ∀ i u, c[i]? = some u → W.cell? (a.add (j * d.sz + i)) = some u := by
      intro m
      induction m with
      | zero => exact fun _ => ⟨[], rfl, fun _ h => by simp at h, Nat.zero_le _, fun j p h => by simp at h⟩
      | succ m ih =>
        intro hm
        obtain ⟨xs, h1, h2, h3, h4⟩ := ih (by omega)
        have hi := he m (by omega)
        rw [List.getElem?_eq_getElem (by omega : m < elems.length), hsz] at hi
        obtain ⟨c, hcells, ht⟩ := Option.bind_eq_some_iff.1 hi
        obtain ⟨x, hk, hwf, hb0⟩ := hop H enc W n c _ _ ht
        have hb : bulk x ≤ Rows.uptoBulk (elems[m]'(by omega)).1 := hb0
        clear hb0
        have hcl : c.length = d.sz ∧ ∀ i u, c[i]? = some u → W.cell? ((a.add (m * d.sz)).add i) = some u := by
          unfold World.cells? at hcells
          rw [if_pos (Nat.zero_le _)] at hcells
          refine ⟨by simpa using mapM_some_length hcells, fun i u hu => ?_⟩
          have hil : i < d.sz := by
            have := (List.getElem?_eq_some_iff.1 hu).1
            have e := mapM_some_length hcells
            rw [List.length_range] at e
            omega
          have := mapM_some_get hcells i i (by rw [List.getElem?_range hil])
          rw [hu] at this
          exact this
        refine ⟨xs ++ [x], by simp [h1], ?_, ?_, ?_⟩
        · intro y hy
          rcases List.mem_append.1 hy with hy | hy
          · exact h2 y hy
          · rw [List.mem_singleton.1 hy]; exact hwf
        · rw [List.take_succ_eq_append_getElem (by omega), List.map_append, bulkAll_append]
          simp only [sumOf, List.map_append, List.sum_append, List.map_cons, List.map_nil, List.sum_cons, List.sum_nil, Rows.uptoBulkAll] at h3 ⊢
          omega
        · intro j p hj
          rcases Nat.lt_or_ge j xs.length with hlt | hge
          · rw [List.getElem?_append_left hlt] at hj
            exact h4 j p hj
          · rw [List.getElem?_append_right hge] at hj
            have hj0 : j - xs.length = 0 := by
              rcases Nat.eq_zero_or_pos (j - xs.length) with h | h
              · exact h
              · rw [List.getElem?_eq_none (by simp; omega)] at hj; simp at hj
            rw [hj0] at hj
            obtain rfl : x = p := by simpa using hj
            obtain rfl : j = m := by omega
            exact ⟨c, hcl.1, hk, fun i u hu => by have z := hcl.2 i u hu; rw [add_more] at z; exact z⟩
    obtain ⟨xs, h1, h2, h3, h4⟩ := key elems.length (Nat.le_refl _)
    rw [List.take_length] at h3
    refine ⟨xs, ⟨some a, cap, by rw [h1, hel], by omega, ⟨rfl, ?_, fun _ => ⟨a, rfl, h4⟩⟩⟩, ⟨by omega, h2⟩, ?_⟩
    · unfold maxLen at hcm
      omega
    · simp only [Rows.uptoBulk]
      omega
def OpensF {β : Type} (fs : List Field) (off : Nat) (d : Kd β) (wf : β → Prop) (bulk : β → Nat) : Prop :=
  ∀ (H : Type) (enc : TypeId × Value → H) (W : World) (n : Nat) (cs : List Value) (xs : List (DataW H × List MemPlace)), xs.length = fs.length →
    (∀ (i : Nat) (f : Field), fs[i]? = some f → DataW.trod enc Try.prog W 0 (fun _ => true) true n f.type ((cs.drop f.offset).take (Try.prog.cellsOf f.type)) = xs[i]?) → cs.length = off + d.sz →
    ∃ x, d.K W x (cs.drop off) ∧ wf x ∧ bulk x ≤ Rows.uptoBulkAll (xs.map (·.1))
theorem OpensF.cons {α β : Type} {f : Field} {fs : List Field} {off off' : Nat} {a : Kd α} {b : Kd β} {wf : α → Prop} {bulk : α → Nat} {wf' : β → Prop} {bulk' : β → Nat} (ho : f.offset = off) (ho' : off' = off + a.sz) (h : Opens f.type a wf bulk) (hr : OpensF fs off' b wf' bulk') :
    OpensF (f :: fs) off (Kd.pair a b) (fun x => wf x.1 ∧ wf' x.2) (fun x => bulk x.1 + bulk' x.2) := by
  intro H enc W n cs xs hl ht hc
  subst ho'
  obtain ⟨hsz, hop⟩ := h
  obtain ⟨x0, xs', rfl⟩ : ∃ x0 xs', xs = x0 :: xs' := by
    match xs, hl with
    | x0 :: xs', _ => exact ⟨x0, xs', rfl⟩
  have h0 := ht 0 f rfl
  rw [ho, hsz] at h0
  obtain ⟨x, hk, hw, hb⟩ := hop H enc W n _ _ _ h0
  have hc' : cs.length = off + a.sz + b.sz := by
    have e : (Kd.pair a b).sz = a.sz + b.sz := rfl
    rw [e] at hc
    omega
  obtain ⟨y, hk', hw', hb'⟩ := hr H enc W n cs xs' (by simpa using hl) (fun i g hg => by have := ht (i + 1) g (by simpa using hg); simpa using this) hc'
  refine ⟨(x, y), ⟨(cs.drop off).take a.sz, cs.drop (off + a.sz), ?_, hk, hk'⟩, ⟨hw, hw'⟩, ?_⟩
  · rw [← List.drop_drop, List.take_append_drop]
  · simp only [List.map_cons, Rows.uptoBulkAll]
    omega
theorem glob {W : World} (h : W.ShapedOpen Try.prog) : Glob W :=
  cell_of_shapedOpen_int (g := 0) (t := 3) (zero := #[.int .i64 0]) (k := .i64) h (of_decide_eq_true (by kernel_rfl)) (by kernel_rfl) rfl (by kernel_rfl) (by kernel_rfl) Try.underlying3
end Rd
end Go.Proofs.Ytkoogebfdinbnaa.Q

-- Printed by this session's wip/np.py over the kit's print program. Not trusted: Lean checks it.
namespace Go.Proofs.Ytkoogebfdinbnaa.Q
open Go.RowKit Go.Proofs.YtkoogebfdinbnaaW.PrintWords Go.Proofs.YtkoogebfdinbnaaW.PrintLast Go.Proofs.YtkoogebfdinbnaaW.Own Go.Proofs.YtkoogebfdinbnaaW.PrintMore
set_option linter.unusedVariables false
set_option linter.unusedSimpArgs false

/-- The pure statement of newellaw03_ElementJoins. -/
def newellaw03_ElementJoins.Pure : Prop := ∀ (l0 : List Int), ((l0.length ≤ maxLen ∧ ∀ x_ ∈ l0, (Lit.int .i64 x_).wf = true)) → ∃ k, newellaw03_ElementJoins.f k l0 = some true
end Go.Proofs.Ytkoogebfdinbnaa.Q

namespace Go.Proofs.Ytkoogebfdinbnaa.Pure
open Go Go.RowKit Go.Proofs.Ytkoogebfdinbnaa.Q Go.Proofs.YtkoogebfdinbnaaW.PrintWords
set_option linter.unusedSimpArgs false
set_option linter.unusedVariables false
theorem attrs_few : ∀ (n : Nat) (nm : List UInt8) (ys : List S68) (l : List UInt8) (t : S40) (r : List UInt8), Tk.attrs n nm ys l = some (t, r) → t.f3.length + r.length ≤ ys.length + l.length
  | 0, _, _, _, _, _, h => by simp [Tk.attrs] at h
  | n + 1, nm, ys, l, t, r, h => by
    rw [Tk.attrs] at h
    (try dsimp only at h)
    have hs := skip_len l
    cases h1 : Tk.behind [62] (Tk.skip l) with
    | some q =>
      rw [h1] at h
      obtain ⟨rfl, rfl⟩ := Prod.mk.inj (Option.some.inj h)
      have := behind_len h1
      show ys.length + _ ≤ _
      omega
    | none =>
      rw [h1] at h
      (try dsimp only at h)
      cases h2 : Tk.behind [47, 62] (Tk.skip l) with
      | some q =>
        rw [h2] at h
        obtain ⟨rfl, rfl⟩ := Prod.mk.inj (Option.some.inj h)
        have := behind_len h2
        show ys.length + _ ≤ _
        omega
      | none =>
        rw [h2] at h
        (try dsimp only at h)
        split at h
        · cases h
        · obtain ⟨⟨x, q⟩, h3, h⟩ := Option.bind_eq_some_iff.1 h
          (try dsimp only at h)
          split at h
          · cases h
          · have h5 := attrs_few n nm _ q t r h
            have h6 := attr_len h3
            rw [List.length_append, List.length_singleton] at h5
            omega
theorem attrs_text : ∀ (n : Nat) (nm : List UInt8) (ys : List S68) (l : List UInt8) (t : S40) (r : List UInt8), Tk.attrs n nm ys l = some (t, r) → t.f2.size = 0
  | 0, _, _, _, _, _, h => by simp [Tk.attrs] at h
  | n + 1, nm, ys, l, t, r, h => by
    rw [Tk.attrs] at h
    (try dsimp only at h)
    cases h1 : Tk.behind [62] (Tk.skip l) with
    | some q =>
      rw [h1] at h
      obtain ⟨rfl, rfl⟩ := Prod.mk.inj (Option.some.inj h)
      rfl
    | none =>
      rw [h1] at h
      (try dsimp only at h)
      cases h2 : Tk.behind [47, 62] (Tk.skip l) with
      | some q =>
        rw [h2] at h
        obtain ⟨rfl, rfl⟩ := Prod.mk.inj (Option.some.inj h)
        rfl
      | none =>
        rw [h2] at h
        (try dsimp only at h)
        split at h
        · cases h
        · obtain ⟨⟨x, q⟩, h3, h⟩ := Option.bind_eq_some_iff.1 h
          (try dsimp only at h)
          split at h
          · cases h
          · exact attrs_text n nm _ q t r h
theorem ents_len : ∀ (n : Nat) (l t : List UInt8), Tk.ents n l = some t → t.length ≤ 4 * l.length
  | 0, _, _, h => by simp [Tk.ents] at h
  | n + 1, l, t, h => by
    rw [Tk.ents] at h
    cases h1 : Tk.upto [38] l with
    | none =>
      rw [h1] at h
      obtain rfl := Option.some.inj h
      omega
    | some p =>
      obtain ⟨a, b⟩ := p
      rw [h1] at h
      (try dsimp only at h)
      cases h2 : Tk.upto [59] b with
      | none => rw [h2] at h; cases h
      | some q =>
        obtain ⟨nm, r⟩ := q
        rw [h2] at h
        (try dsimp only at h)
        obtain ⟨c, h3, h⟩ := Option.bind_eq_some_iff.1 h
        obtain ⟨u, h4, h⟩ := Option.map_eq_some_iff.1 h
        subst h
        have e1 := upto_sum h1
        have e2 := upto_sum h2
        have e3 := entity_len h3
        have e4 := ents_len n r u h4
        rw [List.length_append, List.length_append]
        simp only [List.length_cons, List.length_nil] at e1 e2
        omega
theorem next_few {fst : Bool} {l r : List UInt8} {t : S40} (h : Tk.next fst l = some (t, r)) : t.f3.length ≤ l.length ∧ t.f2.size ≤ 4 * l.length := by
  unfold Tk.next at h
  cases h1 : Tk.behind [60, 33, 45, 45] l with
  | some q =>
    rw [h1] at h
    unfold Tk.comment at h
    obtain ⟨⟨a, b⟩, h2, h⟩ := Option.bind_eq_some_iff.1 h
    (try dsimp only at h)
    split at h
    · cases h
    · obtain ⟨rfl, _⟩ := Prod.mk.inj (Option.some.inj h)
      exact ⟨Nat.zero_le _, by have e1 := (upto_len h2).1; have e2 := behind_len h1; show (Tk.bs a).size ≤ _; rw [bs_size]; omega⟩
  | none =>
  rw [h1] at h
  (try dsimp only at h)
  cases h1 : Tk.behind [60, 33, 91, 67, 68, 65, 84, 65, 91] l with
  | some q =>
    rw [h1] at h
    obtain ⟨⟨a, b⟩, h2, h⟩ := Option.map_eq_some_iff.1 (show (Tk.upto [93, 93, 62] q).map _ = some (t, r) from h)
    obtain ⟨rfl, _⟩ := Prod.mk.inj h
    exact ⟨Nat.zero_le _, by have e1 := (upto_len h2).1; have e2 := behind_len h1; show (Tk.bs a).size ≤ _; rw [bs_size]; omega⟩
  | none =>
  rw [h1] at h
  (try dsimp only at h)
  cases h1 : Tk.behind [60, 63] l with
  | some q =>
    rw [h1] at h
    obtain ⟨⟨a, b⟩, h2, h⟩ := Option.bind_eq_some_iff.1 (show (Tk.upto [63, 62] q).bind _ = some (t, r) from h)
    (try dsimp only at h)
    split at h
    · obtain ⟨rfl, _⟩ := Prod.mk.inj (Option.some.inj h)
      exact ⟨Nat.zero_le _, by have e1 := (upto_len h2).1; have e2 := behind_len h1; show (Tk.bs a).size ≤ _; rw [bs_size]; omega⟩
    · cases h
  | none =>
  rw [h1] at h
  (try dsimp only at h)
  cases h1 : Tk.behind [60, 47] l with
  | some q =>
    rw [h1] at h
    (try dsimp only at h)
    unfold Tk.close at h
    split at h
    · cases h
    · obtain ⟨b, h2, h⟩ := Option.map_eq_some_iff.1 h
      obtain ⟨rfl, _⟩ := Prod.mk.inj h
      exact ⟨Nat.zero_le _, Nat.zero_le _⟩
  | none =>
  rw [h1] at h
  (try dsimp only at h)
  cases h1 : Tk.behind [60] l with
  | some q =>
    rw [h1] at h
    have e := behind_sum h1
    (try dsimp only at h)
    unfold Tk.opening at h
    split at h
    · cases h
    · have e2 := attrs_few _ _ _ _ _ _ h
      rw [List.length_drop] at e2
      have e3 := attrs_text _ _ _ _ _ _ h
      simp only [List.length_cons, List.length_nil] at e e2
      exact ⟨by omega, by omega⟩
  | none =>
  rw [h1] at h
  (try dsimp only at h)
  unfold Tk.text at h
  (try dsimp only at h)
  obtain ⟨x, hx, h⟩ := Option.map_eq_some_iff.1 h
  obtain ⟨rfl, _⟩ := Prod.mk.inj h
  refine ⟨Nat.zero_le _, ?_⟩
  have e1 := ents_len _ _ _ hx
  have e2 : (l.takeWhile (· != 60)).length ≤ l.length := (List.takeWhile_sublist _).length_le
  show (Tk.bs x).size ≤ _
  rw [bs_size]
  omega
theorem pieces_few : ∀ (n : Nat) (fst : Bool) (l : List UInt8) (ts : List S40), Tk.pieces n fst l = some ts → ts.length ≤ l.length ∧ ∀ t ∈ ts, t.f3.length ≤ l.length ∧ t.f2.size ≤ 4 * l.length
  | 0, _, _, _, h => by simp [Tk.pieces] at h
  | n + 1, fst, l, ts, h => by
    rw [Tk.pieces] at h
    by_cases hl : l = []
    · rw [if_pos hl] at h
      obtain rfl := Option.some.inj h
      exact ⟨Nat.zero_le _, fun t ht => absurd ht (by simp)⟩
    · rw [if_neg hl] at h
      obtain ⟨⟨t, r⟩, h1, h⟩ := Option.bind_eq_some_iff.1 h
      obtain ⟨us, h2, h⟩ := Option.map_eq_some_iff.1 h
      subst h
      have e1 := next_len hl h1
      have e2 := next_few h1
      obtain ⟨e3, e4⟩ := pieces_few n false r us h2
      refine ⟨by rw [List.length_cons]; omega, fun x hx => ?_⟩
      rcases List.mem_cons.1 hx with rfl | hx
      · exact e2
      · have := e4 x hx
        omega
theorem split_few (l : List UInt8) : (Tk.split l).1.length ≤ l.length ∧ ∀ t ∈ (Tk.split l).1, t.f3.length ≤ l.length ∧ t.f2.size ≤ 4 * l.length := by
  unfold Tk.split
  by_cases h1 : 20000 < l.length
  · rw [if_pos h1]; exact ⟨Nat.zero_le _, fun t ht => absurd ht (by simp)⟩
  · rw [if_neg h1]
    by_cases h2 : l.any (fun c => !Tk.allowed c) = true
    · rw [if_pos h2]; exact ⟨Nat.zero_le _, fun t ht => absurd ht (by simp)⟩
    · rw [if_neg h2]
      cases hp : Tk.pieces (l.length + 1) true l with
      | none => exact ⟨Nat.zero_le _, fun t ht => absurd ht (by simp)⟩
      | some ts => exact pieces_few _ _ _ _ hp
theorem sum_le (ts : List S40) (m : Nat) (h : ∀ t ∈ ts, t.f2.size ≤ m) : (ts.map fun t => t.f2.size).sum ≤ ts.length * m := by
  induction ts with
  | nil => simp
  | cons t ts ih =>
    rw [List.map_cons, List.sum_cons, List.length_cons, Nat.succ_mul]
    have h1 := h t List.mem_cons_self
    have h2 := ih (fun x hx => h x (List.mem_cons_of_mem _ hx))
    omega
theorem split_fits (l : List UInt8) (hl : l.length ≤ 5000) : El.fits (Tk.split l).1 = true := by
  obtain ⟨h1, h2⟩ := split_few l
  have h3 := sum_le (Tk.split l).1 20000 (fun t ht => by have := (h2 t ht).2; omega)
  unfold El.fits
  rw [Bool.and_eq_true, Bool.and_eq_true]
  refine ⟨⟨decide_eq_true (Nat.le_trans h3 (by omega)), ?_⟩, decide_eq_true (by omega)⟩
  rw [List.all_eq_true]
  intro t ht
  have := (h2 t ht).1
  exact decide_eq_true (by omega)
def parseL (l : List UInt8) : List S29 × Int := if (Tk.split l).2 = 0 then El.tree (Tk.split l).1 else ([], (Tk.split l).2)
theorem parse_told (a : ByteArray) (ha : a.size ≤ 5000) : element_Parse.f a = some (parseL a.data.toList) := by
  have hz := bs_size a.data.toList
  rw [bs_data] at hz
  unfold element_Parse.f
  have hs : token_Split.f a = some (Tk.split a.data.toList) := by
    unfold token_Split.f
    rw [if_pos (by omega)]
  rw [hs, Option.bind_some]
  unfold parseL
  split
  · have ht : element_Tree.f (Tk.split a.data.toList).1 = some (El.tree (Tk.split a.data.toList).1) := by
      unfold element_Tree.f
      rw [if_pos (split_fits _ (by omega))]
    rw [ht]; rfl
  · rfl
end Go.Proofs.Ytkoogebfdinbnaa.Pure

namespace Go.Proofs.Ytkoogebfdinbnaa.Pure
open Go Go.RowKit Go.Proofs.Ytkoogebfdinbnaa.Q Go.Proofs.YtkoogebfdinbnaaW.PrintWords
set_option linter.unusedSimpArgs false
set_option linter.unusedVariables false
abbrev Nd := S29
end Go.Proofs.Ytkoogebfdinbnaa.Pure

namespace Go.Proofs.Ytkoogebfdinbnaa.Pure
open Go Go.RowKit Go.Proofs.Ytkoogebfdinbnaa.Q Go.Proofs.YtkoogebfdinbnaaW.PrintWords
set_option linter.unusedSimpArgs false
set_option linter.unusedVariables false
theorem upto_split {c : UInt8} : ∀ {a b : List UInt8}, (∀ x ∈ a, x ≠ c) → Tk.upto [c] (a ++ c :: b) = some (a, b)
  | a, b, h => by
    have e : Lib.index (a ++ c :: b) [c] = (a.length : Int) := by
      refine Lib.index_first (by simp) ?_ ?_
      · unfold Lib.occAt
        rw [List.drop_left]
        simp [List.isPrefixOf]
      · intro j hj
        unfold Lib.occAt
        rw [List.drop_append_of_le_length (by omega), List.drop_eq_getElem_cons hj]
        simp only [List.cons_append, List.isPrefixOf, Bool.and_true]
        exact beq_eq_false_iff_ne.2 fun e => h _ (List.getElem_mem hj) e.symm
    unfold Tk.upto
    rw [e, if_pos (by omega), Int.toNat_natCast, List.take_left]
    congr 2
    rw [show a.length + [c].length = (a ++ [c]).length by simp, show a ++ c :: b = (a ++ [c]) ++ b by simp, List.drop_left]
theorem upto_no {c : UInt8} {a : List UInt8} (h : ∀ x ∈ a, x ≠ c) : Tk.upto [c] a = none := by
  have e : Lib.index a [c] = -1 := by
    refine Lib.index_none ?_
    intro j hj
    unfold Lib.occAt
    rcases Nat.lt_or_ge j a.length with hl | hl
    · rw [List.drop_eq_getElem_cons hl]
      simp only [List.isPrefixOf, Bool.and_true]
      exact beq_eq_false_iff_ne.2 fun e => h _ (List.getElem_mem hl) e.symm
    · rw [List.drop_eq_nil_of_le hl]; rfl
  unfold Tk.upto
  rw [e]; rfl
theorem part (c : UInt8) (l : List UInt8) : (∀ x ∈ l, x ≠ c) ∨ ∃ a b, l = a ++ c :: b ∧ ∀ x ∈ a, x ≠ c := by
  induction l with
  | nil => exact .inl fun x h => absurd h (by simp)
  | cons d l ih =>
    by_cases hd : d = c
    · exact .inr ⟨[], l, by rw [hd]; rfl, fun x h => absurd h (by simp)⟩
    · rcases ih with ih | ⟨a, b, e, ih⟩
      · refine .inl fun x hx => ?_
        rcases List.mem_cons.1 hx with rfl | hx
        · exact hd
        · exact ih x hx
      · refine .inr ⟨d :: a, b, by rw [e]; rfl, fun x hx => ?_⟩
        rcases List.mem_cons.1 hx with rfl | hx
        · exact hd
        · exact ih x hx
theorem ents_fuel : ∀ (n m : Nat) (l : List UInt8), l.length < n → l.length < m → Tk.ents n l = Tk.ents m l := by
  intro n
  induction n with
  | zero => intro m l h; omega
  | succ n ih =>
    intro m l h1 h2
    obtain ⟨m, rfl⟩ : ∃ k, m = k + 1 := ⟨m - 1, by omega⟩
    cases hu : Tk.upto [38] l with
    | none => rw [ents_none hu, ents_none hu]
    | some p =>
      obtain ⟨a, b⟩ := p
      have e1 := upto_sum hu
      cases hv : Tk.upto [59] b with
      | none => rw [ents_open hu hv, ents_open hu hv]
      | some q =>
        obtain ⟨x, r⟩ := q
        have e2 := upto_sum hv
        simp only [List.length_cons, List.length_nil] at e1 e2
        rw [ents_step hu hv, ents_step hu hv, ih m r (by omega) (by omega)]
theorem entities_fuel {n : Nat} {l : List UInt8} (h : l.length < n) : Tk.ents n l = Tk.entities l := ents_fuel _ _ _ h (Nat.lt_succ_self _)
theorem entities_plain (a t : List UInt8) (h : ∀ x ∈ a, x ≠ 38) : Tk.entities (a ++ t) = (Tk.entities t).map fun r => a ++ r := by
  rcases part 38 t with ht | ⟨p, q, rfl, hp⟩
  · have h1 : Tk.upto [38] (a ++ t) = none := upto_no fun x hx => by
      rcases List.mem_append.1 hx with hx | hx
      · exact h x hx
      · exact ht x hx
    unfold Tk.entities
    rw [ents_none h1, ents_none (upto_no ht)]
    rfl
  · have h1 : Tk.upto [38] (a ++ (p ++ 38 :: q)) = some (a ++ p, q) := by
      rw [← List.append_assoc]
      refine upto_split fun x hx => ?_
      rcases List.mem_append.1 hx with hx | hx
      · exact h x hx
      · exact hp x hx
    have h2 : Tk.upto [38] (p ++ 38 :: q) = some (p, q) := upto_split hp
    unfold Tk.entities
    cases hv : Tk.upto [59] q with
    | none => rw [ents_open h1 hv, ents_open h2 hv]; rfl
    | some s =>
      obtain ⟨x, r⟩ := s
      have e1 := upto_sum h1
      have e2 := upto_sum h2
      have e3 := upto_sum hv
      simp only [List.length_cons, List.length_nil] at e1 e2 e3
      rw [ents_step h1 hv, ents_step h2 hv, entities_fuel (by omega), entities_fuel (by omega)]
      cases Tk.entity x with
      | none => rfl
      | some c =>
        cases Tk.entities r with
        | none => rfl
        | some t => simp
theorem index_app {x l s : List UInt8} (hx : x ≠ []) (h : 0 ≤ Lib.index l x) : Lib.index (l ++ s) x = Lib.index l x := by
  induction l with
  | nil =>
    have := Lib.index_room [] x h
    cases x with
    | nil => exact absurd rfl hx
    | cons c q => simp only [List.length_cons, List.length_nil] at this; omega
  | cons c l ih =>
    rw [List.cons_append, Lib.index, Lib.index]
    by_cases hp : x.isPrefixOf (c :: l) = true
    · rw [if_pos hp]
      have : x.isPrefixOf (c :: (l ++ s)) = true := by
        obtain ⟨t, ht⟩ := List.isPrefixOf_iff_prefix.1 hp
        exact List.isPrefixOf_iff_prefix.2 ⟨t ++ s, by rw [← List.append_assoc, ht]; rfl⟩
      rw [if_pos this]
    · rw [Lib.index, if_neg hp] at h
      rw [if_neg hp]
      have hge := Lib.index_ge l x
      by_cases hm : Lib.index l x = -1
      · rw [hm] at h; exact absurd h (by decide)
      · have hm2 : (Lib.index l x == -1) = false := by simpa using hm
        have h0 : 0 ≤ Lib.index l x := by omega
        have ih := ih h0
        have hnp : ¬ x.isPrefixOf (c :: (l ++ s)) = true := by
          intro hq
          obtain ⟨t, ht⟩ := List.isPrefixOf_iff_prefix.1 hq
          have hr := Lib.index_room l x h0
          have hlen : x.length ≤ (c :: l).length := by simp only [List.length_cons]; omega
          refine hp (List.isPrefixOf_iff_prefix.2 ⟨(c :: l).drop x.length, ?_⟩)
          have e : (x ++ t).take x.length = ((c :: l) ++ s).take x.length := by rw [ht]; rfl
          rw [List.take_left, List.take_append_of_le_length hlen] at e
          conv => lhs; arg 1; rw [e]
          exact List.take_append_drop _ _
        rw [if_neg hnp, ih]
theorem upto_app {x l a r : List UInt8} (s : List UInt8) (hx : x ≠ []) (h : Tk.upto x l = some (a, r)) : Tk.upto x (l ++ s) = some (a, r ++ s) := by
  have hs := upto_sum h
  unfold Tk.upto at h ⊢
  split at h
  · rename_i h0
    have hr := Lib.index_room l x h0
    rw [index_app hx h0, if_pos h0]
    injection h with h
    injection h with h1 h2
    rw [List.take_append_of_le_length (by omega), List.drop_append_of_le_length (by omega), h1, h2]
  · cases h
theorem tw_app (a x : List UInt8) (h : ∀ c ∈ a, c ≠ 60) : (a ++ 60 :: x).takeWhile (· != 60) = a := by
  induction a with
  | nil => rfl
  | cons d a ih => rw [List.cons_append, List.takeWhile_cons, if_pos (by simpa using h d (by simp)), ih (fun c hc => h c (by simp [hc]))]
theorem text_piece (a x r : List UInt8) (fst : Bool) (hne : a ≠ []) (h : ∀ c ∈ a, c ≠ 60) (hr : Tk.entities a = some r) : Tk.next fst (a ++ 60 :: x) = some (Tk.tk 3 [] r [] false, 60 :: x) := by
  cases a with
  | nil => exact absurd rfl hne
  | cons c q =>
    have hc : c ≠ 60 := h c (by simp)
    have nb : ∀ y : List UInt8, ∀ z, Tk.behind (60 :: y) (c :: q ++ z) = none := fun y z => by
      unfold Tk.behind
      rw [if_neg]
      simp only [List.cons_append, List.isPrefixOf, Bool.and_eq_true, beq_iff_eq]
      intro hh
      exact hc hh.1.symm
    unfold Tk.next
    simp only [nb]
    unfold Tk.text
    dsimp only
    rw [tw_app _ _ h, hr, Option.map_some, List.drop_left]
theorem split_pieces (x : List UInt8) (l : List S40) (hl : x.length ≤ 20000) (ha : ∀ c ∈ x, Tk.allowed c = true) (h : Tk.pieces (x.length + 1) true x = some l) : Tk.split x = (l, 0) := by
  unfold Tk.split
  have hno : x.any (fun c => !Tk.allowed c) = false := by
    rw [Bool.eq_false_iff]
    intro h
    obtain ⟨c, hc, h⟩ := List.any_eq_true.1 h
    rw [ha c hc] at h
    exact absurd h (by decide)
  rw [if_neg (by omega), hno, if_neg (by decide), h]
theorem next_d (fst : Bool) (b : List UInt8) : Tk.next fst (60 :: (100 :: 47 :: 62 :: b)) = some (Tk.tk 1 [100] [] [] true, b) := by
  have hb : ∀ q : List UInt8, (∃ c q', q = c :: q' ∧ c ≠ 100) → Tk.behind (60 :: q) (60 :: (100 :: 47 :: 62 :: b)) = none := by
    rintro q ⟨c, q', rfl, hc⟩
    unfold Tk.behind
    rw [if_neg]
    intro h
    simp only [List.isPrefixOf, Bool.and_eq_true, beq_iff_eq] at h
    exact hc h.2.1
  unfold Tk.next
  rw [hb _ ⟨33, _, rfl, by decide⟩]
  dsimp only
  rw [hb _ ⟨33, _, rfl, by decide⟩]
  dsimp only
  rw [hb _ ⟨63, _, rfl, by decide⟩]
  dsimp only
  rw [hb _ ⟨47, _, rfl, by decide⟩]
  dsimp only
  have h1 : Tk.behind [60] (60 :: (100 :: 47 :: 62 :: b)) = some (100 :: 47 :: 62 :: b) := rfl
  rw [h1]
  dsimp only
  have h2 : Tk.head (100 :: 47 :: 62 :: b) = [100] := by
    show (if Tk.letter 100 = true then 100 :: (47 :: 62 :: b).takeWhile Tk.within else []) = [100]
    rw [if_pos (by decide), List.takeWhile_cons, if_neg (by decide)]
  unfold Tk.opening
  rw [h2, if_neg (by simp)]
  show Tk.attrs (_ + 1) [100] [] (47 :: 62 :: b) = _
  rw [Tk.attrs]
  have h3 : Tk.skip (47 :: 62 :: b) = 47 :: 62 :: b := by unfold Tk.skip; rw [List.dropWhile_cons, if_neg (by decide)]
  have h4 : Tk.behind [62] (47 :: 62 :: b) = none := rfl
  have h5 : Tk.behind [47, 62] (47 :: 62 :: b) = some b := rfl
  (try dsimp only)
  rw [h3, h4]
  (try dsimp only)
  rw [h5]
def cdata : List UInt8 := [60, 33, 91, 67, 68, 65, 84, 65, 91, 60, 98, 62, 93, 93, 62]
def comm : List UInt8 := [60, 33, 45, 45, 32, 99, 32, 45, 45, 62]
def elem : List UInt8 := [60, 100, 47, 62]
def piece (c : Nat) : List UInt8 := if c = 0 then [97] else if c = 1 then cdata else if c = 2 then comm else elem
def body : List Nat → List UInt8
  | [] => [60, 47, 114, 62]
  | c :: r => piece c ++ body r
def txtA : El.Tok := Tk.tk 3 [] [97] [] false
def txtB : El.Tok := Tk.tk 3 [] [60, 98, 62] [] false
def cmtC : El.Tok := Tk.tk 4 [] [32, 99, 32] [] false
def elD : El.Tok := Tk.tk 1 [100] [] [] true
def clR : El.Tok := Tk.tk 2 [114] [] [] false
def fine (c : Nat) : El.Tok := if c = 0 then txtA else if c = 1 then txtB else if c = 2 then cmtC else elD
theorem next_data (s : List UInt8) : Tk.next false (cdata ++ s) = some (txtB, s) := by
  have h0 : Tk.behind [60, 33, 45, 45] (cdata ++ s) = none := rfl
  have h1 : Tk.behind [60, 33, 91, 67, 68, 65, 84, 65, 91] (cdata ++ s) = some ([60, 98, 62, 93, 93, 62] ++ s) := rfl
  have h2 : Tk.upto [93, 93, 62] ([60, 98, 62, 93, 93, 62] ++ s) = some ([60, 98, 62], [] ++ s) := upto_app s (by simp) (by kernel_rfl)
  unfold Tk.next
  rw [h0]
  dsimp only
  rw [h1]
  dsimp only
  unfold Tk.data
  rw [h2]
  rfl
theorem next_comm (s : List UInt8) : Tk.next false (comm ++ s) = some (cmtC, s) := by
  have h0 : Tk.behind [60, 33, 45, 45] (comm ++ s) = some ([32, 99, 32, 45, 45, 62] ++ s) := rfl
  have h2 : Tk.upto [45, 45, 62] ([32, 99, 32, 45, 45, 62] ++ s) = some ([32, 99, 32], [] ++ s) := upto_app s (by simp) (by kernel_rfl)
  unfold Tk.next
  rw [h0]
  dsimp only
  unfold Tk.comment
  rw [h2, Option.bind_some, if_neg (show ¬ (0 ≤ Lib.index ([32, 99, 32] : List UInt8) [45, 45] ∨ Lib.hasSuffix ([32, 99, 32] : List UInt8) [45] = true) from by decide)]
  rfl
theorem body_ne (cs : List Nat) : body cs ≠ [] := by
  cases cs with
  | nil => simp [body]
  | cons c r =>
    unfold body piece cdata comm elem
    split
    · simp
    split
    · simp
    split
    · simp
    · simp
theorem next_close : Tk.next false [60, 47, 114, 62] = some (clR, []) := by kernel_rfl
theorem body_split (cs : List Nat) : ∃ (n : Nat) (r : List Nat) (x : List UInt8), cs = List.replicate n 0 ++ r ∧ body cs = List.replicate n 97 ++ body r ∧ body r = 60 :: x := by
  induction cs with
  | nil => exact ⟨0, [], [47, 114, 62], rfl, rfl, rfl⟩
  | cons c r ih =>
    by_cases hc : c = 0
    · subst hc
      obtain ⟨n, q, x, h1, h2, h3⟩ := ih
      exact ⟨n + 1, q, x, by rw [h1]; rfl, by rw [body, h2]; rfl, h3⟩
    · have : ∃ y, piece c = 60 :: y := by
        unfold piece
        rw [if_neg hc]
        split
        · exact ⟨_, rfl⟩
        split
        · exact ⟨_, rfl⟩
        · exact ⟨_, rfl⟩
      obtain ⟨y, hy⟩ := this
      exact ⟨0, c :: r, y ++ body r, rfl, rfl, by rw [body, hy]; rfl⟩
theorem bs_app (a b : List UInt8) : Tk.bs (a ++ b) = Tk.bs a ++ Tk.bs b := by
  apply ByteArray.ext
  simp [Tk.bs, ByteArray.data_append]
theorem ba_assoc (a b c : ByteArray) : a ++ b ++ c = a ++ (b ++ c) := ByteArray.append_assoc
def txt (x : List UInt8) : El.Tok := Tk.tk 3 [] x [] false
theorem bs_nul {x : List UInt8} (h : x ≠ []) : Tk.bs x ≠ El.nul := by
  intro e
  have := congrArg (fun b : ByteArray => b.data.toList) e
  exact h this
theorem take_txt (l : List Nd) (x : List UInt8) (hx : x ≠ []) : El.take l [0] (txt x) = match El.lastI l 0 with
    | some k => if (l.getD k El.zn).f1 = El.nul then .ok (l.set k { l.getD k El.zn with f2 := (l.getD k El.zn).f2 ++ Tk.bs x }, [0]) else if l.length < 2000 then .ok (l ++ [⟨0, El.nul, Tk.bs x, []⟩], [0]) else .error 3
    | none => if l.length < 2000 then .ok (l ++ [⟨0, El.nul, Tk.bs x, []⟩], [0]) else .error 3 := by
  have f0 : (txt x).f0 = 3 := rfl
  unfold El.take
  rw [f0, if_neg (by decide), if_neg (by decide), if_neg (by decide), if_neg (by decide), if_pos rfl]
  unfold El.text
  rw [if_neg (by decide), if_neg (show ¬ (txt x).f2 = El.nul from bs_nul hx)]
  have e : El.inner [0] = 0 := rfl
  rw [e]
  have putd : (match El.put l [0] El.nul (txt x).f2 [] with | none => Except.error 3 | some l' => Except.ok (l', [0])) = if l.length < 2000 then (Except.ok (l ++ [⟨0, El.nul, Tk.bs x, []⟩], [0]) : Except Int El.St) else .error 3 := by
    unfold El.put
    by_cases h : l.length < 2000
    · rw [if_pos h, if_pos h]; rfl
    · rw [if_neg h, if_neg h]
  cases hk : El.lastI l 0 with
  | none => exact putd
  | some k =>
    show (if (l.getD k El.zn).f1 = El.nul then _ else _) = (if (l.getD k El.zn).f1 = El.nul then _ else _)
    by_cases h : (l.getD k El.zn).f1 = El.nul
    · rw [if_pos h, if_pos h]; rfl
    · rw [if_neg h, if_neg h]; exact putd
theorem getD_set (l : List Nd) (k : Nat) (n : Nd) (h : k < l.length) : (l.set k n).getD k El.zn = n := by
  rw [List.getD_eq_getElem?_getD, List.getElem?_set_self h]; rfl
theorem getD_end (l : List Nd) (n : Nd) : (l ++ [n]).getD l.length El.zn = n := by
  rw [List.getD_eq_getElem?_getD, List.getElem?_append_right (Nat.le_refl _), Nat.sub_self]; rfl
theorem set_end (l : List Nd) (n m : Nd) : (l ++ [n]).set l.length m = l ++ [m] := by
  rw [List.set_append_right _ _ (Nat.le_refl _), Nat.sub_self]; rfl
theorem all_join (l : List Nd) (x y : List UInt8) (ts : List El.Tok) (hx : x ≠ []) (hy : y ≠ []) : El.all l [0] (txt (x ++ y) :: ts) = El.all l [0] (txt x :: txt y :: ts) := by
  rw [El.all, El.all, take_txt l (x ++ y) (by simp [hx]), take_txt l x hx]
  have new : (match (if l.length < 2000 then (Except.ok (l ++ [⟨0, El.nul, Tk.bs (x ++ y), []⟩], [0]) : Except Int El.St) else .error 3) with | .error e => (Except.error e : Except Int El.St) | .ok s => El.all s.1 s.2 ts) =
      (match (if l.length < 2000 then (Except.ok (l ++ [⟨0, El.nul, Tk.bs x, []⟩], [0]) : Except Int El.St) else .error 3) with | .error e => (Except.error e : Except Int El.St) | .ok s => El.all s.1 s.2 (txt y :: ts)) := by
    by_cases h : l.length < 2000
    · rw [if_pos h, if_pos h]
      simp only
      rw [El.all, take_txt _ y hy, El.lastI_snoc, if_pos rfl]
      simp only
      rw [getD_end, if_pos rfl]
      simp only
      rw [set_end, bs_app]
    · rw [if_neg h, if_neg h]
  cases hk : El.lastI l 0 with
  | none => exact new
  | some k =>
    have hkl := El.lastI_lt l 0 k hk
    simp only
    by_cases h : (l.getD k El.zn).f1 = El.nul
    · rw [if_pos h, if_pos h]
      simp only
      rw [El.all, take_txt _ y hy, El.lastI_set l k _ 0 (fun z hz => by rw [List.getD_eq_getElem?_getD, hz]; rfl), hk]
      simp only
      rw [getD_set l k _ hkl]
      simp only
      rw [if_pos h, List.set_set, bs_app, ba_assoc]
    · rw [if_neg h, if_neg h]
      exact new
theorem all_run (ts : List El.Tok) : ∀ (n : Nat) (l : List Nd), El.all l [0] (txt (List.replicate (n + 1) 97) :: ts) = El.all l [0] (List.replicate (n + 1) txtA ++ ts)
  | 0, l => rfl
  | n + 1, l => by
    have e : (List.replicate (n + 1 + 1) 97 : List UInt8) = [97] ++ List.replicate (n + 1) 97 := rfl
    rw [e, all_join l [97] _ ts (by simp) (by simp)]
    show El.all l [0] (txtA :: txt (List.replicate (n + 1) 97) :: ts) = El.all l [0] (txtA :: (List.replicate (n + 1) txtA ++ ts))
    rw [El.all, El.all]
    have hs : ∀ s, El.take l [0] txtA = .ok s → s.2 = [0] := by
      intro s hs
      have := take_txt l [97] (by simp)
      rw [show txt [97] = txtA from rfl, hs] at this
      cases hk : El.lastI l 0 with
      | none =>
        rw [hk] at this
        simp only at this
        split at this
        · injection this with this; rw [this]
        · cases this
      | some k =>
        rw [hk] at this
        simp only at this
        split at this
        · injection this with this; rw [this]
        · split at this
          · injection this with this; rw [this]
          · cases this
    cases ht : El.take l [0] txtA with
    | error e => rfl
    | ok s =>
      simp only
      rw [hs s ht]
      exact all_run ts n s.1
theorem take_keep (l : List Nd) (c : Nat) (s : El.St) (h : El.take l [0] (fine c) = .ok s) : s.2 = [0] := by
  have txts : ∀ x : List UInt8, x ≠ [] → El.take l [0] (txt x) = .ok s → s.2 = [0] := by
    intro x hx hs
    have := take_txt l x hx
    rw [hs] at this
    cases hk : El.lastI l 0 with
    | none =>
      rw [hk] at this
      simp only at this
      split at this
      · injection this with this; rw [this]
      · cases this
    | some k =>
      rw [hk] at this
      simp only at this
      split at this
      · injection this with this; rw [this]
      · split at this
        · injection this with this; rw [this]
        · cases this
  unfold fine at h
  split at h
  · exact txts [97] (by simp) h
  split at h
  · exact txts [60, 98, 62] (by simp) h
  split at h
  · injection h with h; rw [← h]
  · unfold El.take at h
    rw [if_neg (by decide), if_neg (by decide), if_pos (show elD.f0 = 1 from rfl)] at h
    unfold El.begin_ at h
    rw [if_neg (by decide), if_neg (by simp), if_neg (by decide)] at h
    split at h
    · cases h
    · injection h with h; rw [← h]; rfl
theorem pieces_body : ∀ (m : Nat) (cs : List Nat), cs.length ≤ m → ∀ K, (body cs).length < K → ∃ ts, Tk.pieces K false (body cs) = some ts ∧ ∀ l, El.all l [0] ts = El.all l [0] (cs.map fine ++ [clR])
  | 0, cs, h, K, hK => by
    obtain rfl := List.eq_nil_of_length_eq_zero (Nat.le_zero.1 h)
    refine ⟨[clR], ?_, fun l => rfl⟩
    obtain ⟨K, rfl⟩ : ∃ K', K = K' + 2 := ⟨K - 2, by simp [body] at hK; omega⟩
    rw [show body [] = [60, 47, 114, 62] from rfl, Tk.pieces, if_neg (by simp), next_close, Option.bind_some]
    simp only
    rw [Tk.pieces, if_pos rfl]
    rfl
  | m + 1, cs, h, K, hK => by
    obtain ⟨n, r, x, h1, h2, h3⟩ := body_split cs
    cases n with
    | zero =>
      have h1 : cs = r := h1
      subst h1
      cases cs with
      | nil => exact pieces_body 0 [] (Nat.le_refl _) K hK
      | cons c q =>
        obtain ⟨K, rfl⟩ : ∃ K', K = K' + 1 := ⟨K - 1, by omega⟩
        have hc : c ≠ 0 := by
          rintro rfl
          rw [body, show piece 0 = [97] from rfl] at h3
          injection h3 with h3
          exact absurd h3 (by decide)
        have hlen : 0 < (piece c).length := by
          unfold piece
          split
          · simp
          split
          · simp [cdata]
          split
          · simp [comm]
          · simp [elem]
        have hl : (body (c :: q)).length = (piece c).length + (body q).length := by rw [body, List.length_append]
        obtain ⟨ts, hp, hall⟩ := pieces_body m q (by simpa using h) K (by omega)
        have hn : Tk.next false (body (c :: q)) = some (fine c, body q) := by
          rw [body]
          unfold piece fine
          rw [if_neg hc, if_neg hc]
          split
          · exact next_data _
          split
          · exact next_comm _
          · exact next_d false _
        refine ⟨fine c :: ts, ?_, fun l => ?_⟩
        · rw [Tk.pieces, if_neg (body_ne _), hn, Option.bind_some]
          simp only
          rw [hp]
          rfl
        · rw [List.map_cons, List.cons_append, El.all, El.all]
          cases ht : El.take l [0] (fine c) with
          | error e => rfl
          | ok s =>
            simp only
            rw [take_keep l c s ht]
            exact hall s.1
    | succ n =>
      obtain ⟨K, rfl⟩ : ∃ K', K = K' + 1 := ⟨K - 1, by omega⟩
      have hl : (body cs).length = (n + 1) + (body r).length := by rw [h2, List.length_append, List.length_replicate]
      have hcl : cs.length = (n + 1) + r.length := by rw [h1, List.length_append, List.length_replicate]
      obtain ⟨ts, hp, hall⟩ := pieces_body m r (by omega) K (by omega)
      have h97 : ∀ c ∈ (List.replicate (n + 1) 97 : List UInt8), c = 97 := fun c hc => List.eq_of_mem_replicate hc
      have hent : Tk.entities (List.replicate (n + 1) 97) = some (List.replicate (n + 1) 97) := by
        have := entities_plain (List.replicate (n + 1) 97) [] (fun c hc => by rw [h97 c hc]; decide)
        rw [List.append_nil] at this
        rw [this, show Tk.entities [] = some [] from rfl]
        simp
      have hn := text_piece (List.replicate (n + 1) 97) x (List.replicate (n + 1) 97) false (by simp) (fun c hc => by rw [h97 c hc]; decide) hent
      rw [← h3] at hn
      refine ⟨txt (List.replicate (n + 1) 97) :: ts, ?_, fun l => ?_⟩
      · rw [Tk.pieces, if_neg (body_ne _), h2, hn, Option.bind_some]
        simp only
        rw [hp]
        rfl
      · rw [all_run]
        have e : cs.map fine ++ [clR] = List.replicate (n + 1) txtA ++ (r.map fine ++ [clR]) := by rw [h1, List.map_append, List.map_replicate, List.append_assoc]; rfl
        rw [e]
        clear hn hent h97 hp e
        generalize n + 1 = d
        induction d generalizing l with
        | zero => exact hall l
        | succ d ih =>
          rw [List.replicate_succ, List.cons_append, List.cons_append, El.all, El.all]
          cases ht : El.take l [0] txtA with
          | error e => rfl
          | ok s =>
            simp only
            rw [take_keep l 0 s ht]
            exact ih s.1
end Go.Proofs.Ytkoogebfdinbnaa.Pure

namespace Go.Proofs.Ytkoogebfdinbnaa.Pure
open Go Go.RowKit Go.Proofs.Ytkoogebfdinbnaa.Q Go.Proofs.YtkoogebfdinbnaaW.PrintWords Go.Proofs.YtkoogebfdinbnaaW.PrintLast Go.Proofs.YtkoogebfdinbnaaW.Own Go.Proofs.YtkoogebfdinbnaaW.PrintMore
set_option linter.unusedSimpArgs false
set_option linter.unusedVariables false
def Ans {α : Type} (f : Nat → Option α) (v : α) : Prop := ∃ K, ∀ k, K ≤ k → f k = some v
theorem Ans.now {α : Type} {f : Nat → Option α} {v : α} (h : ∀ k, f k = some v) : Ans f v := ⟨0, fun k _ => h k⟩
theorem Ans.succ {α : Type} {f g : Nat → Option α} {v : α} (h : Ans g v) (e : ∀ k, f (k + 1) = g k) : Ans f v := by
  obtain ⟨K, h⟩ := h
  refine ⟨K + 1, fun k hk => ?_⟩
  obtain ⟨j, rfl⟩ : ∃ j, k = j + 1 := ⟨k - 1, by omega⟩
  rw [e, h j (by omega)]
theorem Ans.bind {α β : Type} {f : Nat → Option α} {g : Nat → α → Option β} {v : α} {u : β} (h : Ans f v) (h2 : Ans (fun k => g k v) u) : Ans (fun k => (f k).bind (g k)) u := by
  obtain ⟨K, h⟩ := h
  obtain ⟨K2, h2⟩ := h2
  exact ⟨max K K2, fun k hk => by show (f k).bind (g k) = _; rw [h k (by omega), Option.bind_some]; exact h2 k (by omega)⟩
theorem Ans.there {α : Type} {f : Nat → Option α} {v : α} (h : Ans f v) : ∃ k, f k = some v := ⟨h.choose, h.choose_spec _ (Nat.le_refl _)⟩
theorem awake_6 : newellaw03_awake.f 6 = some true := by kernel_rfl
theorem awake_ge (k : Nat) (h : 6 ≤ k) : newellaw03_awake.f k = some true := by
  obtain ⟨j, rfl⟩ := Nat.exists_eq_add_of_le h
  clear h
  induction j with
  | zero => exact awake_6
  | succ j ih => exact newellaw03_awake.mono _ _ ih
theorem awake_ans : Ans (fun k => newellaw03_awake.f k) true := ⟨6, awake_ge⟩
theorem w1 (i : Nat) (h : i < 1000000000) : wrap64 ((i : Int) + 1) = ((i + 1 : Nat) : Int) := by unfold wrap64; omega
theorem mod_nat (a : Int) (m : Nat) (hm : 0 < m) (hm2 : m < 1000) : ∃ n : Nat, n < m ∧ Int.tmod (IntKind.u64.wrap a) (m : Int) = (n : Int) := by
  have h0 : 0 ≤ IntKind.u64.wrap a := by rw [IntKind.wrap_u64]; omega
  have h1 := Int.tmod_nonneg (m : Int) h0
  have h2 := Int.tmod_lt_of_pos (IntKind.u64.wrap a) (show (0 : Int) < (m : Int) by omega)
  obtain ⟨n, hn⟩ := Int.eq_ofNat_of_zero_le h1
  exact ⟨n, by omega, hn⟩
end Go.Proofs.Ytkoogebfdinbnaa.Pure

namespace Go.Proofs.Ytkoogebfdinbnaa.Pure
open Go Go.RowKit Go.Proofs.Ytkoogebfdinbnaa.Q Go.Proofs.YtkoogebfdinbnaaW.PrintWords Go.Proofs.YtkoogebfdinbnaaW.PrintLast Go.Proofs.YtkoogebfdinbnaaW.Own Go.Proofs.YtkoogebfdinbnaaW.PrintMore
set_option linter.unusedSimpArgs false
set_option linter.unusedVariables false
theorem rd_nd (l : List Nd) (i : Nat) (h : i < l.length) : rd_T29 l (i : Int) = l[i] := by
  simp [rd_T29, List.getD, h]
end Go.Proofs.Ytkoogebfdinbnaa.Pure

/- The plain law of ElementJoins, about the functions that the walks compute. -/
namespace Go.Proofs.Ytkoogebfdinbnaa.Pure
open Go Go.RowKit Go.Proofs.Ytkoogebfdinbnaa.Q Go.Proofs.YtkoogebfdinbnaaW.PrintWords Go.Proofs.YtkoogebfdinbnaaW.PrintLast Go.Proofs.YtkoogebfdinbnaaW.Own Go.Proofs.YtkoogebfdinbnaaW.PrintMore
set_option linter.unusedSimpArgs false
set_option linter.unusedVariables false
def ndRoot : Nd := ⟨-1, Tk.bs [114], El.nul, []⟩
def nodeOf (w : ByteArray) : Nd := if w = El.nul then ⟨0, Tk.bs [100], El.nul, []⟩ else ⟨0, El.nul, w, []⟩
theorem nodeOf_f0 (w : ByteArray) : (nodeOf w).f0 = 0 := by unfold nodeOf; split <;> rfl
theorem nodeOf_f2 (w : ByteArray) : (nodeOf w).f2 = w := by
  unfold nodeOf
  split
  · rename_i h; exact h.symm
  · rfl
theorem d_ne : ¬ Tk.bs [100] = El.nul := bs_nul (by simp)
/-- What is wanted, with the text that is under way. -/
def fin (w : List ByteArray) (t : ByteArray) : List ByteArray := if t = El.nul then w else w ++ [t]
def stateOf (w : List ByteArray) (t : ByteArray) : List Nd := ndRoot :: (fin w t).map nodeOf
def J (w : List ByteArray) : Prop := w = [] ∨ w.getLast? = some El.nul
theorem nul_app (b : ByteArray) : El.nul ++ b = b := by
  apply ByteArray.ext
  simp [ByteArray.data_append, El.nul]
theorem app_ne (a : ByteArray) (x : List UInt8) (hx : x ≠ []) : a ++ Tk.bs x ≠ El.nul := by
  intro h
  have := congrArg ByteArray.size h
  rw [ByteArray.size_append, bs_size, show El.nul.size = 0 from rfl] at this
  exact hx (List.eq_nil_of_length_eq_zero (by omega))
theorem state_txt (w : List ByteArray) (t : ByteArray) (x : List UInt8) (hx : x ≠ []) (hJ : J w) (hl : w.length ≤ 1000) : El.take (stateOf w t) [0] (txt x) = .ok (stateOf w (t ++ Tk.bs x), [0]) := by
  rw [take_txt _ x hx]
  have hne := app_ne t x hx
  by_cases ht : t = El.nul
  · subst ht
    rw [nul_app]
    have e1 : stateOf w El.nul = ndRoot :: w.map nodeOf := by unfold stateOf fin; rw [if_pos rfl]
    have e2 : stateOf w (Tk.bs x) = (ndRoot :: w.map nodeOf) ++ [⟨0, El.nul, Tk.bs x, []⟩] := by
      unfold stateOf fin
      rw [if_neg (bs_nul hx), List.map_append, List.map_singleton]
      unfold nodeOf
      rw [if_neg (bs_nul hx)]; rfl
    have hlen : (ndRoot :: w.map nodeOf).length < 2000 := by rw [List.length_cons, List.length_map]; omega
    rw [e1, e2]
    rcases hJ with rfl | hJ
    · have : El.lastI [ndRoot] 0 = none := by decide
      rw [show ndRoot :: ([] : List ByteArray).map nodeOf = [ndRoot] from rfl, this]
      rfl
    · obtain ⟨v, rfl⟩ : ∃ v, w = v ++ [El.nul] := by
        have hw : w ≠ [] := fun h => by rw [h] at hJ; simp at hJ
        refine ⟨w.dropLast, ?_⟩
        have := List.dropLast_concat_getLast hw
        rw [List.getLast?_eq_some_getLast hw] at hJ
        injection hJ with hJ
        rw [hJ] at this
        exact this.symm
      have es : ndRoot :: (v ++ [El.nul]).map nodeOf = (ndRoot :: v.map nodeOf) ++ [nodeOf El.nul] := by rw [List.map_append]; rfl
      rw [es] at hlen ⊢
      rw [El.lastI_snoc, if_pos (nodeOf_f0 _)]
      simp only
      rw [getD_end, if_neg (show ¬ (nodeOf El.nul).f1 = El.nul from by unfold nodeOf; rw [if_pos rfl]; exact d_ne), if_pos hlen]
  · have e1 : stateOf w t = (ndRoot :: w.map nodeOf) ++ [nodeOf t] := by unfold stateOf fin; rw [if_neg ht, List.map_append]; rfl
    have e2 : stateOf w (t ++ Tk.bs x) = (ndRoot :: w.map nodeOf) ++ [nodeOf (t ++ Tk.bs x)] := by unfold stateOf fin; rw [if_neg hne, List.map_append]; rfl
    rw [e1, e2, El.lastI_snoc, if_pos (nodeOf_f0 _)]
    simp only
    rw [getD_end, if_pos (show (nodeOf t).f1 = El.nul from by unfold nodeOf; rw [if_neg ht]), set_end]
    congr 3
    unfold nodeOf
    rw [if_neg ht, if_neg hne]
theorem state_el (w : List ByteArray) (t : ByteArray) (hl : w.length ≤ 1000) : El.take (stateOf w t) [0] elD = .ok (stateOf (fin w t ++ [El.nul]) El.nul, [0]) := by
  unfold El.take
  rw [if_neg (by decide), if_neg (by decide), if_pos (show elD.f0 = 1 from rfl)]
  unfold El.begin_
  rw [if_neg (show ¬ elD.f1 = El.nul from d_ne), if_neg (by simp), if_neg (by decide)]
  have hlen : (stateOf w t).length < 2000 := by
    unfold stateOf fin
    split
    · rw [List.length_cons, List.length_map]; omega
    · rw [List.length_cons, List.length_map, List.length_append, List.length_singleton]; omega
  unfold El.put
  rw [if_pos hlen]
  have e : stateOf (fin w t ++ [El.nul]) El.nul = stateOf w t ++ [nodeOf El.nul] := by
    conv => lhs; unfold stateOf fin
    rw [if_pos rfl, List.map_append]
    rfl
  rw [e]
  unfold nodeOf
  rw [if_pos rfl]
  rfl
def run : List Nat → List ByteArray → ByteArray → List ByteArray × ByteArray
  | [], w, t => (w, t)
  | c :: r, w, t => if c = 0 then run r w (t ++ Tk.bs [97]) else if c = 1 then run r w (t ++ Tk.bs [60, 98, 62]) else if c = 2 then run r w t else run r (fin w t ++ [El.nul]) El.nul
theorem J_el (w : List ByteArray) (t : ByteArray) : J (fin w t ++ [El.nul]) := .inr (by simp)
theorem fin_len (w : List ByteArray) (t : ByteArray) : (fin w t).length ≤ w.length + 1 := by
  unfold fin
  split
  · omega
  · simp
theorem all_run_ : ∀ (cs : List Nat) (w : List ByteArray) (t : ByteArray), J w → w.length + 2 * cs.length ≤ 1000 → El.all (stateOf w t) [0] (cs.map fine ++ [clR]) = El.all (stateOf (run cs w t).1 (run cs w t).2) [0] [clR]
  | [], w, t, _, _ => rfl
  | c :: r, w, t, hJ, hl => by
    rw [List.length_cons] at hl
    have hf := fin_len w t
    rw [List.map_cons, List.cons_append, El.all]
    by_cases h0 : c = 0
    · have e : fine c = txt [97] := by unfold fine; rw [if_pos h0]; rfl
      rw [e, state_txt w t _ (by simp) hJ (by omega)]
      simp only
      rw [all_run_ r w _ hJ (by omega), run, if_pos h0]
    by_cases h1 : c = 1
    · have e : fine c = txt [60, 98, 62] := by unfold fine; rw [if_neg h0, if_pos h1]; rfl
      rw [e, state_txt w t _ (by simp) hJ (by omega)]
      simp only
      rw [all_run_ r w _ hJ (by omega), run, if_neg h0, if_pos h1]
    by_cases h2 : c = 2
    · have e : fine c = cmtC := by unfold fine; rw [if_neg h0, if_neg h1, if_pos h2]
      have et : El.take (stateOf w t) [0] cmtC = .ok (stateOf w t, [0]) := rfl
      rw [e, et]
      simp only
      rw [all_run_ r w _ hJ (by omega), run, if_neg h0, if_neg h1, if_pos h2]
    · have e : fine c = elD := by unfold fine; rw [if_neg h0, if_neg h1, if_neg h2]
      rw [e, state_el w t (by omega)]
      simp only
      rw [all_run_ r _ _ (J_el w t) (by rw [List.length_append, List.length_singleton]; omega), run, if_neg h0, if_neg h1, if_neg h2]
theorem all_end (w : List ByteArray) (t : ByteArray) : El.all (stateOf w t) [0] [clR] = .ok (stateOf w t, []) := by
  rw [El.all]
  have e : El.take (stateOf w t) [0] clR = .ok (stateOf w t, []) := by
    unfold El.take
    rw [if_neg (by decide), if_neg (by decide), if_neg (by decide), if_pos (show clR.f0 = 2 from rfl)]
    unfold El.end_
    rw [if_neg (by decide), if_pos (by rfl)]
    rfl
  rw [e]
  rfl
theorem next_r (b : List UInt8) : Tk.next true (60 :: (114 :: 62 :: b)) = some (Tk.tk 1 [114] [] [] false, b) := by
  have hb : ∀ q : List UInt8, (∃ c q', q = c :: q' ∧ c ≠ 114) → Tk.behind (60 :: q) (60 :: (114 :: 62 :: b)) = none := by
    rintro q ⟨c, q', rfl, hc⟩
    unfold Tk.behind
    rw [if_neg]
    intro h
    simp only [List.isPrefixOf, Bool.and_eq_true, beq_iff_eq] at h
    exact hc h.2.1
  unfold Tk.next
  rw [hb _ ⟨33, _, rfl, by decide⟩]
  dsimp only
  rw [hb _ ⟨33, _, rfl, by decide⟩]
  dsimp only
  rw [hb _ ⟨63, _, rfl, by decide⟩]
  dsimp only
  rw [hb _ ⟨47, _, rfl, by decide⟩]
  dsimp only
  have h1 : Tk.behind [60] (60 :: (114 :: 62 :: b)) = some (114 :: 62 :: b) := rfl
  rw [h1]
  dsimp only
  have h2 : Tk.head (114 :: 62 :: b) = [114] := by
    show (if Tk.letter 114 = true then 114 :: (62 :: b).takeWhile Tk.within else []) = [114]
    rw [if_pos (by decide), List.takeWhile_cons, if_neg (by decide)]
  unfold Tk.opening
  rw [h2, if_neg (by simp)]
  show Tk.attrs (_ + 1) [114] [] (62 :: b) = _
  rw [Tk.attrs]
  have h3 : Tk.skip (62 :: b) = 62 :: b := by unfold Tk.skip; rw [List.dropWhile_cons, if_neg (by decide)]
  have h4 : Tk.behind [62] (62 :: b) = some b := rfl
  (try dsimp only)
  rw [h3, h4]
theorem body_allowed (cs : List Nat) : ∀ c ∈ body cs, Tk.allowed c = true := by
  have hp : ∀ c, ∀ x ∈ piece c, Tk.allowed x = true := by
    intro c
    unfold piece
    split
    · exact List.all_eq_true.1 (by decide)
    split
    · exact List.all_eq_true.1 (by decide)
    split
    · exact List.all_eq_true.1 (by decide)
    · exact List.all_eq_true.1 (by decide)
  induction cs with
  | nil => exact List.all_eq_true.1 (show ([60, 47, 114, 62] : List UInt8).all Tk.allowed = true by decide)
  | cons c r ih =>
    intro x hx
    rcases List.mem_append.1 (show x ∈ piece c ++ body r from hx) with h | h
    · exact hp c x h
    · exact ih x h
theorem piece_len (c : Nat) : (piece c).length ≤ 15 := by
  unfold piece
  split
  · decide
  split
  · decide
  split
  · decide
  · decide
theorem body_len (cs : List Nat) : (body cs).length ≤ 15 * cs.length + 4 := by
  induction cs with
  | nil => decide
  | cons c r ih =>
    have := piece_len c
    rw [body, List.length_append, List.length_cons]
    omega
theorem parse_body (cs : List Nat) (hc : cs.length ≤ 40) : parseL ([60, 114, 62] ++ body cs) = (stateOf (run cs [] El.nul).1 (run cs [] El.nul).2, 0) := by
  have hbl := body_len cs
  obtain ⟨ts, hp, hall⟩ := pieces_body cs.length cs (Nat.le_refl _) ((([60, 114, 62] : List UInt8) ++ body cs).length) (by rw [List.length_append]; simp)
  have hpc : Tk.pieces ((([60, 114, 62] : List UInt8) ++ body cs).length + 1) true ([60, 114, 62] ++ body cs) = some (Tk.tk 1 [114] [] [] false :: ts) := by
    have hn := next_r (body cs)
    rw [Tk.pieces, if_neg (by simp), show ([60, 114, 62] ++ body cs) = 60 :: (114 :: 62 :: body cs) from rfl, hn, Option.bind_some]
    simp only
    have hp' : Tk.pieces (60 :: 114 :: 62 :: body cs).length false (body cs) = some ts := hp
    rw [hp']
    rfl
  have hs : Tk.split ([60, 114, 62] ++ body cs) = (Tk.tk 1 [114] [] [] false :: ts, 0) := by
    refine split_pieces _ _ (by rw [List.length_append]; simp; omega) (fun c hc => ?_) hpc
    rcases List.mem_append.1 hc with h | h
    · exact List.all_eq_true.1 (show ([60, 114, 62] : List UInt8).all Tk.allowed = true by decide) c h
    · exact body_allowed cs c h
  unfold parseL
  rw [hs]
  simp only [if_true]
  unfold El.tree
  rw [El.all, show El.take [] [] (Tk.tk 1 [114] [] [] false) = .ok ([ndRoot], [0]) from rfl]
  simp only
  rw [hall [ndRoot], show [ndRoot] = stateOf [] El.nul from rfl, all_run_ cs [] El.nul (.inl rfl) (by simp; omega), all_end]
  simp only
  rw [if_neg (by simp [stateOf])]
theorem rd_text (l : List ByteArray) (i : Nat) (h : i < l.length) : rdOf ByteArray.empty l (i : Int) = l[i] := by
  simp [rdOf, List.getD, h]
theorem check (w : List ByteArray) (hw : w.length ≤ 1000) : ∀ (d i : Nat), i + d = w.length → Ans (fun k => newellaw03_ElementJoins.l1 k w (ndRoot :: w.map nodeOf) (i : Int)) true := by
  intro d
  induction d with
  | zero =>
    intro i h
    refine Ans.succ (g := fun _ => some true) (Ans.now fun _ => rfl) fun k => ?_
    rw [newellaw03_ElementJoins.l1, if_neg (by omega)]
  | succ d ih =>
    intro i h
    have hi : i < w.length := by omega
    have er : rd_T29 (ndRoot :: w.map nodeOf) ((i + 1 : Nat) : Int) = nodeOf w[i] := by
      rw [rd_nd _ (i + 1) (by rw [List.length_cons, List.length_map]; omega), List.getElem_cons_succ, List.getElem_map]
    refine Ans.succ (ih (i + 1) (by omega)) fun k => ?_
    rw [newellaw03_ElementJoins.l1, if_pos (by omega), w1 i (by omega), if_pos (by omega), if_pos (by rw [List.length_cons, List.length_map]; omega), if_pos (by omega), er, rd_text w i hi, nodeOf_f2, if_pos rfl, if_pos (nodeOf_f0 _)]
    have e : (((nodeOf w[i]).f1.toList == ([100] : List UInt8)) != (w[i].toList == ([] : List UInt8))) = false := by
      have hn := size_nul w[i]
      have e1 : (w[i].toList == ([] : List UInt8)) = w[i].toList.isEmpty := by cases w[i].toList <;> rfl
      rw [e1, hn]
      unfold nodeOf
      by_cases hz : w[i] = El.nul
      · rw [if_pos hz, decide_eq_true hz, show (Tk.bs [100]).toList = [100] from by rw [toList_data]; rfl]
        rfl
      · rw [if_neg hz, decide_eq_false hz, show El.nul.toList = ([] : List UInt8) from by rw [toList_data]; rfl]
        rfl
    rw [e, if_neg (by decide)]
def cls (x : Int) : Nat := (Int.tmod (IntKind.u64.wrap x) 4).toNat
theorem cls_told (x : Int) : Int.tmod (IntKind.u64.wrap x) 4 = (cls x : Int) ∧ cls x < 4 := by
  obtain ⟨n, hn, e⟩ := mod_nat x 4 (by decide) (by decide)
  have e' : Int.tmod (IntKind.u64.wrap x) 4 = (n : Int) := e
  unfold cls
  rw [e']
  exact ⟨rfl, by simpa using hn⟩
theorem nul_is (b : ByteArray) : (b.toList = ([] : List UInt8)) = (b = El.nul) := by
  have h := size_nul b
  apply propext
  constructor
  · intro e
    rw [e] at h
    exact of_decide_eq_true h.symm
  · intro e
    rw [decide_eq_true e] at h
    exact List.isEmpty_iff.1 h
theorem rd_at_ (ks : List Int) (i : Nat) (h : i < ks.length) : rd ks (i : Int) = ks[i] := by
  simp [rd, List.getD, h]
def flat : List Nat → List UInt8
  | [] => []
  | c :: r => piece c ++ flat r
theorem flat_body (cs : List Nat) : flat cs ++ [60, 47, 114, 62] = body cs := by
  induction cs with
  | nil => rfl
  | cons c r ih => rw [flat, body, List.append_assoc, ih]
theorem stop_part (l : List Int) (s : ByteArray) (w : List ByteArray) (t : ByteArray) (i : Int) (hw : w.length ≤ 1000) (h : Ans (fun k => newellaw03_ElementJoins.j2 k s (fin w t)) true) : Ans (fun k => newellaw03_ElementJoins.j1 k l s w t i false) true := by
  refine Ans.succ h fun k => ?_
  rw [newellaw03_ElementJoins.j1, if_neg (by decide)]
  unfold fin
  by_cases ht : t = El.nul
  · rw [if_pos (by rw [nul_is]; exact ht), if_pos ht]
  · rw [if_neg (by rw [nul_is]; exact ht), if_neg ht, if_pos (by omega)]
theorem loop_part (l : List Int) : ∀ (d i : Nat) (s : ByteArray) (w : List ByteArray) (t : ByteArray), i + d = min l.length 40 → s.size ≤ 3 + 15 * i → t.size ≤ 3 * i → w.length ≤ 2 * i →
    Ans (fun k => newellaw03_ElementJoins.j2 k (s ++ Tk.bs (flat (((l.drop i).take d).map cls))) (fin (run (((l.drop i).take d).map cls) w t).1 (run (((l.drop i).take d).map cls) w t).2)) true →
    Ans (fun k => newellaw03_ElementJoins.l0 k l s w t (i : Int)) true := by
  intro d
  induction d with
  | zero =>
    intro i s w t h hs ht hw ha
    have e : s ++ Tk.bs [] = s := by apply ByteArray.ext; simp [ByteArray.data_append, Tk.bs]
    simp only [List.take_zero, List.map_nil, flat, run, e] at ha
    have hj := stop_part l s w t (i : Int) (by omega) ha
    refine Ans.succ hj fun k => ?_
    rw [newellaw03_ElementJoins.l0]
    by_cases hi : (i : Int) < (l.length : Int)
    · rw [if_pos hi, decide_eq_false (by omega)]
    · rw [if_neg hi]
  | succ d ih =>
    intro i s w t h hs ht hw ha
    have hi : i < l.length := by omega
    have h40 : i < 40 := by omega
    have hd : (l.drop i).take (d + 1) = l[i] :: (l.drop (i + 1)).take d := by rw [List.drop_eq_getElem_cons hi, List.take_succ_cons]
    rw [hd, List.map_cons] at ha
    obtain ⟨hc, hc4⟩ := cls_told l[i]
    have er := rd_at_ l i hi
    have hf := fin_len w t
    obtain ⟨c, hce⟩ : ∃ c, c = cls l[i] := ⟨_, rfl⟩
    rw [← hce] at hc hc4 ha
    have step : ∀ k, newellaw03_ElementJoins.l0 (k + 1) l s w t (i : Int) = newellaw03_ElementJoins.j1 k l s w t (i : Int) true := fun k => by
      rw [newellaw03_ElementJoins.l0, if_pos (by omega), decide_eq_true (by omega)]
    have asc : ∀ (x : List UInt8) (y : List UInt8), s ++ Tk.bs (x ++ y) = (s ++ Tk.bs x) ++ Tk.bs y := fun x y => by rw [bs_app, ← ba_assoc]
    have e97 : (⟨#[97]⟩ : ByteArray) = Tk.bs [97] := rfl
    refine Ans.succ ?_ step
    rw [flat, asc] at ha
    have z97 : (Tk.bs [97]).size = 1 := rfl
    have zb : (Tk.bs [60, 98, 62]).size = 3 := rfl
    by_cases h0 : c = 0
    · rw [run, if_pos h0, show piece c = [97] from by rw [h0]; rfl] at ha
      refine Ans.succ (ih (i + 1) (s ++ Tk.bs [97]) w (t ++ Tk.bs [97]) (by omega) (by rw [ByteArray.size_append]; omega) (by rw [ByteArray.size_append]; omega) (by omega) ha) fun k => ?_
      rw [newellaw03_ElementJoins.j1, if_pos rfl, if_pos (by omega), if_pos (by omega), er, if_pos (by rw [hc, h0]; rfl), if_pos (by omega), if_pos (by omega), w1 i (by omega)]
      rfl
    by_cases h1 : c = 1
    · have zc : (Tk.bs cdata).size = 15 := rfl
      rw [run, if_neg h0, if_pos h1, show piece c = cdata from by rw [h1]; rfl] at ha
      refine Ans.succ (ih (i + 1) (s ++ Tk.bs cdata) w (t ++ Tk.bs [60, 98, 62]) (by omega) (by rw [ByteArray.size_append]; omega) (by rw [ByteArray.size_append]; omega) (by omega) ha) fun k => ?_
      rw [newellaw03_ElementJoins.j1, if_pos rfl, if_pos (by omega), if_pos (by omega), er, if_neg (by rw [hc, h1]; decide), if_pos (by rw [hc, h1]; rfl), if_pos (by omega), if_pos (by omega), w1 i (by omega)]
      rfl
    by_cases h2 : c = 2
    · have zc : (Tk.bs comm).size = 10 := rfl
      rw [run, if_neg h0, if_neg h1, if_pos h2, show piece c = comm from by rw [h2]; rfl] at ha
      refine Ans.succ (ih (i + 1) (s ++ Tk.bs comm) w t (by omega) (by rw [ByteArray.size_append]; omega) (by omega) (by omega) ha) fun k => ?_
      rw [newellaw03_ElementJoins.j1, if_pos rfl, if_pos (by omega), if_pos (by omega), er, if_neg (by rw [hc, h2]; decide), if_neg (by rw [hc, h2]; decide), if_pos (by rw [hc, h2]; rfl), if_pos (by omega), w1 i (by omega)]
      rfl
    · have h3 : c = 3 := by omega
      have zc : (Tk.bs elem).size = 4 := rfl
      rw [run, if_neg h0, if_neg h1, if_neg h2, show piece c = elem from by rw [h3]; rfl] at ha
      refine Ans.succ (ih (i + 1) (s ++ Tk.bs elem) (fin w t ++ [El.nul]) El.nul (by omega) (by rw [ByteArray.size_append]; omega) (by show (0 : Nat) ≤ _; omega) (by rw [List.length_append, List.length_singleton]; omega) ha) fun k => ?_
      rw [newellaw03_ElementJoins.j1, if_pos rfl, if_pos (by omega), if_pos (by omega), er, if_neg (by rw [hc, h3]; decide), if_neg (by rw [hc, h3]; decide), if_neg (by rw [hc, h3]; decide), if_pos (by omega), w1 i (by omega)]
      unfold fin
      by_cases hz : t = El.nul
      · rw [if_pos (by rw [nul_is]; exact hz), if_pos hz, if_pos (by omega)]
        rfl
      · rw [if_neg (by rw [nul_is]; exact hz), if_neg hz, if_pos (by omega), Option.bind_some, if_pos (by rw [List.length_append, List.length_singleton]; omega)]
        rfl
theorem run_len : ∀ (cs : List Nat) (w : List ByteArray) (t : ByteArray), (run cs w t).1.length ≤ w.length + 2 * cs.length
  | [], w, t => by simp [run]
  | c :: r, w, t => by
    have hf := fin_len w t
    rw [run, List.length_cons]
    split
    · have := run_len r w (t ++ Tk.bs [97]); omega
    split
    · have := run_len r w (t ++ Tk.bs [60, 98, 62]); omega
    split
    · have := run_len r w t; omega
    · have := run_len r (fin w t ++ [El.nul]) El.nul
      rw [List.length_append, List.length_singleton] at this
      omega
theorem ElementJoins : newellaw03_ElementJoins.Pure := by
  intro l0 _
  apply Ans.there
  unfold newellaw03_ElementJoins.f
  refine loop_part l0 (min l0.length 40) 0 (⟨#[60, 114, 62]⟩ : ByteArray) [] (⟨#[]⟩ : ByteArray) (by omega) (by decide) (by decide) (by simp) ?_
  rw [List.drop_zero]
  obtain ⟨cs, hcs⟩ : ∃ cs, cs = (l0.take (min l0.length 40)).map cls := ⟨_, rfl⟩
  rw [← hcs]
  have hcl : cs.length ≤ 40 := by rw [hcs, List.length_map, List.length_take]; omega
  have hp := parse_body cs hcl
  have hrl := run_len cs [] El.nul
  have hfl := fin_len (run cs [] El.nul).1 (run cs [] El.nul).2
  have hbl := body_len cs
  rw [List.length_nil] at hrl
  have hfin := check (fin (run cs [] El.nul).1 (run cs [] El.nul).2) (by omega) _ 0 (Nat.zero_add _)
  have es : ((⟨#[60, 114, 62]⟩ : ByteArray) ++ Tk.bs (flat cs)) ++ (⟨#[60, 47, 114, 62]⟩ : ByteArray) = Tk.bs ([60, 114, 62] ++ body cs) := by
    rw [← flat_body cs]
    apply ByteArray.ext
    simp [ByteArray.data_append, Tk.bs]
  have esz := congrArg ByteArray.size es
  rw [ByteArray.size_append, bs_size, List.length_append] at esz
  have e4 : (⟨#[60, 47, 114, 62]⟩ : ByteArray).size = 4 := rfl
  have e3 : ([60, 114, 62] : List UInt8).length = 3 := rfl
  have hparse : element_Parse.f (Tk.bs ([60, 114, 62] ++ body cs)) = some (stateOf (run cs [] El.nul).1 (run cs [] El.nul).2, 0) := by
    rw [parse_told _ (by rw [bs_size, List.length_append]; omega)]
    exact congrArg some hp
  have hlen : ((stateOf (run cs [] El.nul).1 (run cs [] El.nul).2).length : Int) = ((fin (run cs [] El.nul).1 (run cs [] El.nul).2).length : Int) + 1 := by
    unfold stateOf
    rw [List.length_cons, List.length_map]
    rfl
  have hw1 := w1 (fin (run cs [] El.nul).1 (run cs [] El.nul).2).length (by omega)
  refine Ans.succ (g := fun k => (newellaw03_awake.f k).bind fun t236 => (if t236 = true then newellaw03_ElementJoins.j3 k (fin (run cs [] El.nul).1 (run cs [] El.nul).2) (stateOf (run cs [] El.nul).1 (run cs [] El.nul).2) false else newellaw03_ElementJoins.j3 k (fin (run cs [] El.nul).1 (run cs [] El.nul).2) (stateOf (run cs [] El.nul).1 (run cs [] El.nul).2) true)) (Ans.bind awake_ans ?_) fun k => ?_
  · simp only [if_true]
    refine Ans.succ hfin fun k => ?_
    rw [newellaw03_ElementJoins.j3, if_neg (by decide)]
    rfl
  · rw [newellaw03_ElementJoins.j2, if_pos (by omega)]
    show ((element_Parse.f (((⟨#[60, 114, 62]⟩ : ByteArray) ++ Tk.bs (flat cs)) ++ (⟨#[60, 47, 114, 62]⟩ : ByteArray))).bind _) = _
    rw [es, hparse, Option.bind_some]
    simp only [if_true]
    rw [show (⟨#[]⟩ : ByteArray) = El.nul from rfl, hw1, hlen]
    have e : (((fin (run cs [] El.nul).1 (run cs [] El.nul).2).length : Int) + 1 != (((fin (run cs [] El.nul).1 (run cs [] El.nul).2).length + 1 : Nat) : Int)) = false := by
      rw [bne_eq_false_iff_eq]; omega
    rw [e]
end Go.Proofs.Ytkoogebfdinbnaa.Pure
