/- Texts put together: what functions of the program compute, and plain words about them. -/
import Derived.Test.YtkoogebfdinbnaaLawElementDeepM1
import Derived.Test.YtkoogebfdinbnaaLawElementDeepM3
import Derived.Test.YtkoogebfdinbnaaProg
import Derived.Test.YtkoogebfdinbnaaRows
import Derived.ChangeArms
import Derived.Deep.DeepHandedRow
import Derived.Shelf.Vars
import Derived.Below
import Derived.Deep.Draws
import Derived.Deep.AppendLies
import Derived.Maps.AppendAt
import Derived.OwnWalk
import Derived.Laws.BytesArg
import Derived.Laws.MakeOwn
import Derived.Laws.OwnMore
import Derived.Deep.OwnRows
import Derived.Tactics
import Derived.Lib.ConvBytes
import Derived.Laws.Slices
import Derived.WalkKit
import Derived.KernelRfl
import Derived.RowKit3
import Derived.Deep.LoopGhost
import Derived.Deep.QuietTactic
import Derived.BigQuiet
import Derived.WideLaws
import Derived.Deep.DeepCutAuto
import Derived.Deep.CutBlock
import Derived.Deep.RegionHeld3
import Derived.Laws.Rows
import Derived.Lib.AppendStr
import Derived.ArgAppend
import Derived.Laws.IdiomCopy
import Derived.OrdersHeld
import Derived.Laws.BitsLemmas
import Derived.RowKit

-- Printed by this session's wip/np.py over the kit's print program. Not trusted: Lean checks it.
namespace Go.Proofs.Ytkoogebfdinbnaa.Q
open Go.RowKit Go.Proofs.YtkoogebfdinbnaaW.PrintWords Go.Proofs.YtkoogebfdinbnaaW.PrintLast Go.Proofs.YtkoogebfdinbnaaW.Own Go.Proofs.YtkoogebfdinbnaaW.PrintMore
attribute [local go_sem] max2_int min2_int max_two min_two max_three min_three max_four min_four
set_option linter.unusedVariables false
set_option linter.unusedSimpArgs false

/-! ### newellaw03_ElementDeep: function 4 -/
def newellaw03_ElementDeep.l0 : Nat → Int → Int → ByteArray → ByteArray → Int → Option (Bool)
 | 0, _, _, _, _, _ => none
 | k + 1, x0, x1, x5, x6, x7 => if x7 < x0 then (if x5.size + 3 ≤ 9223372036854775807 then (if x6.size + 4 ≤ 9223372036854775807 then (newellaw03_ElementDeep.l0 k x0 x1 (x5 ++ (⟨#[60, 97, 62]⟩ : ByteArray)) (x6 ++ (⟨#[60, 47, 97, 62]⟩ : ByteArray)) (wrap64 (x7 + 1))) else (none)) else (none)) else (if x5.size + x6.size ≤ 9223372036854775807 then ((element_Parse.f (x5 ++ x6)).bind fun bt178 => (if x0 > 20 then ((newellaw03_awake.f k).bind fun t182 => (if t182 = true then (if bt178.2 = 7 then (some ((bt178.1.length : Int) == 0)) else (some false)) else (some false))) else (if (x5 ++ x6).size + 4 ≤ 9223372036854775807 then (if (Int.tmod (IntKind.u64.wrap (x1)) 4) = 0 then (if 0 ≤ (wrap64 ((x6.size : Int) - 4)) then (if (wrap64 ((x6.size : Int) - 4)) ≤ (x6.size : Int) then (if x5.size + (x6.extract 0 ((wrap64 ((x6.size : Int) - 4)) : Int).toNat).size ≤ 9223372036854775807 then ((element_Parse.f (x5 ++ (x6.extract 0 ((wrap64 ((x6.size : Int) - 4)) : Int).toNat))).bind fun bt183 => (if 1 + x5.size ≤ 9223372036854775807 then (if ((⟨#[32]⟩ : ByteArray) ++ x5).size + 12 ≤ 9223372036854775807 then (if (((⟨#[32]⟩ : ByteArray) ++ x5) ++ (⟨#[120, 60, 33, 45, 45, 32, 121, 32, 45, 45, 62, 122]⟩ : ByteArray)).size + x6.size ≤ 9223372036854775807 then (if ((((⟨#[32]⟩ : ByteArray) ++ x5) ++ (⟨#[120, 60, 33, 45, 45, 32, 121, 32, 45, 45, 62, 122]⟩ : ByteArray)) ++ x6).size + 1 ≤ 9223372036854775807 then ((element_Parse.f (((((⟨#[32]⟩ : ByteArray) ++ x5) ++ (⟨#[120, 60, 33, 45, 45, 32, 121, 32, 45, 45, 62, 122]⟩ : ByteArray)) ++ x6) ++ (⟨#[10]⟩ : ByteArray))).bind fun bt187 => ((newellaw03_awake.f k).bind fun t191 => (if t191 = true then (if bt178.2 = 0 then (if (bt178.1.length : Int) = x0 then (if bt183.2 = 6 then (some (bt187.2 == 0)) else (some false)) else (some false)) else (some false)) else (some false)))) else (none)) else (none)) else (none)) else (none))) else (none)) else (none)) else (none)) else (if (Int.tmod (IntKind.u64.wrap (x1)) 4) = 1 then ((element_Parse.f ((x5 ++ x6) ++ (⟨#[60, 98, 47, 62]⟩ : ByteArray))).bind fun bt192 => (if 1 + x5.size ≤ 9223372036854775807 then (if ((⟨#[32]⟩ : ByteArray) ++ x5).size + 12 ≤ 9223372036854775807 then (if (((⟨#[32]⟩ : ByteArray) ++ x5) ++ (⟨#[120, 60, 33, 45, 45, 32, 121, 32, 45, 45, 62, 122]⟩ : ByteArray)).size + x6.size ≤ 9223372036854775807 then (if ((((⟨#[32]⟩ : ByteArray) ++ x5) ++ (⟨#[120, 60, 33, 45, 45, 32, 121, 32, 45, 45, 62, 122]⟩ : ByteArray)) ++ x6).size + 1 ≤ 9223372036854775807 then ((element_Parse.f (((((⟨#[32]⟩ : ByteArray) ++ x5) ++ (⟨#[120, 60, 33, 45, 45, 32, 121, 32, 45, 45, 62, 122]⟩ : ByteArray)) ++ x6) ++ (⟨#[10]⟩ : ByteArray))).bind fun bt196 => ((newellaw03_awake.f k).bind fun t200 => (if t200 = true then (if bt178.2 = 0 then (if (bt178.1.length : Int) = x0 then (if bt192.2 = 6 then (some (bt196.2 == 0)) else (some false)) else (some false)) else (some false)) else (some false)))) else (none)) else (none)) else (none)) else (none))) else (if (Int.tmod (IntKind.u64.wrap (x1)) 4) = 2 then (if 0 ≤ (wrap64 ((x6.size : Int) - 4)) then (if (wrap64 ((x6.size : Int) - 4)) ≤ (x6.size : Int) then (if x5.size + (x6.extract 0 ((wrap64 ((x6.size : Int) - 4)) : Int).toNat).size ≤ 9223372036854775807 then (if (x5 ++ (x6.extract 0 ((wrap64 ((x6.size : Int) - 4)) : Int).toNat)).size + 4 ≤ 9223372036854775807 then ((element_Parse.f ((x5 ++ (x6.extract 0 ((wrap64 ((x6.size : Int) - 4)) : Int).toNat)) ++ (⟨#[60, 47, 98, 62]⟩ : ByteArray))).bind fun bt201 => (if 1 + x5.size ≤ 9223372036854775807 then (if ((⟨#[32]⟩ : ByteArray) ++ x5).size + 12 ≤ 9223372036854775807 then (if (((⟨#[32]⟩ : ByteArray) ++ x5) ++ (⟨#[120, 60, 33, 45, 45, 32, 121, 32, 45, 45, 62, 122]⟩ : ByteArray)).size + x6.size ≤ 9223372036854775807 then (if ((((⟨#[32]⟩ : ByteArray) ++ x5) ++ (⟨#[120, 60, 33, 45, 45, 32, 121, 32, 45, 45, 62, 122]⟩ : ByteArray)) ++ x6).size + 1 ≤ 9223372036854775807 then ((element_Parse.f (((((⟨#[32]⟩ : ByteArray) ++ x5) ++ (⟨#[120, 60, 33, 45, 45, 32, 121, 32, 45, 45, 62, 122]⟩ : ByteArray)) ++ x6) ++ (⟨#[10]⟩ : ByteArray))).bind fun bt205 => ((newellaw03_awake.f k).bind fun t209 => (if t209 = true then (if bt178.2 = 0 then (if (bt178.1.length : Int) = x0 then (if bt201.2 = 6 then (some (bt205.2 == 0)) else (some false)) else (some false)) else (some false)) else (some false)))) else (none)) else (none)) else (none)) else (none))) else (none)) else (none)) else (none)) else (none)) else ((element_Parse.f ((x5 ++ x6) ++ (⟨#[60, 47, 97, 62]⟩ : ByteArray))).bind fun bt210 => (if 1 + x5.size ≤ 9223372036854775807 then (if ((⟨#[32]⟩ : ByteArray) ++ x5).size + 12 ≤ 9223372036854775807 then (if (((⟨#[32]⟩ : ByteArray) ++ x5) ++ (⟨#[120, 60, 33, 45, 45, 32, 121, 32, 45, 45, 62, 122]⟩ : ByteArray)).size + x6.size ≤ 9223372036854775807 then (if ((((⟨#[32]⟩ : ByteArray) ++ x5) ++ (⟨#[120, 60, 33, 45, 45, 32, 121, 32, 45, 45, 62, 122]⟩ : ByteArray)) ++ x6).size + 1 ≤ 9223372036854775807 then ((element_Parse.f (((((⟨#[32]⟩ : ByteArray) ++ x5) ++ (⟨#[120, 60, 33, 45, 45, 32, 121, 32, 45, 45, 62, 122]⟩ : ByteArray)) ++ x6) ++ (⟨#[10]⟩ : ByteArray))).bind fun bt214 => ((newellaw03_awake.f k).bind fun t218 => (if t218 = true then (if bt178.2 = 0 then (if (bt178.1.length : Int) = x0 then (if bt210.2 = 6 then (some (bt214.2 == 0)) else (some false)) else (some false)) else (some false)) else (some false)))) else (none)) else (none)) else (none)) else (none)))))) else (none)))) else (none))
def newellaw03_ElementDeep.f (k : Nat) (a0 : Int) (a1 : Int) : Option (Bool) := newellaw03_ElementDeep.l0 k (wrap64 (1 + (wrap64 (Int.tmod (IntKind.u64.wrap (a0)) 25)))) a1 (⟨#[]⟩ : ByteArray) (⟨#[]⟩ : ByteArray) 0
theorem newellaw03_ElementDeep.mono_l : ∀ k, (∀ y0 y1 y2 y3 y4, LeO (newellaw03_ElementDeep.l0 k y0 y1 y2 y3 y4) (newellaw03_ElementDeep.l0 (k + 1) y0 y1 y2 y3 y4))
 | 0 => fun _ _ _ _ _ r h => by simp [newellaw03_ElementDeep.l0] at h
 | k + 1 => by
  have ih0 := newellaw03_ElementDeep.mono_l k
  ·intro y0 y1 y2 y3 y4
   unfold newellaw03_ElementDeep.l0
   repeat' first
   | (with_reducible exact ih0 _ _ _ _ _)
   | (with_reducible exact newellaw03_awake.mono _)
   | (with_reducible exact LeO.refl _)
   | (with_reducible exact LeO.none _)
   | (with_reducible refine LeO.ite ?_ ?_)
   | (with_reducible refine LeO.bind ?_ (fun _ => ?_))
   | exact ih0 _ _ _ _ _
   | exact newellaw03_awake.mono _
   | exact LeO.none _
   | refine LeO.ite ?_ ?_
   | refine LeO.bind ?_ (fun _ => ?_)
theorem newellaw03_ElementDeep.mono : ∀ a0 a1 k, LeO (newellaw03_ElementDeep.f k a0 a1) (newellaw03_ElementDeep.f (k + 1) a0 a1) := by
 intro a0 a1 k
 have ih0 := newellaw03_ElementDeep.mono_l k
 unfold newellaw03_ElementDeep.f
 repeat' first
  | (with_reducible exact ih0 _ _ _ _ _)
  | (with_reducible exact newellaw03_awake.mono _)
  | (with_reducible exact LeO.refl _)
  | (with_reducible exact LeO.none _)
  | (with_reducible refine LeO.ite ?_ ?_)
  | (with_reducible refine LeO.bind ?_ (fun _ => ?_))
  | exact ih0 _ _ _ _ _
  | exact newellaw03_awake.mono _
  | exact LeO.none _
  | refine LeO.ite ?_ ?_
  | refine LeO.bind ?_ (fun _ => ?_)
set_option maxHeartbeats 8000000 in
set_option maxRecDepth 100000 in
theorem newellaw03_ElementDeep.calls (k : Nat) (a0 : Int) (a1 : Int) (r : Bool) (w : World) (hG : Glob w) (h : newellaw03_ElementDeep.f k a0 a1 = some r) (hr_ : r = true) :
 Calls Try.prog 4 #[.int .i64 a0, .int .i64 a1] w fun e w' => e = .returned (.bool r) ∧ Below w.heap.size w w' := by
 have HG := Aside0.mk hG
 clear hG
 have HB := Aside0.mk (Below.refl w.heap.size w)
 have H : (newellaw03_ElementDeep.l0 k (wrap64 (1 + (wrap64 (Int.tmod (IntKind.u64.wrap (a0)) 25)))) a1 (⟨#[]⟩ : ByteArray) (⟨#[]⟩ : ByteArray) 0) = some r := h
 clear h
 have H' := Aside0.mk H
 clear H
 go_enter Try.func4, Try.ntmps4
 go_wp2
 go_loopg [5, 6, 7] k (fun kq v5 v6 v7 w' => ∃ (x5_1 : ByteArray) (x6_1 : ByteArray) (x7_1 : Int), v5 = .string x5_1 ∧ v6 = .string x6_1 ∧ v7 = .int .i64 x7_1 ∧ Aside0 (newellaw03_ElementDeep.l0 kq (wrap64 (1 + (wrap64 (Int.tmod (IntKind.u64.wrap (a0)) 25)))) a1 x5_1 x6_1 x7_1 = some r) ∧ Aside0 (kq ≤ k) ∧ Aside0 (Below w.heap.size w w'))
 case atStart => exact ⟨((⟨#[]⟩ : ByteArray)), ((⟨#[]⟩ : ByteArray)), (0), (by first | rfl | (simp; done) | (simp [*]; done) | (simp; exact isEmpty_bne _)), (by first | rfl | (simp; done) | (simp [*]; done) | (simp; exact isEmpty_bne _)), (by first | rfl | (simp; done) | (simp [*]; done) | (simp; exact isEmpty_bne _)), H', ⟨Nat.le_refl _⟩, ⟨by repeat (first | (with_reducible first | exact HB.out | apply below_alloc | apply pw_below_drewN | apply below_drew1) | exact HB.out)⟩⟩
 case round =>
  clear H'
  try clear p2
  obtain ⟨x5_1, x6_1, x7_1, rfl, rfl, rfl, HA, HK1, HB⟩ := hrel
  cases gk with
  | zero => exact absurd HA.out (by simp [newellaw03_ElementDeep.l0])
  | succ k1 =>
   have H := HA.out
   clear HA
   simp only [newellaw03_ElementDeep.l0] at H
   by_cases c3 : x7_1 < (wrap64 (1 + (wrap64 (Int.tmod (IntKind.u64.wrap (a0)) 25))))
   ·rw [if_pos c3] at H
    have c3b0 : decide (x7_1 < (wrap64 (1 + (wrap64 (Int.tmod (IntKind.u64.wrap (a0)) 25))))) = true := decide_eq_true c3
    clear c3
    by_cases c4 : x5_1.size + 3 ≤ 9223372036854775807
    ·rw [if_pos c4] at H
     have c4b0 := eq_true c4
     have c4b1 : decide (x5_1.size + 3 ≤ 9223372036854775807) = true := decide_eq_true c4
     try have c4b2 : (9223372036854775807 < x5_1.size + 3) = False := eq_false (Nat.not_lt.2 c4)
     by_cases c5 : x6_1.size + 4 ≤ 9223372036854775807
     ·rw [if_pos c5] at H
      have c5b0 := eq_true c5
      have c5b1 : decide (x6_1.size + 4 ≤ 9223372036854775807) = true := decide_eq_true c5
      try have c5b2 : (9223372036854775807 < x6_1.size + 4) = False := eq_false (Nat.not_lt.2 c5)
      have H' := Aside0.mk H
      clear H
      go_wp2
      go_roundg k1
      case measure => have := HK1.out; omega
      case rel => exact ⟨(x5_1 ++ (⟨#[60, 97, 62]⟩ : ByteArray)), (x6_1 ++ (⟨#[60, 47, 97, 62]⟩ : ByteArray)), (wrap64 (x7_1 + 1)), (by first | rfl | (simp; done) | (simp [*]; done) | (simp; exact isEmpty_bne _)), (by first | rfl | (simp; done) | (simp [*]; done) | (simp; exact isEmpty_bne _)), (by first | rfl | (simp; done) | (simp [*]; done) | (simp; exact isEmpty_bne _)), H', ⟨by have := HK1.out; omega⟩, ⟨by repeat (first | (with_reducible first | exact HB.out | apply below_alloc | apply pw_below_drewN | apply below_drew1) | exact HB.out)⟩⟩
     ·rw [if_neg c5] at H
      exact absurd H (by simp)
    ·rw [if_neg c4] at H
     exact absurd H (by simp)
   ·rw [if_neg c3] at H
    have c3b0 : decide (x7_1 < (wrap64 (1 + (wrap64 (Int.tmod (IntKind.u64.wrap (a0)) 25))))) = false := decide_eq_false c3
    clear c3
    by_cases c6 : x5_1.size + x6_1.size ≤ 9223372036854775807
    ·rw [if_pos c6] at H
     have c6b0 := eq_true c6
     have c6b1 : decide (x5_1.size + x6_1.size ≤ 9223372036854775807) = true := decide_eq_true c6
     try have c6b2 : (9223372036854775807 < x5_1.size + x6_1.size) = False := eq_false (Nat.not_lt.2 c6)
     replace H := Option.bind_eq_some_iff.mp H
     obtain ⟨⟨t178, t179⟩, A70, H⟩ := H
     replace H : (if (wrap64 (1 + (wrap64 (Int.tmod (IntKind.u64.wrap (a0)) 25)))) > 20 then ((newellaw03_awake.f k1).bind fun t182 => (if t182 = true then (if t179 = 7 then (some ((t178.length : Int) == 0)) else (some false)) else (some false))) else (if (x5_1 ++ x6_1).size + 4 ≤ 9223372036854775807 then (if (Int.tmod (IntKind.u64.wrap (a1)) 4) = 0 then (if 0 ≤ (wrap64 ((x6_1.size : Int) - 4)) then (if (wrap64 ((x6_1.size : Int) - 4)) ≤ (x6_1.size : Int) then (if x5_1.size + (x6_1.extract 0 ((wrap64 ((x6_1.size : Int) - 4)) : Int).toNat).size ≤ 9223372036854775807 then ((element_Parse.f (x5_1 ++ (x6_1.extract 0 ((wrap64 ((x6_1.size : Int) - 4)) : Int).toNat))).bind fun bt183 => (if 1 + x5_1.size ≤ 9223372036854775807 then (if ((⟨#[32]⟩ : ByteArray) ++ x5_1).size + 12 ≤ 9223372036854775807 then (if (((⟨#[32]⟩ : ByteArray) ++ x5_1) ++ (⟨#[120, 60, 33, 45, 45, 32, 121, 32, 45, 45, 62, 122]⟩ : ByteArray)).size + x6_1.size ≤ 9223372036854775807 then (if ((((⟨#[32]⟩ : ByteArray) ++ x5_1) ++ (⟨#[120, 60, 33, 45, 45, 32, 121, 32, 45, 45, 62, 122]⟩ : ByteArray)) ++ x6_1).size + 1 ≤ 9223372036854775807 then ((element_Parse.f (((((⟨#[32]⟩ : ByteArray) ++ x5_1) ++ (⟨#[120, 60, 33, 45, 45, 32, 121, 32, 45, 45, 62, 122]⟩ : ByteArray)) ++ x6_1) ++ (⟨#[10]⟩ : ByteArray))).bind fun bt187 => ((newellaw03_awake.f k1).bind fun t191 => (if t191 = true then (if t179 = 0 then (if (t178.length : Int) = (wrap64 (1 + (wrap64 (Int.tmod (IntKind.u64.wrap (a0)) 25)))) then (if bt183.2 = 6 then (some (bt187.2 == 0)) else (some false)) else (some false)) else (some false)) else (some false)))) else (none)) else (none)) else (none)) else (none))) else (none)) else (none)) else (none)) else (if (Int.tmod (IntKind.u64.wrap (a1)) 4) = 1 then ((element_Parse.f ((x5_1 ++ x6_1) ++ (⟨#[60, 98, 47, 62]⟩ : ByteArray))).bind fun bt192 => (if 1 + x5_1.size ≤ 9223372036854775807 then (if ((⟨#[32]⟩ : ByteArray) ++ x5_1).size + 12 ≤ 9223372036854775807 then (if (((⟨#[32]⟩ : ByteArray) ++ x5_1) ++ (⟨#[120, 60, 33, 45, 45, 32, 121, 32, 45, 45, 62, 122]⟩ : ByteArray)).size + x6_1.size ≤ 9223372036854775807 then (if ((((⟨#[32]⟩ : ByteArray) ++ x5_1) ++ (⟨#[120, 60, 33, 45, 45, 32, 121, 32, 45, 45, 62, 122]⟩ : ByteArray)) ++ x6_1).size + 1 ≤ 9223372036854775807 then ((element_Parse.f (((((⟨#[32]⟩ : ByteArray) ++ x5_1) ++ (⟨#[120, 60, 33, 45, 45, 32, 121, 32, 45, 45, 62, 122]⟩ : ByteArray)) ++ x6_1) ++ (⟨#[10]⟩ : ByteArray))).bind fun bt196 => ((newellaw03_awake.f k1).bind fun t200 => (if t200 = true then (if t179 = 0 then (if (t178.length : Int) = (wrap64 (1 + (wrap64 (Int.tmod (IntKind.u64.wrap (a0)) 25)))) then (if bt192.2 = 6 then (some (bt196.2 == 0)) else (some false)) else (some false)) else (some false)) else (some false)))) else (none)) else (none)) else (none)) else (none))) else (if (Int.tmod (IntKind.u64.wrap (a1)) 4) = 2 then (if 0 ≤ (wrap64 ((x6_1.size : Int) - 4)) then (if (wrap64 ((x6_1.size : Int) - 4)) ≤ (x6_1.size : Int) then (if x5_1.size + (x6_1.extract 0 ((wrap64 ((x6_1.size : Int) - 4)) : Int).toNat).size ≤ 9223372036854775807 then (if (x5_1 ++ (x6_1.extract 0 ((wrap64 ((x6_1.size : Int) - 4)) : Int).toNat)).size + 4 ≤ 9223372036854775807 then ((element_Parse.f ((x5_1 ++ (x6_1.extract 0 ((wrap64 ((x6_1.size : Int) - 4)) : Int).toNat)) ++ (⟨#[60, 47, 98, 62]⟩ : ByteArray))).bind fun bt201 => (if 1 + x5_1.size ≤ 9223372036854775807 then (if ((⟨#[32]⟩ : ByteArray) ++ x5_1).size + 12 ≤ 9223372036854775807 then (if (((⟨#[32]⟩ : ByteArray) ++ x5_1) ++ (⟨#[120, 60, 33, 45, 45, 32, 121, 32, 45, 45, 62, 122]⟩ : ByteArray)).size + x6_1.size ≤ 9223372036854775807 then (if ((((⟨#[32]⟩ : ByteArray) ++ x5_1) ++ (⟨#[120, 60, 33, 45, 45, 32, 121, 32, 45, 45, 62, 122]⟩ : ByteArray)) ++ x6_1).size + 1 ≤ 9223372036854775807 then ((element_Parse.f (((((⟨#[32]⟩ : ByteArray) ++ x5_1) ++ (⟨#[120, 60, 33, 45, 45, 32, 121, 32, 45, 45, 62, 122]⟩ : ByteArray)) ++ x6_1) ++ (⟨#[10]⟩ : ByteArray))).bind fun bt205 => ((newellaw03_awake.f k1).bind fun t209 => (if t209 = true then (if t179 = 0 then (if (t178.length : Int) = (wrap64 (1 + (wrap64 (Int.tmod (IntKind.u64.wrap (a0)) 25)))) then (if bt201.2 = 6 then (some (bt205.2 == 0)) else (some false)) else (some false)) else (some false)) else (some false)))) else (none)) else (none)) else (none)) else (none))) else (none)) else (none)) else (none)) else (none)) else ((element_Parse.f ((x5_1 ++ x6_1) ++ (⟨#[60, 47, 97, 62]⟩ : ByteArray))).bind fun bt210 => (if 1 + x5_1.size ≤ 9223372036854775807 then (if ((⟨#[32]⟩ : ByteArray) ++ x5_1).size + 12 ≤ 9223372036854775807 then (if (((⟨#[32]⟩ : ByteArray) ++ x5_1) ++ (⟨#[120, 60, 33, 45, 45, 32, 121, 32, 45, 45, 62, 122]⟩ : ByteArray)).size + x6_1.size ≤ 9223372036854775807 then (if ((((⟨#[32]⟩ : ByteArray) ++ x5_1) ++ (⟨#[120, 60, 33, 45, 45, 32, 121, 32, 45, 45, 62, 122]⟩ : ByteArray)) ++ x6_1).size + 1 ≤ 9223372036854775807 then ((element_Parse.f (((((⟨#[32]⟩ : ByteArray) ++ x5_1) ++ (⟨#[120, 60, 33, 45, 45, 32, 121, 32, 45, 45, 62, 122]⟩ : ByteArray)) ++ x6_1) ++ (⟨#[10]⟩ : ByteArray))).bind fun bt214 => ((newellaw03_awake.f k1).bind fun t218 => (if t218 = true then (if t179 = 0 then (if (t178.length : Int) = (wrap64 (1 + (wrap64 (Int.tmod (IntKind.u64.wrap (a0)) 25)))) then (if bt210.2 = 6 then (some (bt214.2 == 0)) else (some false)) else (some false)) else (some false)) else (some false)))) else (none)) else (none)) else (none)) else (none)))))) else (none))) = some r := H
     have A7 := Aside0.mk A70
     clear A70
     by_cases c8 : (wrap64 (1 + (wrap64 (Int.tmod (IntKind.u64.wrap (a0)) 25)))) > 20
     ·rw [if_pos c8] at H
      have c8b0 : decide (20 < (wrap64 (1 + (wrap64 (Int.tmod (IntKind.u64.wrap (a0)) 25))))) = true := decide_eq_true c8
      clear c8
      replace H := Option.bind_eq_some_iff.mp H
      obtain ⟨t182, A90, H⟩ := H
      replace H : (if t182 = true then (if t179 = 7 then (some ((t178.length : Int) == 0)) else (some false)) else (some false)) = some r := H
      have A9 := Aside0.mk A90
      clear A90
      by_cases c10 : t182 = true
      ·subst c10
       have H1 : (if t179 = 7 then (some ((t178.length : Int) == 0)) else (some false)) = some r := by rw [if_pos rfl] at H; exact H
       clear H
       have H := H1
       clear H1
       by_cases c11 : t179 = 7
       ·rw [if_pos c11] at H
        have c11b0 : (t179 == 7) = true := beq_iff_eq.mpr c11
        have c11b1 : (t179 != 7) = false := bne_eq_false_iff_eq.mpr c11
        clear c11
        obtain rfl := Option.some.inj H
        go_wp2_with (first | ((with_reducible refine gate_callee (f := 9) rfl ?_); refine goesL_ (some 33) rfl rfl Try.func9 (by kernel_rfl) rfl #[.string (x5_1 ++ x6_1)] rfl (by (try simp only [List.map_toArray, List.map_cons, List.map_nil]); first | done | rfl | (simp only [List.length_drop, List.length_take]; rfl)) ?_; (with_reducible refine (element_Parse.calls (x5_1 ++ x6_1) t178 t179 _ ?side1 A7.out).mono ?_); (case side1 => exact Glob.step HG.out (by repeat (first | (with_reducible first | exact HB.out | apply below_alloc | apply pw_below_drewN | apply below_drew1) | exact HB.out))); rintro e w12 ⟨v180, rfl, ho0, hb⟩; refine ⟨_, rfl, ?_⟩; have n0_ := Aside0.mk (Kd.S_lower ho0 (below_size (by repeat (first | (with_reducible first | exact HB.out | apply below_alloc | apply pw_below_drewN | apply below_drew1) | exact HB.out)))); have n1_ := Aside0.mk (below_step (by repeat (first | (with_reducible first | exact HB.out | apply below_alloc | apply pw_below_drewN | apply below_drew1) | exact HB.out)) hb); clear HB; have HO181 := n0_; have HB := n1_; clear n0_ n1_; (try clear hb); (try clear hb2); (try clear hk); (try clear hi); (try clear ho0)) | ((with_reducible refine gate_callee (f := 8) rfl ?_); refine goesL_ (some 38) rfl rfl Try.func8 (by kernel_rfl) rfl #[] rfl (by (try simp only [List.map_toArray, List.map_cons, List.map_nil]); first | done | rfl | (simp only [List.length_drop, List.length_take]; rfl)) ?_; (with_reducible refine (newellaw03_awake.calls k1  true _ ?side1 A9.out).mono ?_); (case side1 => exact Glob.step HG.out (by repeat (first | (with_reducible first | exact HB.out | apply below_alloc | apply pw_below_drewN | apply below_drew1) | exact HB.out))); rintro e w13 ⟨rfl, hb⟩; refine ⟨_, rfl, ?_⟩; have n0_ := Aside0.mk (Kd.S_below (by (with_reducible repeat (first | apply Kd.S_alloc | apply Kd.S_drewN | apply Kd.S_drew)); exact HO181.out) hb); have n1_ := Aside0.mk (below_step (by repeat (first | (with_reducible first | exact HB.out | apply below_alloc | apply pw_below_drewN | apply below_drew1) | exact HB.out)) hb); clear HO181; clear HB; have HO181 := n0_; have HB := n1_; clear n0_ n1_; (try clear hb); (try clear hb2); (try clear hk); (try clear hi); obtain ⟨Ao14, co14, eo14⟩ := Kd.S_slice HO181.out; subst eo14))
        go_ret
        exact ⟨by first | rfl | (simp [errW_none, errW_some] <;> rfl) | (simp [*, errW_none, errW_some] <;> rfl), by repeat (first | (with_reducible first | exact HB.out | apply below_alloc | apply pw_below_drewN | apply below_drew1) | exact HB.out)⟩
       ·rw [if_neg c11] at H
        have c11b0 : (t179 == 7) = false := beq_eq_false_iff_ne.mpr c11
        have c11b1 : (t179 != 7) = true := bne_iff_ne.mpr c11
        exfalso
        obtain rfl := Option.some.inj H
        exact absurd hr_ (by decide)
      ·replace c10 := Bool.eq_false_iff.mpr c10
       subst c10
       have H1 : (some false) = some r := by rw [if_neg (show ¬ (false = true) by decide)] at H; exact H
       clear H
       have H := H1
       clear H1
       exfalso
       obtain rfl := Option.some.inj H
       exact absurd hr_ (by decide)
     ·rw [if_neg c8] at H
      have c8b0 : decide (20 < (wrap64 (1 + (wrap64 (Int.tmod (IntKind.u64.wrap (a0)) 25))))) = false := decide_eq_false c8
      clear c8
      by_cases c15 : (x5_1 ++ x6_1).size + 4 ≤ 9223372036854775807
      ·rw [if_pos c15] at H
       have c15b0 := eq_true c15
       have c15b1 : decide ((x5_1 ++ x6_1).size + 4 ≤ 9223372036854775807) = true := decide_eq_true c15
       try have c15b2 : (9223372036854775807 < (x5_1 ++ x6_1).size + 4) = False := eq_false (Nat.not_lt.2 c15)
       have c15n : (x5_1.size + x6_1.size) + 4 ≤ 9223372036854775807 := by have z_ := c15; simp only [ByteArray.size_append] at z_; exact z_
       have c15m : (9223372036854775807 < (x5_1.size + x6_1.size) + 4) = False := eq_false (Nat.not_lt.2 c15n)
       clear c15 c15b0 c15b1
       try clear c15b2
       by_cases c16 : (Int.tmod (IntKind.u64.wrap (a1)) 4) = 0
       ·rw [if_pos c16] at H
        have c16b0 : ((Int.tmod (IntKind.u64.wrap (a1)) 4) == 0) = true := beq_iff_eq.mpr c16
        have c16b1 : ((Int.tmod (IntKind.u64.wrap (a1)) 4) != 0) = false := bne_eq_false_iff_eq.mpr c16
        clear c16
        obtain ⟨ji17, hji17⟩ : ∃ j_ : Int, (wrap64 ((x6_1.size : Int) - 4)) = j_ := ⟨_, rfl⟩
        replace H : (if 0 ≤ (ji17) then (if (ji17) ≤ (x6_1.size : Int) then (if x5_1.size + (x6_1.extract 0 ((ji17) : Int).toNat).size ≤ 9223372036854775807 then ((element_Parse.f (x5_1 ++ (x6_1.extract 0 ((ji17) : Int).toNat))).bind fun bt183 => (if 1 + x5_1.size ≤ 9223372036854775807 then (if ((⟨#[32]⟩ : ByteArray) ++ x5_1).size + 12 ≤ 9223372036854775807 then (if (((⟨#[32]⟩ : ByteArray) ++ x5_1) ++ (⟨#[120, 60, 33, 45, 45, 32, 121, 32, 45, 45, 62, 122]⟩ : ByteArray)).size + x6_1.size ≤ 9223372036854775807 then (if ((((⟨#[32]⟩ : ByteArray) ++ x5_1) ++ (⟨#[120, 60, 33, 45, 45, 32, 121, 32, 45, 45, 62, 122]⟩ : ByteArray)) ++ x6_1).size + 1 ≤ 9223372036854775807 then ((element_Parse.f (((((⟨#[32]⟩ : ByteArray) ++ x5_1) ++ (⟨#[120, 60, 33, 45, 45, 32, 121, 32, 45, 45, 62, 122]⟩ : ByteArray)) ++ x6_1) ++ (⟨#[10]⟩ : ByteArray))).bind fun bt187 => ((newellaw03_awake.f k1).bind fun t191 => (if t191 = true then (if t179 = 0 then (if (t178.length : Int) = (wrap64 (1 + (wrap64 (Int.tmod (IntKind.u64.wrap (a0)) 25)))) then (if bt183.2 = 6 then (some (bt187.2 == 0)) else (some false)) else (some false)) else (some false)) else (some false)))) else (none)) else (none)) else (none)) else (none))) else (none)) else (none)) else (none)) = some r := by first | (rw [hji17] at H; exact H) | (simp only [hji17] at H ⊢; exact H)
        (try rw [hji17] at A7)
        have hji17w : (IntKind.i64.wrap ((x6_1.size : Int) - 4)) = ji17 := (i64_w _).trans hji17
        by_cases c18 : 0 ≤ (ji17)
        ·rw [if_pos c18] at H
         have c18b0 := eq_true c18
         have c18b1 : decide (0 ≤ (ji17)) = true := decide_eq_true c18
         clear c18
         by_cases c19 : (ji17) ≤ (x6_1.size : Int)
         ·rw [if_pos c19] at H
          have c19b0 := eq_true c19
          have c19b1 : decide ((ji17) ≤ (x6_1.size : Int)) = true := decide_eq_true c19
          clear c19
          by_cases c20 : x5_1.size + (x6_1.extract 0 ((ji17) : Int).toNat).size ≤ 9223372036854775807
          ·rw [if_pos c20] at H
           have c20b0 := eq_true c20
           have c20b1 : decide (x5_1.size + (x6_1.extract 0 ((ji17) : Int).toNat).size ≤ 9223372036854775807) = true := decide_eq_true c20
           try have c20b2 : (9223372036854775807 < x5_1.size + (x6_1.extract 0 ((ji17) : Int).toNat).size) = False := eq_false (Nat.not_lt.2 c20)
           try have c20q : (9223372036854775807 < x5_1.size + (((ji17) : Int).toNat - 0)) = False := eq_false (by have z_ := c20; have y_ : ((ji17) : Int) ≤ ((x6_1).size : Int) := of_decide_eq_true (by assumption); simp only [ByteArray.size_extract] at z_; omega)
           replace H := Option.bind_eq_some_iff.mp H
           obtain ⟨⟨t183, t184⟩, A210, H⟩ := H
           replace H : (if 1 + x5_1.size ≤ 9223372036854775807 then (if ((⟨#[32]⟩ : ByteArray) ++ x5_1).size + 12 ≤ 9223372036854775807 then (if (((⟨#[32]⟩ : ByteArray) ++ x5_1) ++ (⟨#[120, 60, 33, 45, 45, 32, 121, 32, 45, 45, 62, 122]⟩ : ByteArray)).size + x6_1.size ≤ 9223372036854775807 then (if ((((⟨#[32]⟩ : ByteArray) ++ x5_1) ++ (⟨#[120, 60, 33, 45, 45, 32, 121, 32, 45, 45, 62, 122]⟩ : ByteArray)) ++ x6_1).size + 1 ≤ 9223372036854775807 then ((element_Parse.f (((((⟨#[32]⟩ : ByteArray) ++ x5_1) ++ (⟨#[120, 60, 33, 45, 45, 32, 121, 32, 45, 45, 62, 122]⟩ : ByteArray)) ++ x6_1) ++ (⟨#[10]⟩ : ByteArray))).bind fun bt187 => ((newellaw03_awake.f k1).bind fun t191 => (if t191 = true then (if t179 = 0 then (if (t178.length : Int) = (wrap64 (1 + (wrap64 (Int.tmod (IntKind.u64.wrap (a0)) 25)))) then (if t184 = 6 then (some (bt187.2 == 0)) else (some false)) else (some false)) else (some false)) else (some false)))) else (none)) else (none)) else (none)) else (none)) = some r := H
           have A21 := Aside0.mk A210
           clear A210
           by_cases c22 : 1 + x5_1.size ≤ 9223372036854775807
           ·rw [if_pos c22] at H
            have c22b0 := eq_true c22
            have c22b1 : decide (1 + x5_1.size ≤ 9223372036854775807) = true := decide_eq_true c22
            try have c22b2 : (9223372036854775807 < 1 + x5_1.size) = False := eq_false (Nat.not_lt.2 c22)
            by_cases c23 : ((⟨#[32]⟩ : ByteArray) ++ x5_1).size + 12 ≤ 9223372036854775807
            ·rw [if_pos c23] at H
             have c23b0 := eq_true c23
             have c23b1 : decide (((⟨#[32]⟩ : ByteArray) ++ x5_1).size + 12 ≤ 9223372036854775807) = true := decide_eq_true c23
             try have c23b2 : (9223372036854775807 < ((⟨#[32]⟩ : ByteArray) ++ x5_1).size + 12) = False := eq_false (Nat.not_lt.2 c23)
             have c23n : (1 + x5_1.size) + 12 ≤ 9223372036854775807 := by have z_ := c23; simp only [ByteArray.size_append] at z_; exact z_
             have c23m : (9223372036854775807 < (1 + x5_1.size) + 12) = False := eq_false (Nat.not_lt.2 c23n)
             clear c23 c23b0 c23b1
             try clear c23b2
             by_cases c24 : (((⟨#[32]⟩ : ByteArray) ++ x5_1) ++ (⟨#[120, 60, 33, 45, 45, 32, 121, 32, 45, 45, 62, 122]⟩ : ByteArray)).size + x6_1.size ≤ 9223372036854775807
             ·rw [if_pos c24] at H
              have c24b0 := eq_true c24
              have c24b1 : decide ((((⟨#[32]⟩ : ByteArray) ++ x5_1) ++ (⟨#[120, 60, 33, 45, 45, 32, 121, 32, 45, 45, 62, 122]⟩ : ByteArray)).size + x6_1.size ≤ 9223372036854775807) = true := decide_eq_true c24
              try have c24b2 : (9223372036854775807 < (((⟨#[32]⟩ : ByteArray) ++ x5_1) ++ (⟨#[120, 60, 33, 45, 45, 32, 121, 32, 45, 45, 62, 122]⟩ : ByteArray)).size + x6_1.size) = False := eq_false (Nat.not_lt.2 c24)
              have c24n : ((1 + x5_1.size) + 12) + x6_1.size ≤ 9223372036854775807 := by have z_ := c24; simp only [ByteArray.size_append] at z_; exact z_
              have c24m : (9223372036854775807 < ((1 + x5_1.size) + 12) + x6_1.size) = False := eq_false (Nat.not_lt.2 c24n)
              clear c24 c24b0 c24b1
              try clear c24b2
              by_cases c25 : ((((⟨#[32]⟩ : ByteArray) ++ x5_1) ++ (⟨#[120, 60, 33, 45, 45, 32, 121, 32, 45, 45, 62, 122]⟩ : ByteArray)) ++ x6_1).size + 1 ≤ 9223372036854775807
              ·rw [if_pos c25] at H
               have c25b0 := eq_true c25
               have c25b1 : decide (((((⟨#[32]⟩ : ByteArray) ++ x5_1) ++ (⟨#[120, 60, 33, 45, 45, 32, 121, 32, 45, 45, 62, 122]⟩ : ByteArray)) ++ x6_1).size + 1 ≤ 9223372036854775807) = true := decide_eq_true c25
               try have c25b2 : (9223372036854775807 < ((((⟨#[32]⟩ : ByteArray) ++ x5_1) ++ (⟨#[120, 60, 33, 45, 45, 32, 121, 32, 45, 45, 62, 122]⟩ : ByteArray)) ++ x6_1).size + 1) = False := eq_false (Nat.not_lt.2 c25)
               have c25n : (((1 + x5_1.size) + 12) + x6_1.size) + 1 ≤ 9223372036854775807 := by have z_ := c25; simp only [ByteArray.size_append] at z_; exact z_
               have c25m : (9223372036854775807 < (((1 + x5_1.size) + 12) + x6_1.size) + 1) = False := eq_false (Nat.not_lt.2 c25n)
               clear c25 c25b0 c25b1
               try clear c25b2
               replace H := Option.bind_eq_some_iff.mp H
               obtain ⟨⟨t187, t188⟩, A260, H⟩ := H
               replace H : ((newellaw03_awake.f k1).bind fun t191 => (if t191 = true then (if t179 = 0 then (if (t178.length : Int) = (wrap64 (1 + (wrap64 (Int.tmod (IntKind.u64.wrap (a0)) 25)))) then (if t184 = 6 then (some (t188 == 0)) else (some false)) else (some false)) else (some false)) else (some false))) = some r := H
               have A26 := Aside0.mk A260
               clear A260
               replace H := Option.bind_eq_some_iff.mp H
               obtain ⟨t191, A270, H⟩ := H
               replace H : (if t191 = true then (if t179 = 0 then (if (t178.length : Int) = (wrap64 (1 + (wrap64 (Int.tmod (IntKind.u64.wrap (a0)) 25)))) then (if t184 = 6 then (some (t188 == 0)) else (some false)) else (some false)) else (some false)) else (some false)) = some r := H
               have A27 := Aside0.mk A270
               clear A270
               by_cases c28 : t191 = true
               ·subst c28
                have H1 : (if t179 = 0 then (if (t178.length : Int) = (wrap64 (1 + (wrap64 (Int.tmod (IntKind.u64.wrap (a0)) 25)))) then (if t184 = 6 then (some (t188 == 0)) else (some false)) else (some false)) else (some false)) = some r := by rw [if_pos rfl] at H; exact H
                clear H
                have H := H1
                clear H1
                by_cases c29 : t179 = 0
                ·rw [if_pos c29] at H
                 have c29b0 : (t179 == 0) = true := beq_iff_eq.mpr c29
                 have c29b1 : (t179 != 0) = false := bne_eq_false_iff_eq.mpr c29
                 clear c29
                 by_cases c30 : (t178.length : Int) = (wrap64 (1 + (wrap64 (Int.tmod (IntKind.u64.wrap (a0)) 25))))
                 ·rw [if_pos c30] at H
                  have c30b0 : ((t178.length : Int) == (wrap64 (1 + (wrap64 (Int.tmod (IntKind.u64.wrap (a0)) 25))))) = true := beq_iff_eq.mpr c30
                  have c30b1 : ((t178.length : Int) != (wrap64 (1 + (wrap64 (Int.tmod (IntKind.u64.wrap (a0)) 25))))) = false := bne_eq_false_iff_eq.mpr c30
                  clear c30
                  by_cases c31 : t184 = 6
                  ·rw [if_pos c31] at H
                   have c31b0 : (t184 == 6) = true := beq_iff_eq.mpr c31
                   have c31b1 : (t184 != 6) = false := bne_eq_false_iff_eq.mpr c31
                   clear c31
                   obtain rfl := Option.some.inj H
                   go_wp2_with (first | ((with_reducible refine gate_callee (f := 9) rfl ?_); refine goesL_ (some 33) rfl rfl Try.func9 (by kernel_rfl) rfl #[.string (x5_1 ++ x6_1)] rfl (by (try simp only [List.map_toArray, List.map_cons, List.map_nil]); first | done | rfl | (simp only [List.length_drop, List.length_take]; rfl)) ?_; (with_reducible refine (element_Parse.calls (x5_1 ++ x6_1) t178 t179 _ ?side1 A7.out).mono ?_); (case side1 => exact Glob.step HG.out (by repeat (first | (with_reducible first | exact HB.out | apply below_alloc | apply pw_below_drewN | apply below_drew1) | exact HB.out))); rintro e w32 ⟨v180, rfl, ho0, hb⟩; refine ⟨_, rfl, ?_⟩; have n0_ := Aside0.mk (Kd.S_lower ho0 (below_size (by repeat (first | (with_reducible first | exact HB.out | apply below_alloc | apply pw_below_drewN | apply below_drew1) | exact HB.out)))); have n1_ := Aside0.mk (below_step (by repeat (first | (with_reducible first | exact HB.out | apply below_alloc | apply pw_below_drewN | apply below_drew1) | exact HB.out)) hb); clear HB; have HO181 := n0_; have HB := n1_; clear n0_ n1_; (try clear hb); (try clear hb2); (try clear hk); (try clear hi); (try clear ho0)) | ((with_reducible refine gate_callee (f := 9) rfl ?_); refine goesL_ (some 82) rfl rfl Try.func9 (by kernel_rfl) rfl #[.string (x5_1 ++ (x6_1.extract 0 ((ji17) : Int).toNat))] rfl (by (try simp only [List.map_toArray, List.map_cons, List.map_nil]); first | done | (simp only [hji17]; rfl) | rfl | (simp only [List.length_drop, List.length_take]; rfl)) ?_; (with_reducible refine (element_Parse.calls (x5_1 ++ (x6_1.extract 0 ((ji17) : Int).toNat)) t183 t184 _ ?side1 A21.out).mono ?_); (case side1 => exact Glob.step HG.out (by repeat (first | (with_reducible first | exact HB.out | apply below_alloc | apply pw_below_drewN | apply below_drew1) | exact HB.out))); rintro e w33 ⟨v185, rfl, ho0, hb⟩; refine ⟨_, rfl, ?_⟩; have n0_ := Aside0.mk (Kd.S_elder' (by (with_reducible repeat (first | apply Kd.S_alloc | apply Kd.S_drewN | apply Kd.S_drew)); exact HO181.out) (Kd.S_base ho0) hb); have n1_ := Aside0.mk (Kd.S_lower (Kd.S_new' ho0 (Kd.S_lt (by (with_reducible repeat (first | apply Kd.S_alloc | apply Kd.S_drewN | apply Kd.S_drew)); exact HO181.out))) (below_size (by repeat (first | (with_reducible first | exact HB.out | apply below_alloc | apply pw_below_drewN | apply below_drew1) | exact HB.out)))); have n2_ := Aside0.mk (below_step (by repeat (first | (with_reducible first | exact HB.out | apply below_alloc | apply pw_below_drewN | apply below_drew1) | exact HB.out)) hb); clear HO181; clear HB; have HO181 := n0_; have HO186 := n1_; have HB := n2_; clear n0_ n1_ n2_; (try clear hb); (try clear hb2); (try clear hk); (try clear hi); (try clear ho0)) | ((with_reducible refine gate_callee (f := 9) rfl ?_); refine goesL_ (some 92) rfl rfl Try.func9 (by kernel_rfl) rfl #[.string (((((⟨#[32]⟩ : ByteArray) ++ x5_1) ++ (⟨#[120, 60, 33, 45, 45, 32, 121, 32, 45, 45, 62, 122]⟩ : ByteArray)) ++ x6_1) ++ (⟨#[10]⟩ : ByteArray))] rfl (by (try simp only [List.map_toArray, List.map_cons, List.map_nil]); first | done | rfl | (simp only [List.length_drop, List.length_take]; rfl)) ?_; (with_reducible refine (element_Parse.calls (((((⟨#[32]⟩ : ByteArray) ++ x5_1) ++ (⟨#[120, 60, 33, 45, 45, 32, 121, 32, 45, 45, 62, 122]⟩ : ByteArray)) ++ x6_1) ++ (⟨#[10]⟩ : ByteArray)) t187 t188 _ ?side1 A26.out).mono ?_); (case side1 => exact Glob.step HG.out (by repeat (first | (with_reducible first | exact HB.out | apply below_alloc | apply pw_below_drewN | apply below_drew1) | exact HB.out))); rintro e w34 ⟨v189, rfl, ho0, hb⟩; refine ⟨_, rfl, ?_⟩; have n0_ := Aside0.mk (Kd.S_elder' (by (with_reducible repeat (first | apply Kd.S_alloc | apply Kd.S_drewN | apply Kd.S_drew)); exact HO181.out) (Kd.S_base ho0) hb); have n1_ := Aside0.mk (Kd.S_elder' (by (with_reducible repeat (first | apply Kd.S_alloc | apply Kd.S_drewN | apply Kd.S_drew)); exact HO186.out) (Kd.S_base ho0) hb); have n2_ := Aside0.mk (Kd.S_lower (Kd.S_new' (Kd.S_new' ho0 (Kd.S_lt (by (with_reducible repeat (first | apply Kd.S_alloc | apply Kd.S_drewN | apply Kd.S_drew)); exact HO181.out))) (Kd.S_lt (by (with_reducible repeat (first | apply Kd.S_alloc | apply Kd.S_drewN | apply Kd.S_drew)); exact HO186.out))) (below_size (by repeat (first | (with_reducible first | exact HB.out | apply below_alloc | apply pw_below_drewN | apply below_drew1) | exact HB.out)))); have n3_ := Aside0.mk (below_step (by repeat (first | (with_reducible first | exact HB.out | apply below_alloc | apply pw_below_drewN | apply below_drew1) | exact HB.out)) hb); clear HO181; clear HO186; clear HB; have HO181 := n0_; have HO186 := n1_; have HO190 := n2_; have HB := n3_; clear n0_ n1_ n2_ n3_; (try clear hb); (try clear hb2); (try clear hk); (try clear hi); (try clear ho0)) | ((with_reducible refine gate_callee (f := 8) rfl ?_); refine goesL_ (some 95) rfl rfl Try.func8 (by kernel_rfl) rfl #[] rfl (by (try simp only [List.map_toArray, List.map_cons, List.map_nil]); first | done | rfl | (simp only [List.length_drop, List.length_take]; rfl)) ?_; (with_reducible refine (newellaw03_awake.calls k1  true _ ?side1 A27.out).mono ?_); (case side1 => exact Glob.step HG.out (by repeat (first | (with_reducible first | exact HB.out | apply below_alloc | apply pw_below_drewN | apply below_drew1) | exact HB.out))); rintro e w35 ⟨rfl, hb⟩; refine ⟨_, rfl, ?_⟩; have n0_ := Aside0.mk (Kd.S_below (by (with_reducible repeat (first | apply Kd.S_alloc | apply Kd.S_drewN | apply Kd.S_drew)); exact HO181.out) hb); have n1_ := Aside0.mk (Kd.S_below (by (with_reducible repeat (first | apply Kd.S_alloc | apply Kd.S_drewN | apply Kd.S_drew)); exact HO186.out) hb); have n2_ := Aside0.mk (Kd.S_below (by (with_reducible repeat (first | apply Kd.S_alloc | apply Kd.S_drewN | apply Kd.S_drew)); exact HO190.out) hb); have n3_ := Aside0.mk (below_step (by repeat (first | (with_reducible first | exact HB.out | apply below_alloc | apply pw_below_drewN | apply below_drew1) | exact HB.out)) hb); clear HO181; clear HO186; clear HO190; clear HB; have HO181 := n0_; have HO186 := n1_; have HO190 := n2_; have HB := n3_; clear n0_ n1_ n2_ n3_; (try clear hb); (try clear hb2); (try clear hk); (try clear hi); obtain ⟨Ao36, co36, eo36⟩ := Kd.S_slice HO181.out; subst eo36))
                   go_ret
                   exact ⟨by first | rfl | (simp [errW_none, errW_some] <;> rfl) | (simp only [← hji17]; first | rfl | (simp [errW_none, errW_some] <;> rfl)) | (simp [*, errW_none, errW_some] <;> rfl), by repeat (first | (with_reducible first | exact HB.out | apply below_alloc | apply pw_below_drewN | apply below_drew1) | exact HB.out)⟩
                  ·rw [if_neg c31] at H
                   have c31b0 : (t184 == 6) = false := beq_eq_false_iff_ne.mpr c31
                   have c31b1 : (t184 != 6) = true := bne_iff_ne.mpr c31
                   exfalso
                   obtain rfl := Option.some.inj H
                   exact absurd hr_ (by decide)
                 ·rw [if_neg c30] at H
                  have c30b0 : ((t178.length : Int) == (wrap64 (1 + (wrap64 (Int.tmod (IntKind.u64.wrap (a0)) 25))))) = false := beq_eq_false_iff_ne.mpr c30
                  have c30b1 : ((t178.length : Int) != (wrap64 (1 + (wrap64 (Int.tmod (IntKind.u64.wrap (a0)) 25))))) = true := bne_iff_ne.mpr c30
                  exfalso
                  obtain rfl := Option.some.inj H
                  exact absurd hr_ (by decide)
                ·rw [if_neg c29] at H
                 have c29b0 : (t179 == 0) = false := beq_eq_false_iff_ne.mpr c29
                 have c29b1 : (t179 != 0) = true := bne_iff_ne.mpr c29
                 exfalso
                 obtain rfl := Option.some.inj H
                 exact absurd hr_ (by decide)
               ·replace c28 := Bool.eq_false_iff.mpr c28
                subst c28
                have H1 : (some false) = some r := by rw [if_neg (show ¬ (false = true) by decide)] at H; exact H
                clear H
                have H := H1
                clear H1
                exfalso
                obtain rfl := Option.some.inj H
                exact absurd hr_ (by decide)
              ·rw [if_neg c25] at H
               exact absurd H (by simp)
             ·rw [if_neg c24] at H
              exact absurd H (by simp)
            ·rw [if_neg c23] at H
             exact absurd H (by simp)
           ·rw [if_neg c22] at H
            exact absurd H (by simp)
          ·rw [if_neg c20] at H
           exact absurd H (by simp)
         ·rw [if_neg c19] at H
          exact absurd H (by simp)
        ·rw [if_neg c18] at H
         exact absurd H (by simp)
       ·rw [if_neg c16] at H
        have c16b0 : ((Int.tmod (IntKind.u64.wrap (a1)) 4) == 0) = false := beq_eq_false_iff_ne.mpr c16
        have c16b1 : ((Int.tmod (IntKind.u64.wrap (a1)) 4) != 0) = true := bne_iff_ne.mpr c16
        by_cases c37 : (Int.tmod (IntKind.u64.wrap (a1)) 4) = 1
        ·rw [if_pos c37] at H
         have c37b0 : ((Int.tmod (IntKind.u64.wrap (a1)) 4) == 1) = true := beq_iff_eq.mpr c37
         have c37b1 : ((Int.tmod (IntKind.u64.wrap (a1)) 4) != 1) = false := bne_eq_false_iff_eq.mpr c37
         clear c37
         replace H := Option.bind_eq_some_iff.mp H
         obtain ⟨⟨t192, t193⟩, A380, H⟩ := H
         replace H : (if 1 + x5_1.size ≤ 9223372036854775807 then (if ((⟨#[32]⟩ : ByteArray) ++ x5_1).size + 12 ≤ 9223372036854775807 then (if (((⟨#[32]⟩ : ByteArray) ++ x5_1) ++ (⟨#[120, 60, 33, 45, 45, 32, 121, 32, 45, 45, 62, 122]⟩ : ByteArray)).size + x6_1.size ≤ 9223372036854775807 then (if ((((⟨#[32]⟩ : ByteArray) ++ x5_1) ++ (⟨#[120, 60, 33, 45, 45, 32, 121, 32, 45, 45, 62, 122]⟩ : ByteArray)) ++ x6_1).size + 1 ≤ 9223372036854775807 then ((element_Parse.f (((((⟨#[32]⟩ : ByteArray) ++ x5_1) ++ (⟨#[120, 60, 33, 45, 45, 32, 121, 32, 45, 45, 62, 122]⟩ : ByteArray)) ++ x6_1) ++ (⟨#[10]⟩ : ByteArray))).bind fun bt196 => ((newellaw03_awake.f k1).bind fun t200 => (if t200 = true then (if t179 = 0 then (if (t178.length : Int) = (wrap64 (1 + (wrap64 (Int.tmod (IntKind.u64.wrap (a0)) 25)))) then (if t193 = 6 then (some (bt196.2 == 0)) else (some false)) else (some false)) else (some false)) else (some false)))) else (none)) else (none)) else (none)) else (none)) = some r := H
         have A38 := Aside0.mk A380
         clear A380
         by_cases c39 : 1 + x5_1.size ≤ 9223372036854775807
         ·rw [if_pos c39] at H
          have c39b0 := eq_true c39
          have c39b1 : decide (1 + x5_1.size ≤ 9223372036854775807) = true := decide_eq_true c39
          try have c39b2 : (9223372036854775807 < 1 + x5_1.size) = False := eq_false (Nat.not_lt.2 c39)
          by_cases c40 : ((⟨#[32]⟩ : ByteArray) ++ x5_1).size + 12 ≤ 9223372036854775807
          ·rw [if_pos c40] at H
           have c40b0 := eq_true c40
           have c40b1 : decide (((⟨#[32]⟩ : ByteArray) ++ x5_1).size + 12 ≤ 9223372036854775807) = true := decide_eq_true c40
           try have c40b2 : (9223372036854775807 < ((⟨#[32]⟩ : ByteArray) ++ x5_1).size + 12) = False := eq_false (Nat.not_lt.2 c40)
           have c40n : (1 + x5_1.size) + 12 ≤ 9223372036854775807 := by have z_ := c40; simp only [ByteArray.size_append] at z_; exact z_
           have c40m : (9223372036854775807 < (1 + x5_1.size) + 12) = False := eq_false (Nat.not_lt.2 c40n)
           clear c40 c40b0 c40b1
           try clear c40b2
           by_cases c41 : (((⟨#[32]⟩ : ByteArray) ++ x5_1) ++ (⟨#[120, 60, 33, 45, 45, 32, 121, 32, 45, 45, 62, 122]⟩ : ByteArray)).size + x6_1.size ≤ 9223372036854775807
           ·rw [if_pos c41] at H
            have c41b0 := eq_true c41
            have c41b1 : decide ((((⟨#[32]⟩ : ByteArray) ++ x5_1) ++ (⟨#[120, 60, 33, 45, 45, 32, 121, 32, 45, 45, 62, 122]⟩ : ByteArray)).size + x6_1.size ≤ 9223372036854775807) = true := decide_eq_true c41
            try have c41b2 : (9223372036854775807 < (((⟨#[32]⟩ : ByteArray) ++ x5_1) ++ (⟨#[120, 60, 33, 45, 45, 32, 121, 32, 45, 45, 62, 122]⟩ : ByteArray)).size + x6_1.size) = False := eq_false (Nat.not_lt.2 c41)
            have c41n : ((1 + x5_1.size) + 12) + x6_1.size ≤ 9223372036854775807 := by have z_ := c41; simp only [ByteArray.size_append] at z_; exact z_
            have c41m : (9223372036854775807 < ((1 + x5_1.size) + 12) + x6_1.size) = False := eq_false (Nat.not_lt.2 c41n)
            clear c41 c41b0 c41b1
            try clear c41b2
            by_cases c42 : ((((⟨#[32]⟩ : ByteArray) ++ x5_1) ++ (⟨#[120, 60, 33, 45, 45, 32, 121, 32, 45, 45, 62, 122]⟩ : ByteArray)) ++ x6_1).size + 1 ≤ 9223372036854775807
            ·rw [if_pos c42] at H
             have c42b0 := eq_true c42
             have c42b1 : decide (((((⟨#[32]⟩ : ByteArray) ++ x5_1) ++ (⟨#[120, 60, 33, 45, 45, 32, 121, 32, 45, 45, 62, 122]⟩ : ByteArray)) ++ x6_1).size + 1 ≤ 9223372036854775807) = true := decide_eq_true c42
             try have c42b2 : (9223372036854775807 < ((((⟨#[32]⟩ : ByteArray) ++ x5_1) ++ (⟨#[120, 60, 33, 45, 45, 32, 121, 32, 45, 45, 62, 122]⟩ : ByteArray)) ++ x6_1).size + 1) = False := eq_false (Nat.not_lt.2 c42)
             have c42n : (((1 + x5_1.size) + 12) + x6_1.size) + 1 ≤ 9223372036854775807 := by have z_ := c42; simp only [ByteArray.size_append] at z_; exact z_
             have c42m : (9223372036854775807 < (((1 + x5_1.size) + 12) + x6_1.size) + 1) = False := eq_false (Nat.not_lt.2 c42n)
             clear c42 c42b0 c42b1
             try clear c42b2
             replace H := Option.bind_eq_some_iff.mp H
             obtain ⟨⟨t196, t197⟩, A430, H⟩ := H
             replace H : ((newellaw03_awake.f k1).bind fun t200 => (if t200 = true then (if t179 = 0 then (if (t178.length : Int) = (wrap64 (1 + (wrap64 (Int.tmod (IntKind.u64.wrap (a0)) 25)))) then (if t193 = 6 then (some (t197 == 0)) else (some false)) else (some false)) else (some false)) else (some false))) = some r := H
             have A43 := Aside0.mk A430
             clear A430
             replace H := Option.bind_eq_some_iff.mp H
             obtain ⟨t200, A440, H⟩ := H
             replace H : (if t200 = true then (if t179 = 0 then (if (t178.length : Int) = (wrap64 (1 + (wrap64 (Int.tmod (IntKind.u64.wrap (a0)) 25)))) then (if t193 = 6 then (some (t197 == 0)) else (some false)) else (some false)) else (some false)) else (some false)) = some r := H
             have A44 := Aside0.mk A440
             clear A440
             by_cases c45 : t200 = true
             ·subst c45
              have H1 : (if t179 = 0 then (if (t178.length : Int) = (wrap64 (1 + (wrap64 (Int.tmod (IntKind.u64.wrap (a0)) 25)))) then (if t193 = 6 then (some (t197 == 0)) else (some false)) else (some false)) else (some false)) = some r := by rw [if_pos rfl] at H; exact H
              clear H
              have H := H1
              clear H1
              by_cases c46 : t179 = 0
              ·rw [if_pos c46] at H
               have c46b0 : (t179 == 0) = true := beq_iff_eq.mpr c46
               have c46b1 : (t179 != 0) = false := bne_eq_false_iff_eq.mpr c46
               clear c46
               by_cases c47 : (t178.length : Int) = (wrap64 (1 + (wrap64 (Int.tmod (IntKind.u64.wrap (a0)) 25))))
               ·rw [if_pos c47] at H
                have c47b0 : ((t178.length : Int) == (wrap64 (1 + (wrap64 (Int.tmod (IntKind.u64.wrap (a0)) 25))))) = true := beq_iff_eq.mpr c47
                have c47b1 : ((t178.length : Int) != (wrap64 (1 + (wrap64 (Int.tmod (IntKind.u64.wrap (a0)) 25))))) = false := bne_eq_false_iff_eq.mpr c47
                clear c47
                by_cases c48 : t193 = 6
                ·rw [if_pos c48] at H
                 have c48b0 : (t193 == 6) = true := beq_iff_eq.mpr c48
                 have c48b1 : (t193 != 6) = false := bne_eq_false_iff_eq.mpr c48
                 clear c48
                 obtain rfl := Option.some.inj H
                 go_wp2_with (first | ((with_reducible refine gate_callee (f := 9) rfl ?_); refine goesL_ (some 33) rfl rfl Try.func9 (by kernel_rfl) rfl #[.string (x5_1 ++ x6_1)] rfl (by (try simp only [List.map_toArray, List.map_cons, List.map_nil]); first | done | rfl | (simp only [List.length_drop, List.length_take]; rfl)) ?_; (with_reducible refine (element_Parse.calls (x5_1 ++ x6_1) t178 t179 _ ?side1 A7.out).mono ?_); (case side1 => exact Glob.step HG.out (by repeat (first | (with_reducible first | exact HB.out | apply below_alloc | apply pw_below_drewN | apply below_drew1) | exact HB.out))); rintro e w49 ⟨v180, rfl, ho0, hb⟩; refine ⟨_, rfl, ?_⟩; have n0_ := Aside0.mk (Kd.S_lower ho0 (below_size (by repeat (first | (with_reducible first | exact HB.out | apply below_alloc | apply pw_below_drewN | apply below_drew1) | exact HB.out)))); have n1_ := Aside0.mk (below_step (by repeat (first | (with_reducible first | exact HB.out | apply below_alloc | apply pw_below_drewN | apply below_drew1) | exact HB.out)) hb); clear HB; have HO181 := n0_; have HB := n1_; clear n0_ n1_; (try clear hb); (try clear hb2); (try clear hk); (try clear hi); (try clear ho0)) | ((with_reducible refine gate_callee (f := 9) rfl ?_); refine goesL_ (some 82) rfl rfl Try.func9 (by kernel_rfl) rfl #[.string ((x5_1 ++ x6_1) ++ (⟨#[60, 98, 47, 62]⟩ : ByteArray))] rfl (by (try simp only [List.map_toArray, List.map_cons, List.map_nil]); first | done | rfl | (simp only [List.length_drop, List.length_take]; rfl)) ?_; (with_reducible refine (element_Parse.calls ((x5_1 ++ x6_1) ++ (⟨#[60, 98, 47, 62]⟩ : ByteArray)) t192 t193 _ ?side1 A38.out).mono ?_); (case side1 => exact Glob.step HG.out (by repeat (first | (with_reducible first | exact HB.out | apply below_alloc | apply pw_below_drewN | apply below_drew1) | exact HB.out))); rintro e w50 ⟨v194, rfl, ho0, hb⟩; refine ⟨_, rfl, ?_⟩; have n0_ := Aside0.mk (Kd.S_elder' (by (with_reducible repeat (first | apply Kd.S_alloc | apply Kd.S_drewN | apply Kd.S_drew)); exact HO181.out) (Kd.S_base ho0) hb); have n1_ := Aside0.mk (Kd.S_lower (Kd.S_new' ho0 (Kd.S_lt (by (with_reducible repeat (first | apply Kd.S_alloc | apply Kd.S_drewN | apply Kd.S_drew)); exact HO181.out))) (below_size (by repeat (first | (with_reducible first | exact HB.out | apply below_alloc | apply pw_below_drewN | apply below_drew1) | exact HB.out)))); have n2_ := Aside0.mk (below_step (by repeat (first | (with_reducible first | exact HB.out | apply below_alloc | apply pw_below_drewN | apply below_drew1) | exact HB.out)) hb); clear HO181; clear HB; have HO181 := n0_; have HO195 := n1_; have HB := n2_; clear n0_ n1_ n2_; (try clear hb); (try clear hb2); (try clear hk); (try clear hi); (try clear ho0)) | ((with_reducible refine gate_callee (f := 9) rfl ?_); refine goesL_ (some 92) rfl rfl Try.func9 (by kernel_rfl) rfl #[.string (((((⟨#[32]⟩ : ByteArray) ++ x5_1) ++ (⟨#[120, 60, 33, 45, 45, 32, 121, 32, 45, 45, 62, 122]⟩ : ByteArray)) ++ x6_1) ++ (⟨#[10]⟩ : ByteArray))] rfl (by (try simp only [List.map_toArray, List.map_cons, List.map_nil]); first | done | rfl | (simp only [List.length_drop, List.length_take]; rfl)) ?_; (with_reducible refine (element_Parse.calls (((((⟨#[32]⟩ : ByteArray) ++ x5_1) ++ (⟨#[120, 60, 33, 45, 45, 32, 121, 32, 45, 45, 62, 122]⟩ : ByteArray)) ++ x6_1) ++ (⟨#[10]⟩ : ByteArray)) t196 t197 _ ?side1 A43.out).mono ?_); (case side1 => exact Glob.step HG.out (by repeat (first | (with_reducible first | exact HB.out | apply below_alloc | apply pw_below_drewN | apply below_drew1) | exact HB.out))); rintro e w51 ⟨v198, rfl, ho0, hb⟩; refine ⟨_, rfl, ?_⟩; have n0_ := Aside0.mk (Kd.S_elder' (by (with_reducible repeat (first | apply Kd.S_alloc | apply Kd.S_drewN | apply Kd.S_drew)); exact HO181.out) (Kd.S_base ho0) hb); have n1_ := Aside0.mk (Kd.S_elder' (by (with_reducible repeat (first | apply Kd.S_alloc | apply Kd.S_drewN | apply Kd.S_drew)); exact HO195.out) (Kd.S_base ho0) hb); have n2_ := Aside0.mk (Kd.S_lower (Kd.S_new' (Kd.S_new' ho0 (Kd.S_lt (by (with_reducible repeat (first | apply Kd.S_alloc | apply Kd.S_drewN | apply Kd.S_drew)); exact HO181.out))) (Kd.S_lt (by (with_reducible repeat (first | apply Kd.S_alloc | apply Kd.S_drewN | apply Kd.S_drew)); exact HO195.out))) (below_size (by repeat (first | (with_reducible first | exact HB.out | apply below_alloc | apply pw_below_drewN | apply below_drew1) | exact HB.out)))); have n3_ := Aside0.mk (below_step (by repeat (first | (with_reducible first | exact HB.out | apply below_alloc | apply pw_below_drewN | apply below_drew1) | exact HB.out)) hb); clear HO181; clear HO195; clear HB; have HO181 := n0_; have HO195 := n1_; have HO199 := n2_; have HB := n3_; clear n0_ n1_ n2_ n3_; (try clear hb); (try clear hb2); (try clear hk); (try clear hi); (try clear ho0)) | ((with_reducible refine gate_callee (f := 8) rfl ?_); refine goesL_ (some 95) rfl rfl Try.func8 (by kernel_rfl) rfl #[] rfl (by (try simp only [List.map_toArray, List.map_cons, List.map_nil]); first | done | rfl | (simp only [List.length_drop, List.length_take]; rfl)) ?_; (with_reducible refine (newellaw03_awake.calls k1  true _ ?side1 A44.out).mono ?_); (case side1 => exact Glob.step HG.out (by repeat (first | (with_reducible first | exact HB.out | apply below_alloc | apply pw_below_drewN | apply below_drew1) | exact HB.out))); rintro e w52 ⟨rfl, hb⟩; refine ⟨_, rfl, ?_⟩; have n0_ := Aside0.mk (Kd.S_below (by (with_reducible repeat (first | apply Kd.S_alloc | apply Kd.S_drewN | apply Kd.S_drew)); exact HO181.out) hb); have n1_ := Aside0.mk (Kd.S_below (by (with_reducible repeat (first | apply Kd.S_alloc | apply Kd.S_drewN | apply Kd.S_drew)); exact HO195.out) hb); have n2_ := Aside0.mk (Kd.S_below (by (with_reducible repeat (first | apply Kd.S_alloc | apply Kd.S_drewN | apply Kd.S_drew)); exact HO199.out) hb); have n3_ := Aside0.mk (below_step (by repeat (first | (with_reducible first | exact HB.out | apply below_alloc | apply pw_below_drewN | apply below_drew1) | exact HB.out)) hb); clear HO181; clear HO195; clear HO199; clear HB; have HO181 := n0_; have HO195 := n1_; have HO199 := n2_; have HB := n3_; clear n0_ n1_ n2_ n3_; (try clear hb); (try clear hb2); (try clear hk); (try clear hi); obtain ⟨Ao53, co53, eo53⟩ := Kd.S_slice HO181.out; subst eo53))
                 go_ret
                 exact ⟨by first | rfl | (simp [errW_none, errW_some] <;> rfl) | (simp [*, errW_none, errW_some] <;> rfl), by repeat (first | (with_reducible first | exact HB.out | apply below_alloc | apply pw_below_drewN | apply below_drew1) | exact HB.out)⟩
                ·rw [if_neg c48] at H
                 have c48b0 : (t193 == 6) = false := beq_eq_false_iff_ne.mpr c48
                 have c48b1 : (t193 != 6) = true := bne_iff_ne.mpr c48
                 exfalso
                 obtain rfl := Option.some.inj H
                 exact absurd hr_ (by decide)
               ·rw [if_neg c47] at H
                have c47b0 : ((t178.length : Int) == (wrap64 (1 + (wrap64 (Int.tmod (IntKind.u64.wrap (a0)) 25))))) = false := beq_eq_false_iff_ne.mpr c47
                have c47b1 : ((t178.length : Int) != (wrap64 (1 + (wrap64 (Int.tmod (IntKind.u64.wrap (a0)) 25))))) = true := bne_iff_ne.mpr c47
                exfalso
                obtain rfl := Option.some.inj H
                exact absurd hr_ (by decide)
              ·rw [if_neg c46] at H
               have c46b0 : (t179 == 0) = false := beq_eq_false_iff_ne.mpr c46
               have c46b1 : (t179 != 0) = true := bne_iff_ne.mpr c46
               exfalso
               obtain rfl := Option.some.inj H
               exact absurd hr_ (by decide)
             ·replace c45 := Bool.eq_false_iff.mpr c45
              subst c45
              have H1 : (some false) = some r := by rw [if_neg (show ¬ (false = true) by decide)] at H; exact H
              clear H
              have H := H1
              clear H1
              exfalso
              obtain rfl := Option.some.inj H
              exact absurd hr_ (by decide)
            ·rw [if_neg c42] at H
             exact absurd H (by simp)
           ·rw [if_neg c41] at H
            exact absurd H (by simp)
          ·rw [if_neg c40] at H
           exact absurd H (by simp)
         ·rw [if_neg c39] at H
          exact absurd H (by simp)
        ·rw [if_neg c37] at H
         have c37b0 : ((Int.tmod (IntKind.u64.wrap (a1)) 4) == 1) = false := beq_eq_false_iff_ne.mpr c37
         have c37b1 : ((Int.tmod (IntKind.u64.wrap (a1)) 4) != 1) = true := bne_iff_ne.mpr c37
         by_cases c54 : (Int.tmod (IntKind.u64.wrap (a1)) 4) = 2
         ·rw [if_pos c54] at H
          have c54b0 : ((Int.tmod (IntKind.u64.wrap (a1)) 4) == 2) = true := beq_iff_eq.mpr c54
          have c54b1 : ((Int.tmod (IntKind.u64.wrap (a1)) 4) != 2) = false := bne_eq_false_iff_eq.mpr c54
          clear c54
          obtain ⟨ji55, hji55⟩ : ∃ j_ : Int, (wrap64 ((x6_1.size : Int) - 4)) = j_ := ⟨_, rfl⟩
          replace H : (if 0 ≤ (ji55) then (if (ji55) ≤ (x6_1.size : Int) then (if x5_1.size + (x6_1.extract 0 ((ji55) : Int).toNat).size ≤ 9223372036854775807 then (if (x5_1 ++ (x6_1.extract 0 ((ji55) : Int).toNat)).size + 4 ≤ 9223372036854775807 then ((element_Parse.f ((x5_1 ++ (x6_1.extract 0 ((ji55) : Int).toNat)) ++ (⟨#[60, 47, 98, 62]⟩ : ByteArray))).bind fun bt201 => (if 1 + x5_1.size ≤ 9223372036854775807 then (if ((⟨#[32]⟩ : ByteArray) ++ x5_1).size + 12 ≤ 9223372036854775807 then (if (((⟨#[32]⟩ : ByteArray) ++ x5_1) ++ (⟨#[120, 60, 33, 45, 45, 32, 121, 32, 45, 45, 62, 122]⟩ : ByteArray)).size + x6_1.size ≤ 9223372036854775807 then (if ((((⟨#[32]⟩ : ByteArray) ++ x5_1) ++ (⟨#[120, 60, 33, 45, 45, 32, 121, 32, 45, 45, 62, 122]⟩ : ByteArray)) ++ x6_1).size + 1 ≤ 9223372036854775807 then ((element_Parse.f (((((⟨#[32]⟩ : ByteArray) ++ x5_1) ++ (⟨#[120, 60, 33, 45, 45, 32, 121, 32, 45, 45, 62, 122]⟩ : ByteArray)) ++ x6_1) ++ (⟨#[10]⟩ : ByteArray))).bind fun bt205 => ((newellaw03_awake.f k1).bind fun t209 => (if t209 = true then (if t179 = 0 then (if (t178.length : Int) = (wrap64 (1 + (wrap64 (Int.tmod (IntKind.u64.wrap (a0)) 25)))) then (if bt201.2 = 6 then (some (bt205.2 == 0)) else (some false)) else (some false)) else (some false)) else (some false)))) else (none)) else (none)) else (none)) else (none))) else (none)) else (none)) else (none)) else (none)) = some r := by first | (rw [hji55] at H; exact H) | (simp only [hji55] at H ⊢; exact H)
          (try rw [hji55] at A7)
          have hji55w : (IntKind.i64.wrap ((x6_1.size : Int) - 4)) = ji55 := (i64_w _).trans hji55
          by_cases c56 : 0 ≤ (ji55)
          ·rw [if_pos c56] at H
           have c56b0 := eq_true c56
           have c56b1 : decide (0 ≤ (ji55)) = true := decide_eq_true c56
           clear c56
           by_cases c57 : (ji55) ≤ (x6_1.size : Int)
           ·rw [if_pos c57] at H
            have c57b0 := eq_true c57
            have c57b1 : decide ((ji55) ≤ (x6_1.size : Int)) = true := decide_eq_true c57
            clear c57
            by_cases c58 : x5_1.size + (x6_1.extract 0 ((ji55) : Int).toNat).size ≤ 9223372036854775807
            ·rw [if_pos c58] at H
             have c58b0 := eq_true c58
             have c58b1 : decide (x5_1.size + (x6_1.extract 0 ((ji55) : Int).toNat).size ≤ 9223372036854775807) = true := decide_eq_true c58
             try have c58b2 : (9223372036854775807 < x5_1.size + (x6_1.extract 0 ((ji55) : Int).toNat).size) = False := eq_false (Nat.not_lt.2 c58)
             try have c58q : (9223372036854775807 < x5_1.size + (((ji55) : Int).toNat - 0)) = False := eq_false (by have z_ := c58; have y_ : ((ji55) : Int) ≤ ((x6_1).size : Int) := of_decide_eq_true (by assumption); simp only [ByteArray.size_extract] at z_; omega)
             by_cases c59 : (x5_1 ++ (x6_1.extract 0 ((ji55) : Int).toNat)).size + 4 ≤ 9223372036854775807
             ·rw [if_pos c59] at H
              have c59b0 := eq_true c59
              have c59b1 : decide ((x5_1 ++ (x6_1.extract 0 ((ji55) : Int).toNat)).size + 4 ≤ 9223372036854775807) = true := decide_eq_true c59
              try have c59b2 : (9223372036854775807 < (x5_1 ++ (x6_1.extract 0 ((ji55) : Int).toNat)).size + 4) = False := eq_false (Nat.not_lt.2 c59)
              have c59n : (x5_1.size + (x6_1.extract 0 ((ji55) : Int).toNat).size) + 4 ≤ 9223372036854775807 := by have z_ := c59; simp only [ByteArray.size_append] at z_; exact z_
              have c59m : (9223372036854775807 < (x5_1.size + (x6_1.extract 0 ((ji55) : Int).toNat).size) + 4) = False := eq_false (Nat.not_lt.2 c59n)
              try have c59q : (9223372036854775807 < x5_1.size + (((ji55) : Int).toNat) + 4) = False := eq_false (by have z_ := c59n; have y_ : ((ji55) : Int) ≤ ((x6_1).size : Int) := of_decide_eq_true (by assumption); simp only [ByteArray.size_extract] at z_; omega)
              clear c59 c59b0 c59b1
              try clear c59b2
              replace H := Option.bind_eq_some_iff.mp H
              obtain ⟨⟨t201, t202⟩, A600, H⟩ := H
              replace H : (if 1 + x5_1.size ≤ 9223372036854775807 then (if ((⟨#[32]⟩ : ByteArray) ++ x5_1).size + 12 ≤ 9223372036854775807 then (if (((⟨#[32]⟩ : ByteArray) ++ x5_1) ++ (⟨#[120, 60, 33, 45, 45, 32, 121, 32, 45, 45, 62, 122]⟩ : ByteArray)).size + x6_1.size ≤ 9223372036854775807 then (if ((((⟨#[32]⟩ : ByteArray) ++ x5_1) ++ (⟨#[120, 60, 33, 45, 45, 32, 121, 32, 45, 45, 62, 122]⟩ : ByteArray)) ++ x6_1).size + 1 ≤ 9223372036854775807 then ((element_Parse.f (((((⟨#[32]⟩ : ByteArray) ++ x5_1) ++ (⟨#[120, 60, 33, 45, 45, 32, 121, 32, 45, 45, 62, 122]⟩ : ByteArray)) ++ x6_1) ++ (⟨#[10]⟩ : ByteArray))).bind fun bt205 => ((newellaw03_awake.f k1).bind fun t209 => (if t209 = true then (if t179 = 0 then (if (t178.length : Int) = (wrap64 (1 + (wrap64 (Int.tmod (IntKind.u64.wrap (a0)) 25)))) then (if t202 = 6 then (some (bt205.2 == 0)) else (some false)) else (some false)) else (some false)) else (some false)))) else (none)) else (none)) else (none)) else (none)) = some r := H
              have A60 := Aside0.mk A600
              clear A600
              by_cases c61 : 1 + x5_1.size ≤ 9223372036854775807
              ·rw [if_pos c61] at H
               have c61b0 := eq_true c61
               have c61b1 : decide (1 + x5_1.size ≤ 9223372036854775807) = true := decide_eq_true c61
               try have c61b2 : (9223372036854775807 < 1 + x5_1.size) = False := eq_false (Nat.not_lt.2 c61)
               by_cases c62 : ((⟨#[32]⟩ : ByteArray) ++ x5_1).size + 12 ≤ 9223372036854775807
               ·rw [if_pos c62] at H
                have c62b0 := eq_true c62
                have c62b1 : decide (((⟨#[32]⟩ : ByteArray) ++ x5_1).size + 12 ≤ 9223372036854775807) = true := decide_eq_true c62
                try have c62b2 : (9223372036854775807 < ((⟨#[32]⟩ : ByteArray) ++ x5_1).size + 12) = False := eq_false (Nat.not_lt.2 c62)
                have c62n : (1 + x5_1.size) + 12 ≤ 9223372036854775807 := by have z_ := c62; simp only [ByteArray.size_append] at z_; exact z_
                have c62m : (9223372036854775807 < (1 + x5_1.size) + 12) = False := eq_false (Nat.not_lt.2 c62n)
                clear c62 c62b0 c62b1
                try clear c62b2
                by_cases c63 : (((⟨#[32]⟩ : ByteArray) ++ x5_1) ++ (⟨#[120, 60, 33, 45, 45, 32, 121, 32, 45, 45, 62, 122]⟩ : ByteArray)).size + x6_1.size ≤ 9223372036854775807
                ·rw [if_pos c63] at H
                 have c63b0 := eq_true c63
                 have c63b1 : decide ((((⟨#[32]⟩ : ByteArray) ++ x5_1) ++ (⟨#[120, 60, 33, 45, 45, 32, 121, 32, 45, 45, 62, 122]⟩ : ByteArray)).size + x6_1.size ≤ 9223372036854775807) = true := decide_eq_true c63
                 try have c63b2 : (9223372036854775807 < (((⟨#[32]⟩ : ByteArray) ++ x5_1) ++ (⟨#[120, 60, 33, 45, 45, 32, 121, 32, 45, 45, 62, 122]⟩ : ByteArray)).size + x6_1.size) = False := eq_false (Nat.not_lt.2 c63)
                 have c63n : ((1 + x5_1.size) + 12) + x6_1.size ≤ 9223372036854775807 := by have z_ := c63; simp only [ByteArray.size_append] at z_; exact z_
                 have c63m : (9223372036854775807 < ((1 + x5_1.size) + 12) + x6_1.size) = False := eq_false (Nat.not_lt.2 c63n)
                 clear c63 c63b0 c63b1
                 try clear c63b2
                 by_cases c64 : ((((⟨#[32]⟩ : ByteArray) ++ x5_1) ++ (⟨#[120, 60, 33, 45, 45, 32, 121, 32, 45, 45, 62, 122]⟩ : ByteArray)) ++ x6_1).size + 1 ≤ 9223372036854775807
                 ·rw [if_pos c64] at H
                  have c64b0 := eq_true c64
                  have c64b1 : decide (((((⟨#[32]⟩ : ByteArray) ++ x5_1) ++ (⟨#[120, 60, 33, 45, 45, 32, 121, 32, 45, 45, 62, 122]⟩ : ByteArray)) ++ x6_1).size + 1 ≤ 9223372036854775807) = true := decide_eq_true c64
                  try have c64b2 : (9223372036854775807 < ((((⟨#[32]⟩ : ByteArray) ++ x5_1) ++ (⟨#[120, 60, 33, 45, 45, 32, 121, 32, 45, 45, 62, 122]⟩ : ByteArray)) ++ x6_1).size + 1) = False := eq_false (Nat.not_lt.2 c64)
                  have c64n : (((1 + x5_1.size) + 12) + x6_1.size) + 1 ≤ 9223372036854775807 := by have z_ := c64; simp only [ByteArray.size_append] at z_; exact z_
                  have c64m : (9223372036854775807 < (((1 + x5_1.size) + 12) + x6_1.size) + 1) = False := eq_false (Nat.not_lt.2 c64n)
                  clear c64 c64b0 c64b1
                  try clear c64b2
                  replace H := Option.bind_eq_some_iff.mp H
                  obtain ⟨⟨t205, t206⟩, A650, H⟩ := H
                  replace H : ((newellaw03_awake.f k1).bind fun t209 => (if t209 = true then (if t179 = 0 then (if (t178.length : Int) = (wrap64 (1 + (wrap64 (Int.tmod (IntKind.u64.wrap (a0)) 25)))) then (if t202 = 6 then (some (t206 == 0)) else (some false)) else (some false)) else (some false)) else (some false))) = some r := H
                  have A65 := Aside0.mk A650
                  clear A650
                  replace H := Option.bind_eq_some_iff.mp H
                  obtain ⟨t209, A660, H⟩ := H
                  replace H : (if t209 = true then (if t179 = 0 then (if (t178.length : Int) = (wrap64 (1 + (wrap64 (Int.tmod (IntKind.u64.wrap (a0)) 25)))) then (if t202 = 6 then (some (t206 == 0)) else (some false)) else (some false)) else (some false)) else (some false)) = some r := H
                  have A66 := Aside0.mk A660
                  clear A660
                  by_cases c67 : t209 = true
                  ·subst c67
                   have H1 : (if t179 = 0 then (if (t178.length : Int) = (wrap64 (1 + (wrap64 (Int.tmod (IntKind.u64.wrap (a0)) 25)))) then (if t202 = 6 then (some (t206 == 0)) else (some false)) else (some false)) else (some false)) = some r := by rw [if_pos rfl] at H; exact H
                   clear H
                   have H := H1
                   clear H1
                   by_cases c68 : t179 = 0
                   ·rw [if_pos c68] at H
                    have c68b0 : (t179 == 0) = true := beq_iff_eq.mpr c68
                    have c68b1 : (t179 != 0) = false := bne_eq_false_iff_eq.mpr c68
                    clear c68
                    by_cases c69 : (t178.length : Int) = (wrap64 (1 + (wrap64 (Int.tmod (IntKind.u64.wrap (a0)) 25))))
                    ·rw [if_pos c69] at H
                     have c69b0 : ((t178.length : Int) == (wrap64 (1 + (wrap64 (Int.tmod (IntKind.u64.wrap (a0)) 25))))) = true := beq_iff_eq.mpr c69
                     have c69b1 : ((t178.length : Int) != (wrap64 (1 + (wrap64 (Int.tmod (IntKind.u64.wrap (a0)) 25))))) = false := bne_eq_false_iff_eq.mpr c69
                     clear c69
                     by_cases c70 : t202 = 6
                     ·rw [if_pos c70] at H
                      have c70b0 : (t202 == 6) = true := beq_iff_eq.mpr c70
                      have c70b1 : (t202 != 6) = false := bne_eq_false_iff_eq.mpr c70
                      clear c70
                      obtain rfl := Option.some.inj H
                      go_wp2_with (first | ((with_reducible refine gate_callee (f := 9) rfl ?_); refine goesL_ (some 33) rfl rfl Try.func9 (by kernel_rfl) rfl #[.string (x5_1 ++ x6_1)] rfl (by (try simp only [List.map_toArray, List.map_cons, List.map_nil]); first | done | rfl | (simp only [List.length_drop, List.length_take]; rfl)) ?_; (with_reducible refine (element_Parse.calls (x5_1 ++ x6_1) t178 t179 _ ?side1 A7.out).mono ?_); (case side1 => exact Glob.step HG.out (by repeat (first | (with_reducible first | exact HB.out | apply below_alloc | apply pw_below_drewN | apply below_drew1) | exact HB.out))); rintro e w71 ⟨v180, rfl, ho0, hb⟩; refine ⟨_, rfl, ?_⟩; have n0_ := Aside0.mk (Kd.S_lower ho0 (below_size (by repeat (first | (with_reducible first | exact HB.out | apply below_alloc | apply pw_below_drewN | apply below_drew1) | exact HB.out)))); have n1_ := Aside0.mk (below_step (by repeat (first | (with_reducible first | exact HB.out | apply below_alloc | apply pw_below_drewN | apply below_drew1) | exact HB.out)) hb); clear HB; have HO181 := n0_; have HB := n1_; clear n0_ n1_; (try clear hb); (try clear hb2); (try clear hk); (try clear hi); (try clear ho0)) | ((with_reducible refine gate_callee (f := 9) rfl ?_); refine goesL_ (some 82) rfl rfl Try.func9 (by kernel_rfl) rfl #[.string ((x5_1 ++ (x6_1.extract 0 ((ji55) : Int).toNat)) ++ (⟨#[60, 47, 98, 62]⟩ : ByteArray))] rfl (by (try simp only [List.map_toArray, List.map_cons, List.map_nil]); first | done | (simp only [hji55]; rfl) | rfl | (simp only [List.length_drop, List.length_take]; rfl)) ?_; (with_reducible refine (element_Parse.calls ((x5_1 ++ (x6_1.extract 0 ((ji55) : Int).toNat)) ++ (⟨#[60, 47, 98, 62]⟩ : ByteArray)) t201 t202 _ ?side1 A60.out).mono ?_); (case side1 => exact Glob.step HG.out (by repeat (first | (with_reducible first | exact HB.out | apply below_alloc | apply pw_below_drewN | apply below_drew1) | exact HB.out))); rintro e w72 ⟨v203, rfl, ho0, hb⟩; refine ⟨_, rfl, ?_⟩; have n0_ := Aside0.mk (Kd.S_elder' (by (with_reducible repeat (first | apply Kd.S_alloc | apply Kd.S_drewN | apply Kd.S_drew)); exact HO181.out) (Kd.S_base ho0) hb); have n1_ := Aside0.mk (Kd.S_lower (Kd.S_new' ho0 (Kd.S_lt (by (with_reducible repeat (first | apply Kd.S_alloc | apply Kd.S_drewN | apply Kd.S_drew)); exact HO181.out))) (below_size (by repeat (first | (with_reducible first | exact HB.out | apply below_alloc | apply pw_below_drewN | apply below_drew1) | exact HB.out)))); have n2_ := Aside0.mk (below_step (by repeat (first | (with_reducible first | exact HB.out | apply below_alloc | apply pw_below_drewN | apply below_drew1) | exact HB.out)) hb); clear HO181; clear HB; have HO181 := n0_; have HO204 := n1_; have HB := n2_; clear n0_ n1_ n2_; (try clear hb); (try clear hb2); (try clear hk); (try clear hi); (try clear ho0)) | ((with_reducible refine gate_callee (f := 9) rfl ?_); refine goesL_ (some 92) rfl rfl Try.func9 (by kernel_rfl) rfl #[.string (((((⟨#[32]⟩ : ByteArray) ++ x5_1) ++ (⟨#[120, 60, 33, 45, 45, 32, 121, 32, 45, 45, 62, 122]⟩ : ByteArray)) ++ x6_1) ++ (⟨#[10]⟩ : ByteArray))] rfl (by (try simp only [List.map_toArray, List.map_cons, List.map_nil]); first | done | rfl | (simp only [List.length_drop, List.length_take]; rfl)) ?_; (with_reducible refine (element_Parse.calls (((((⟨#[32]⟩ : ByteArray) ++ x5_1) ++ (⟨#[120, 60, 33, 45, 45, 32, 121, 32, 45, 45, 62, 122]⟩ : ByteArray)) ++ x6_1) ++ (⟨#[10]⟩ : ByteArray)) t205 t206 _ ?side1 A65.out).mono ?_); (case side1 => exact Glob.step HG.out (by repeat (first | (with_reducible first | exact HB.out | apply below_alloc | apply pw_below_drewN | apply below_drew1) | exact HB.out))); rintro e w73 ⟨v207, rfl, ho0, hb⟩; refine ⟨_, rfl, ?_⟩; have n0_ := Aside0.mk (Kd.S_elder' (by (with_reducible repeat (first | apply Kd.S_alloc | apply Kd.S_drewN | apply Kd.S_drew)); exact HO181.out) (Kd.S_base ho0) hb); have n1_ := Aside0.mk (Kd.S_elder' (by (with_reducible repeat (first | apply Kd.S_alloc | apply Kd.S_drewN | apply Kd.S_drew)); exact HO204.out) (Kd.S_base ho0) hb); have n2_ := Aside0.mk (Kd.S_lower (Kd.S_new' (Kd.S_new' ho0 (Kd.S_lt (by (with_reducible repeat (first | apply Kd.S_alloc | apply Kd.S_drewN | apply Kd.S_drew)); exact HO181.out))) (Kd.S_lt (by (with_reducible repeat (first | apply Kd.S_alloc | apply Kd.S_drewN | apply Kd.S_drew)); exact HO204.out))) (below_size (by repeat (first | (with_reducible first | exact HB.out | apply below_alloc | apply pw_below_drewN | apply below_drew1) | exact HB.out)))); have n3_ := Aside0.mk (below_step (by repeat (first | (with_reducible first | exact HB.out | apply below_alloc | apply pw_below_drewN | apply below_drew1) | exact HB.out)) hb); clear HO181; clear HO204; clear HB; have HO181 := n0_; have HO204 := n1_; have HO208 := n2_; have HB := n3_; clear n0_ n1_ n2_ n3_; (try clear hb); (try clear hb2); (try clear hk); (try clear hi); (try clear ho0)) | ((with_reducible refine gate_callee (f := 8) rfl ?_); refine goesL_ (some 95) rfl rfl Try.func8 (by kernel_rfl) rfl #[] rfl (by (try simp only [List.map_toArray, List.map_cons, List.map_nil]); first | done | rfl | (simp only [List.length_drop, List.length_take]; rfl)) ?_; (with_reducible refine (newellaw03_awake.calls k1  true _ ?side1 A66.out).mono ?_); (case side1 => exact Glob.step HG.out (by repeat (first | (with_reducible first | exact HB.out | apply below_alloc | apply pw_below_drewN | apply below_drew1) | exact HB.out))); rintro e w74 ⟨rfl, hb⟩; refine ⟨_, rfl, ?_⟩; have n0_ := Aside0.mk (Kd.S_below (by (with_reducible repeat (first | apply Kd.S_alloc | apply Kd.S_drewN | apply Kd.S_drew)); exact HO181.out) hb); have n1_ := Aside0.mk (Kd.S_below (by (with_reducible repeat (first | apply Kd.S_alloc | apply Kd.S_drewN | apply Kd.S_drew)); exact HO204.out) hb); have n2_ := Aside0.mk (Kd.S_below (by (with_reducible repeat (first | apply Kd.S_alloc | apply Kd.S_drewN | apply Kd.S_drew)); exact HO208.out) hb); have n3_ := Aside0.mk (below_step (by repeat (first | (with_reducible first | exact HB.out | apply below_alloc | apply pw_below_drewN | apply below_drew1) | exact HB.out)) hb); clear HO181; clear HO204; clear HO208; clear HB; have HO181 := n0_; have HO204 := n1_; have HO208 := n2_; have HB := n3_; clear n0_ n1_ n2_ n3_; (try clear hb); (try clear hb2); (try clear hk); (try clear hi); obtain ⟨Ao75, co75, eo75⟩ := Kd.S_slice HO181.out; subst eo75))
                      go_ret
                      exact ⟨by first | rfl | (simp [errW_none, errW_some] <;> rfl) | (simp only [← hji55]; first | rfl | (simp [errW_none, errW_some] <;> rfl)) | (simp [*, errW_none, errW_some] <;> rfl), by repeat (first | (with_reducible first | exact HB.out | apply below_alloc | apply pw_below_drewN | apply below_drew1) | exact HB.out)⟩
                     ·rw [if_neg c70] at H
                      have c70b0 : (t202 == 6) = false := beq_eq_false_iff_ne.mpr c70
                      have c70b1 : (t202 != 6) = true := bne_iff_ne.mpr c70
                      exfalso
                      obtain rfl := Option.some.inj H
                      exact absurd hr_ (by decide)
                    ·rw [if_neg c69] at H
                     have c69b0 : ((t178.length : Int) == (wrap64 (1 + (wrap64 (Int.tmod (IntKind.u64.wrap (a0)) 25))))) = false := beq_eq_false_iff_ne.mpr c69
                     have c69b1 : ((t178.length : Int) != (wrap64 (1 + (wrap64 (Int.tmod (IntKind.u64.wrap (a0)) 25))))) = true := bne_iff_ne.mpr c69
                     exfalso
                     obtain rfl := Option.some.inj H
                     exact absurd hr_ (by decide)
                   ·rw [if_neg c68] at H
                    have c68b0 : (t179 == 0) = false := beq_eq_false_iff_ne.mpr c68
                    have c68b1 : (t179 != 0) = true := bne_iff_ne.mpr c68
                    exfalso
                    obtain rfl := Option.some.inj H
                    exact absurd hr_ (by decide)
                  ·replace c67 := Bool.eq_false_iff.mpr c67
                   subst c67
                   have H1 : (some false) = some r := by rw [if_neg (show ¬ (false = true) by decide)] at H; exact H
                   clear H
                   have H := H1
                   clear H1
                   exfalso
                   obtain rfl := Option.some.inj H
                   exact absurd hr_ (by decide)
                 ·rw [if_neg c64] at H
                  exact absurd H (by simp)
                ·rw [if_neg c63] at H
                 exact absurd H (by simp)
               ·rw [if_neg c62] at H
                exact absurd H (by simp)
              ·rw [if_neg c61] at H
               exact absurd H (by simp)
             ·rw [if_neg c59] at H
              exact absurd H (by simp)
            ·rw [if_neg c58] at H
             exact absurd H (by simp)
           ·rw [if_neg c57] at H
            exact absurd H (by simp)
          ·rw [if_neg c56] at H
           exact absurd H (by simp)
         ·rw [if_neg c54] at H
          have c54b0 : ((Int.tmod (IntKind.u64.wrap (a1)) 4) == 2) = false := beq_eq_false_iff_ne.mpr c54
          have c54b1 : ((Int.tmod (IntKind.u64.wrap (a1)) 4) != 2) = true := bne_iff_ne.mpr c54
          replace H := Option.bind_eq_some_iff.mp H
          obtain ⟨⟨t210, t211⟩, A760, H⟩ := H
          replace H : (if 1 + x5_1.size ≤ 9223372036854775807 then (if ((⟨#[32]⟩ : ByteArray) ++ x5_1).size + 12 ≤ 9223372036854775807 then (if (((⟨#[32]⟩ : ByteArray) ++ x5_1) ++ (⟨#[120, 60, 33, 45, 45, 32, 121, 32, 45, 45, 62, 122]⟩ : ByteArray)).size + x6_1.size ≤ 9223372036854775807 then (if ((((⟨#[32]⟩ : ByteArray) ++ x5_1) ++ (⟨#[120, 60, 33, 45, 45, 32, 121, 32, 45, 45, 62, 122]⟩ : ByteArray)) ++ x6_1).size + 1 ≤ 9223372036854775807 then ((element_Parse.f (((((⟨#[32]⟩ : ByteArray) ++ x5_1) ++ (⟨#[120, 60, 33, 45, 45, 32, 121, 32, 45, 45, 62, 122]⟩ : ByteArray)) ++ x6_1) ++ (⟨#[10]⟩ : ByteArray))).bind fun bt214 => ((newellaw03_awake.f k1).bind fun t218 => (if t218 = true then (if t179 = 0 then (if (t178.length : Int) = (wrap64 (1 + (wrap64 (Int.tmod (IntKind.u64.wrap (a0)) 25)))) then (if t211 = 6 then (some (bt214.2 == 0)) else (some false)) else (some false)) else (some false)) else (some false)))) else (none)) else (none)) else (none)) else (none)) = some r := H
          have A76 := Aside0.mk A760
          clear A760
          by_cases c77 : 1 + x5_1.size ≤ 9223372036854775807
          ·rw [if_pos c77] at H
           have c77b0 := eq_true c77
           have c77b1 : decide (1 + x5_1.size ≤ 9223372036854775807) = true := decide_eq_true c77
           try have c77b2 : (9223372036854775807 < 1 + x5_1.size) = False := eq_false (Nat.not_lt.2 c77)
           by_cases c78 : ((⟨#[32]⟩ : ByteArray) ++ x5_1).size + 12 ≤ 9223372036854775807
           ·rw [if_pos c78] at H
            have c78b0 := eq_true c78
            have c78b1 : decide (((⟨#[32]⟩ : ByteArray) ++ x5_1).size + 12 ≤ 9223372036854775807) = true := decide_eq_true c78
            try have c78b2 : (9223372036854775807 < ((⟨#[32]⟩ : ByteArray) ++ x5_1).size + 12) = False := eq_false (Nat.not_lt.2 c78)
            have c78n : (1 + x5_1.size) + 12 ≤ 9223372036854775807 := by have z_ := c78; simp only [ByteArray.size_append] at z_; exact z_
            have c78m : (9223372036854775807 < (1 + x5_1.size) + 12) = False := eq_false (Nat.not_lt.2 c78n)
            clear c78 c78b0 c78b1
            try clear c78b2
            by_cases c79 : (((⟨#[32]⟩ : ByteArray) ++ x5_1) ++ (⟨#[120, 60, 33, 45, 45, 32, 121, 32, 45, 45, 62, 122]⟩ : ByteArray)).size + x6_1.size ≤ 9223372036854775807
            ·rw [if_pos c79] at H
             have c79b0 := eq_true c79
             have c79b1 : decide ((((⟨#[32]⟩ : ByteArray) ++ x5_1) ++ (⟨#[120, 60, 33, 45, 45, 32, 121, 32, 45, 45, 62, 122]⟩ : ByteArray)).size + x6_1.size ≤ 9223372036854775807) = true := decide_eq_true c79
             try have c79b2 : (9223372036854775807 < (((⟨#[32]⟩ : ByteArray) ++ x5_1) ++ (⟨#[120, 60, 33, 45, 45, 32, 121, 32, 45, 45, 62, 122]⟩ : ByteArray)).size + x6_1.size) = False := eq_false (Nat.not_lt.2 c79)
             have c79n : ((1 + x5_1.size) + 12) + x6_1.size ≤ 9223372036854775807 := by have z_ := c79; simp only [ByteArray.size_append] at z_; exact z_
             have c79m : (9223372036854775807 < ((1 + x5_1.size) + 12) + x6_1.size) = False := eq_false (Nat.not_lt.2 c79n)
             clear c79 c79b0 c79b1
             try clear c79b2
             by_cases c80 : ((((⟨#[32]⟩ : ByteArray) ++ x5_1) ++ (⟨#[120, 60, 33, 45, 45, 32, 121, 32, 45, 45, 62, 122]⟩ : ByteArray)) ++ x6_1).size + 1 ≤ 9223372036854775807
             ·rw [if_pos c80] at H
              have c80b0 := eq_true c80
              have c80b1 : decide (((((⟨#[32]⟩ : ByteArray) ++ x5_1) ++ (⟨#[120, 60, 33, 45, 45, 32, 121, 32, 45, 45, 62, 122]⟩ : ByteArray)) ++ x6_1).size + 1 ≤ 9223372036854775807) = true := decide_eq_true c80
              try have c80b2 : (9223372036854775807 < ((((⟨#[32]⟩ : ByteArray) ++ x5_1) ++ (⟨#[120, 60, 33, 45, 45, 32, 121, 32, 45, 45, 62, 122]⟩ : ByteArray)) ++ x6_1).size + 1) = False := eq_false (Nat.not_lt.2 c80)
              have c80n : (((1 + x5_1.size) + 12) + x6_1.size) + 1 ≤ 9223372036854775807 := by have z_ := c80; simp only [ByteArray.size_append] at z_; exact z_
              have c80m : (9223372036854775807 < (((1 + x5_1.size) + 12) + x6_1.size) + 1) = False := eq_false (Nat.not_lt.2 c80n)
              clear c80 c80b0 c80b1
              try clear c80b2
              replace H := Option.bind_eq_some_iff.mp H
              obtain ⟨⟨t214, t215⟩, A810, H⟩ := H
              replace H : ((newellaw03_awake.f k1).bind fun t218 => (if t218 = true then (if t179 = 0 then (if (t178.length : Int) = (wrap64 (1 + (wrap64 (Int.tmod (IntKind.u64.wrap (a0)) 25)))) then (if t211 = 6 then (some (t215 == 0)) else (some false)) else (some false)) else (some false)) else (some false))) = some r := H
              have A81 := Aside0.mk A810
              clear A810
              replace H := Option.bind_eq_some_iff.mp H
              obtain ⟨t218, A820, H⟩ := H
              replace H : (if t218 = true then (if t179 = 0 then (if (t178.length : Int) = (wrap64 (1 + (wrap64 (Int.tmod (IntKind.u64.wrap (a0)) 25)))) then (if t211 = 6 then (some (t215 == 0)) else (some false)) else (some false)) else (some false)) else (some false)) = some r := H
              have A82 := Aside0.mk A820
              clear A820
              by_cases c83 : t218 = true
              ·subst c83
               have H1 : (if t179 = 0 then (if (t178.length : Int) = (wrap64 (1 + (wrap64 (Int.tmod (IntKind.u64.wrap (a0)) 25)))) then (if t211 = 6 then (some (t215 == 0)) else (some false)) else (some false)) else (some false)) = some r := by rw [if_pos rfl] at H; exact H
               clear H
               have H := H1
               clear H1
               by_cases c84 : t179 = 0
               ·rw [if_pos c84] at H
                have c84b0 : (t179 == 0) = true := beq_iff_eq.mpr c84
                have c84b1 : (t179 != 0) = false := bne_eq_false_iff_eq.mpr c84
                clear c84
                by_cases c85 : (t178.length : Int) = (wrap64 (1 + (wrap64 (Int.tmod (IntKind.u64.wrap (a0)) 25))))
                ·rw [if_pos c85] at H
                 have c85b0 : ((t178.length : Int) == (wrap64 (1 + (wrap64 (Int.tmod (IntKind.u64.wrap (a0)) 25))))) = true := beq_iff_eq.mpr c85
                 have c85b1 : ((t178.length : Int) != (wrap64 (1 + (wrap64 (Int.tmod (IntKind.u64.wrap (a0)) 25))))) = false := bne_eq_false_iff_eq.mpr c85
                 clear c85
                 by_cases c86 : t211 = 6
                 ·rw [if_pos c86] at H
                  have c86b0 : (t211 == 6) = true := beq_iff_eq.mpr c86
                  have c86b1 : (t211 != 6) = false := bne_eq_false_iff_eq.mpr c86
                  clear c86
                  obtain rfl := Option.some.inj H
                  go_wp2_with (first | ((with_reducible refine gate_callee (f := 9) rfl ?_); refine goesL_ (some 33) rfl rfl Try.func9 (by kernel_rfl) rfl #[.string (x5_1 ++ x6_1)] rfl (by (try simp only [List.map_toArray, List.map_cons, List.map_nil]); first | done | rfl | (simp only [List.length_drop, List.length_take]; rfl)) ?_; (with_reducible refine (element_Parse.calls (x5_1 ++ x6_1) t178 t179 _ ?side1 A7.out).mono ?_); (case side1 => exact Glob.step HG.out (by repeat (first | (with_reducible first | exact HB.out | apply below_alloc | apply pw_below_drewN | apply below_drew1) | exact HB.out))); rintro e w87 ⟨v180, rfl, ho0, hb⟩; refine ⟨_, rfl, ?_⟩; have n0_ := Aside0.mk (Kd.S_lower ho0 (below_size (by repeat (first | (with_reducible first | exact HB.out | apply below_alloc | apply pw_below_drewN | apply below_drew1) | exact HB.out)))); have n1_ := Aside0.mk (below_step (by repeat (first | (with_reducible first | exact HB.out | apply below_alloc | apply pw_below_drewN | apply below_drew1) | exact HB.out)) hb); clear HB; have HO181 := n0_; have HB := n1_; clear n0_ n1_; (try clear hb); (try clear hb2); (try clear hk); (try clear hi); (try clear ho0)) | ((with_reducible refine gate_callee (f := 9) rfl ?_); refine goesL_ (some 82) rfl rfl Try.func9 (by kernel_rfl) rfl #[.string ((x5_1 ++ x6_1) ++ (⟨#[60, 47, 97, 62]⟩ : ByteArray))] rfl (by (try simp only [List.map_toArray, List.map_cons, List.map_nil]); first | done | rfl | (simp only [List.length_drop, List.length_take]; rfl)) ?_; (with_reducible refine (element_Parse.calls ((x5_1 ++ x6_1) ++ (⟨#[60, 47, 97, 62]⟩ : ByteArray)) t210 t211 _ ?side1 A76.out).mono ?_); (case side1 => exact Glob.step HG.out (by repeat (first | (with_reducible first | exact HB.out | apply below_alloc | apply pw_below_drewN | apply below_drew1) | exact HB.out))); rintro e w88 ⟨v212, rfl, ho0, hb⟩; refine ⟨_, rfl, ?_⟩; have n0_ := Aside0.mk (Kd.S_elder' (by (with_reducible repeat (first | apply Kd.S_alloc | apply Kd.S_drewN | apply Kd.S_drew)); exact HO181.out) (Kd.S_base ho0) hb); have n1_ := Aside0.mk (Kd.S_lower (Kd.S_new' ho0 (Kd.S_lt (by (with_reducible repeat (first | apply Kd.S_alloc | apply Kd.S_drewN | apply Kd.S_drew)); exact HO181.out))) (below_size (by repeat (first | (with_reducible first | exact HB.out | apply below_alloc | apply pw_below_drewN | apply below_drew1) | exact HB.out)))); have n2_ := Aside0.mk (below_step (by repeat (first | (with_reducible first | exact HB.out | apply below_alloc | apply pw_below_drewN | apply below_drew1) | exact HB.out)) hb); clear HO181; clear HB; have HO181 := n0_; have HO213 := n1_; have HB := n2_; clear n0_ n1_ n2_; (try clear hb); (try clear hb2); (try clear hk); (try clear hi); (try clear ho0)) | ((with_reducible refine gate_callee (f := 9) rfl ?_); refine goesL_ (some 92) rfl rfl Try.func9 (by kernel_rfl) rfl #[.string (((((⟨#[32]⟩ : ByteArray) ++ x5_1) ++ (⟨#[120, 60, 33, 45, 45, 32, 121, 32, 45, 45, 62, 122]⟩ : ByteArray)) ++ x6_1) ++ (⟨#[10]⟩ : ByteArray))] rfl (by (try simp only [List.map_toArray, List.map_cons, List.map_nil]); first | done | rfl | (simp only [List.length_drop, List.length_take]; rfl)) ?_; (with_reducible refine (element_Parse.calls (((((⟨#[32]⟩ : ByteArray) ++ x5_1) ++ (⟨#[120, 60, 33, 45, 45, 32, 121, 32, 45, 45, 62, 122]⟩ : ByteArray)) ++ x6_1) ++ (⟨#[10]⟩ : ByteArray)) t214 t215 _ ?side1 A81.out).mono ?_); (case side1 => exact Glob.step HG.out (by repeat (first | (with_reducible first | exact HB.out | apply below_alloc | apply pw_below_drewN | apply below_drew1) | exact HB.out))); rintro e w89 ⟨v216, rfl, ho0, hb⟩; refine ⟨_, rfl, ?_⟩; have n0_ := Aside0.mk (Kd.S_elder' (by (with_reducible repeat (first | apply Kd.S_alloc | apply Kd.S_drewN | apply Kd.S_drew)); exact HO181.out) (Kd.S_base ho0) hb); have n1_ := Aside0.mk (Kd.S_elder' (by (with_reducible repeat (first | apply Kd.S_alloc | apply Kd.S_drewN | apply Kd.S_drew)); exact HO213.out) (Kd.S_base ho0) hb); have n2_ := Aside0.mk (Kd.S_lower (Kd.S_new' (Kd.S_new' ho0 (Kd.S_lt (by (with_reducible repeat (first | apply Kd.S_alloc | apply Kd.S_drewN | apply Kd.S_drew)); exact HO181.out))) (Kd.S_lt (by (with_reducible repeat (first | apply Kd.S_alloc | apply Kd.S_drewN | apply Kd.S_drew)); exact HO213.out))) (below_size (by repeat (first | (with_reducible first | exact HB.out | apply below_alloc | apply pw_below_drewN | apply below_drew1) | exact HB.out)))); have n3_ := Aside0.mk (below_step (by repeat (first | (with_reducible first | exact HB.out | apply below_alloc | apply pw_below_drewN | apply below_drew1) | exact HB.out)) hb); clear HO181; clear HO213; clear HB; have HO181 := n0_; have HO213 := n1_; have HO217 := n2_; have HB := n3_; clear n0_ n1_ n2_ n3_; (try clear hb); (try clear hb2); (try clear hk); (try clear hi); (try clear ho0)) | ((with_reducible refine gate_callee (f := 8) rfl ?_); refine goesL_ (some 95) rfl rfl Try.func8 (by kernel_rfl) rfl #[] rfl (by (try simp only [List.map_toArray, List.map_cons, List.map_nil]); first | done | rfl | (simp only [List.length_drop, List.length_take]; rfl)) ?_; (with_reducible refine (newellaw03_awake.calls k1  true _ ?side1 A82.out).mono ?_); (case side1 => exact Glob.step HG.out (by repeat (first | (with_reducible first | exact HB.out | apply below_alloc | apply pw_below_drewN | apply below_drew1) | exact HB.out))); rintro e w90 ⟨rfl, hb⟩; refine ⟨_, rfl, ?_⟩; have n0_ := Aside0.mk (Kd.S_below (by (with_reducible repeat (first | apply Kd.S_alloc | apply Kd.S_drewN | apply Kd.S_drew)); exact HO181.out) hb); have n1_ := Aside0.mk (Kd.S_below (by (with_reducible repeat (first | apply Kd.S_alloc | apply Kd.S_drewN | apply Kd.S_drew)); exact HO213.out) hb); have n2_ := Aside0.mk (Kd.S_below (by (with_reducible repeat (first | apply Kd.S_alloc | apply Kd.S_drewN | apply Kd.S_drew)); exact HO217.out) hb); have n3_ := Aside0.mk (below_step (by repeat (first | (with_reducible first | exact HB.out | apply below_alloc | apply pw_below_drewN | apply below_drew1) | exact HB.out)) hb); clear HO181; clear HO213; clear HO217; clear HB; have HO181 := n0_; have HO213 := n1_; have HO217 := n2_; have HB := n3_; clear n0_ n1_ n2_ n3_; (try clear hb); (try clear hb2); (try clear hk); (try clear hi); obtain ⟨Ao91, co91, eo91⟩ := Kd.S_slice HO181.out; subst eo91))
                  go_ret
                  exact ⟨by first | rfl | (simp [errW_none, errW_some] <;> rfl) | (simp [*, errW_none, errW_some] <;> rfl), by repeat (first | (with_reducible first | exact HB.out | apply below_alloc | apply pw_below_drewN | apply below_drew1) | exact HB.out)⟩
                 ·rw [if_neg c86] at H
                  have c86b0 : (t211 == 6) = false := beq_eq_false_iff_ne.mpr c86
                  have c86b1 : (t211 != 6) = true := bne_iff_ne.mpr c86
                  exfalso
                  obtain rfl := Option.some.inj H
                  exact absurd hr_ (by decide)
                ·rw [if_neg c85] at H
                 have c85b0 : ((t178.length : Int) == (wrap64 (1 + (wrap64 (Int.tmod (IntKind.u64.wrap (a0)) 25))))) = false := beq_eq_false_iff_ne.mpr c85
                 have c85b1 : ((t178.length : Int) != (wrap64 (1 + (wrap64 (Int.tmod (IntKind.u64.wrap (a0)) 25))))) = true := bne_iff_ne.mpr c85
                 exfalso
                 obtain rfl := Option.some.inj H
                 exact absurd hr_ (by decide)
               ·rw [if_neg c84] at H
                have c84b0 : (t179 == 0) = false := beq_eq_false_iff_ne.mpr c84
                have c84b1 : (t179 != 0) = true := bne_iff_ne.mpr c84
                exfalso
                obtain rfl := Option.some.inj H
                exact absurd hr_ (by decide)
              ·replace c83 := Bool.eq_false_iff.mpr c83
               subst c83
               have H1 : (some false) = some r := by rw [if_neg (show ¬ (false = true) by decide)] at H; exact H
               clear H
               have H := H1
               clear H1
               exfalso
               obtain rfl := Option.some.inj H
               exact absurd hr_ (by decide)
             ·rw [if_neg c80] at H
              exact absurd H (by simp)
            ·rw [if_neg c79] at H
             exact absurd H (by simp)
           ·rw [if_neg c78] at H
            exact absurd H (by simp)
          ·rw [if_neg c77] at H
           exact absurd H (by simp)
      ·rw [if_neg c15] at H
       exact absurd H (by simp)
    ·rw [if_neg c6] at H
     exact absurd H (by simp)

end Go.Proofs.Ytkoogebfdinbnaa.Q

namespace Go.Proofs.Ytkoogebfdinbnaa.Q
open Go.RowKit Go.Proofs.YtkoogebfdinbnaaW.PrintWords Go.Proofs.YtkoogebfdinbnaaW.PrintLast Go.Proofs.YtkoogebfdinbnaaW.Own Go.Proofs.YtkoogebfdinbnaaW.PrintMore
set_option linter.unusedVariables false
set_option linter.unusedSimpArgs false
namespace Rd
open Go Go.RowKit
def Opens {α : Type} (t : TypeId) (d : Kd α) (wf : α → Prop) (bulk : α → Nat) : Prop :=
  Try.prog.cellsOf t = d.sz ∧ ∀ (H : Type) (enc : TypeId × Value → H) (W : World) (fuel : Nat) (cs : List Value) (dd : DataW H) (ps : List MemPlace),
    DataW.trod enc Try.prog W 0 (fun _ => true) true fuel t cs = some (dd, ps) → ∃ x, d.K W x cs ∧ wf x ∧ bulk x ≤ Rows.uptoBulk dd
def OpensF {β : Type} (fs : List Field) (off : Nat) (d : Kd β) (wf : β → Prop) (bulk : β → Nat) : Prop :=
  ∀ (H : Type) (enc : TypeId × Value → H) (W : World) (n : Nat) (cs : List Value) (xs : List (DataW H × List MemPlace)), xs.length = fs.length →
    (∀ (i : Nat) (f : Field), fs[i]? = some f → DataW.trod enc Try.prog W 0 (fun _ => true) true n f.type ((cs.drop f.offset).take (Try.prog.cellsOf f.type)) = xs[i]?) → cs.length = off + d.sz →
    ∃ x, d.K W x (cs.drop off) ∧ wf x ∧ bulk x ≤ Rows.uptoBulkAll (xs.map (·.1))
theorem OpensF.cons {α β : Type} {f : Field} {fs : List Field} {off off' : Nat} {a : Kd α} {b : Kd β} {wf : α → Prop} {bulk : α → Nat} {wf' : β → Prop} {bulk' : β → Nat} (ho : f.offset = off) (ho' : off' = off + a.sz) (h : Opens f.type a wf bulk) (hr : OpensF fs off' b wf' bulk') :
    OpensF (f :: fs) off (Kd.pair a b) (fun x => wf x.1 ∧ wf' x.2) (fun x => bulk x.1 + bulk' x.2) := by
  intro H enc W n cs xs hl ht hc
  subst ho'
  obtain ⟨hsz, hop⟩ := h
  obtain ⟨x0, xs', rfl⟩ : ∃ x0 xs', xs = x0 :: xs' := by
    match xs, hl with
    | x0 :: xs', _ => exact ⟨x0, xs', rfl⟩
  have h0 := ht 0 f rfl
  rw [ho, hsz] at h0
  obtain ⟨x, hk, hw, hb⟩ := hop H enc W n _ _ _ h0
  have hc' : cs.length = off + a.sz + b.sz := by
    have e : (Kd.pair a b).sz = a.sz + b.sz := rfl
    rw [e] at hc
    omega
  obtain ⟨y, hk', hw', hb'⟩ := hr H enc W n cs xs' (by simpa using hl) (fun i g hg => by have := ht (i + 1) g (by simpa using hg); simpa using this) hc'
  refine ⟨(x, y), ⟨(cs.drop off).take a.sz, cs.drop (off + a.sz), ?_, hk, hk'⟩, ⟨hw, hw'⟩, ?_⟩
  · rw [← List.drop_drop, List.take_append_drop]
  · simp only [List.map_cons, Rows.uptoBulkAll]
    omega
theorem glob {W : World} (h : W.ShapedOpen Try.prog) : Glob W :=
  cell_of_shapedOpen_int (g := 0) (t := 3) (zero := #[.int .i64 0]) (k := .i64) h (of_decide_eq_true (by kernel_rfl)) (by kernel_rfl) rfl (by kernel_rfl) (by kernel_rfl) Try.underlying3
end Rd
end Go.Proofs.Ytkoogebfdinbnaa.Q

-- Printed by this session's wip/np.py over the kit's print program. Not trusted: Lean checks it.
namespace Go.Proofs.Ytkoogebfdinbnaa.Q
open Go.RowKit Go.Proofs.YtkoogebfdinbnaaW.PrintWords Go.Proofs.YtkoogebfdinbnaaW.PrintLast Go.Proofs.YtkoogebfdinbnaaW.Own Go.Proofs.YtkoogebfdinbnaaW.PrintMore
set_option linter.unusedVariables false
set_option linter.unusedSimpArgs false

/-- The pure statement of newellaw03_ElementDeep. -/
def newellaw03_ElementDeep.Pure : Prop := ∀ (a0 : Int) (a1 : Int), ((Lit.int .i64 a0).wf = true) → ((Lit.int .i64 a1).wf = true) → ∃ k, newellaw03_ElementDeep.f k a0 a1 = some true
end Go.Proofs.Ytkoogebfdinbnaa.Q

namespace Go.Proofs.Ytkoogebfdinbnaa.Pure
open Go Go.RowKit Go.Proofs.Ytkoogebfdinbnaa.Q Go.Proofs.YtkoogebfdinbnaaW.PrintWords Go.Proofs.YtkoogebfdinbnaaW.PrintLast Go.Proofs.YtkoogebfdinbnaaW.Own Go.Proofs.YtkoogebfdinbnaaW.PrintMore
set_option linter.unusedSimpArgs false
set_option linter.unusedVariables false
def Ans {α : Type} (f : Nat → Option α) (v : α) : Prop := ∃ K, ∀ k, K ≤ k → f k = some v
theorem Ans.now {α : Type} {f : Nat → Option α} {v : α} (h : ∀ k, f k = some v) : Ans f v := ⟨0, fun k _ => h k⟩
theorem Ans.succ {α : Type} {f g : Nat → Option α} {v : α} (h : Ans g v) (e : ∀ k, f (k + 1) = g k) : Ans f v := by
  obtain ⟨K, h⟩ := h
  refine ⟨K + 1, fun k hk => ?_⟩
  obtain ⟨j, rfl⟩ : ∃ j, k = j + 1 := ⟨k - 1, by omega⟩
  rw [e, h j (by omega)]
theorem Ans.bind {α β : Type} {f : Nat → Option α} {g : Nat → α → Option β} {v : α} {u : β} (h : Ans f v) (h2 : Ans (fun k => g k v) u) : Ans (fun k => (f k).bind (g k)) u := by
  obtain ⟨K, h⟩ := h
  obtain ⟨K2, h2⟩ := h2
  exact ⟨max K K2, fun k hk => by show (f k).bind (g k) = _; rw [h k (by omega), Option.bind_some]; exact h2 k (by omega)⟩
theorem Ans.there {α : Type} {f : Nat → Option α} {v : α} (h : Ans f v) : ∃ k, f k = some v := ⟨h.choose, h.choose_spec _ (Nat.le_refl _)⟩
theorem w1 (i : Nat) (h : i < 1000000000) : wrap64 ((i : Int) + 1) = ((i + 1 : Nat) : Int) := by unfold wrap64; omega
theorem mod_nat (a : Int) (m : Nat) (hm : 0 < m) (hm2 : m < 1000) : ∃ n : Nat, n < m ∧ Int.tmod (IntKind.u64.wrap a) (m : Int) = (n : Int) := by
  have h0 : 0 ≤ IntKind.u64.wrap a := by rw [IntKind.wrap_u64]; omega
  have h1 := Int.tmod_nonneg (m : Int) h0
  have h2 := Int.tmod_lt_of_pos (IntKind.u64.wrap a) (show (0 : Int) < (m : Int) by omega)
  obtain ⟨n, hn⟩ := Int.eq_ofNat_of_zero_le h1
  exact ⟨n, by omega, hn⟩
end Go.Proofs.Ytkoogebfdinbnaa.Pure

/- The plain law of ElementDeep, about the functions that the walks compute: a hundred inputs, each reckoned. -/
namespace Go.Proofs.Ytkoogebfdinbnaa.Pure
open Go Go.RowKit Go.Proofs.Ytkoogebfdinbnaa.Q Go.Proofs.YtkoogebfdinbnaaW.PrintWords Go.Proofs.YtkoogebfdinbnaaW.PrintLast Go.Proofs.YtkoogebfdinbnaaW.Own Go.Proofs.YtkoogebfdinbnaaW.PrintMore
set_option linter.unusedSimpArgs false
set_option linter.unusedVariables false
theorem deep_all : (List.range 25).all (fun n => (List.range 4).all fun m => newellaw03_ElementDeep.l0 40 ((n : Int) + 1) (m : Int) (⟨#[]⟩ : ByteArray) (⟨#[]⟩ : ByteArray) 0 == some true && Int.tmod (IntKind.u64.wrap (m : Int)) 4 == (m : Int)) = true := by kernel_rfl
theorem deep_mod (x y : Int) (h : Int.tmod (IntKind.u64.wrap x) 4 = Int.tmod (IntKind.u64.wrap y) 4) : ∀ (k : Nat) (x0 : Int) (s t : ByteArray) (i : Int), newellaw03_ElementDeep.l0 k x0 x s t i = newellaw03_ElementDeep.l0 k x0 y s t i := by
  intro k
  induction k with
  | zero => intro x0 s t i; rfl
  | succ k ih =>
    intro x0 s t i
    rw [newellaw03_ElementDeep.l0, newellaw03_ElementDeep.l0, h, ih]
theorem ElementDeep : newellaw03_ElementDeep.Pure := by
  intro a0 a1 _ _
  obtain ⟨n, hn, e⟩ := mod_nat a0 25 (by decide) (by decide)
  obtain ⟨m, hm, e2⟩ := mod_nat a1 4 (by decide) (by decide)
  have ew : wrap64 (1 + wrap64 (Int.tmod (IntKind.u64.wrap a0) 25)) = (n : Int) + 1 := by
    rw [show (25 : Int) = ((25 : Nat) : Int) from rfl, e]
    unfold wrap64; omega
  refine ⟨40, ?_⟩
  unfold newellaw03_ElementDeep.f
  rw [ew]
  have all := List.all_eq_true.1 (List.all_eq_true.1 deep_all n (by simp; omega)) m (by simp; omega)
  rw [Bool.and_eq_true, beq_iff_eq, beq_iff_eq] at all
  rw [deep_mod a1 (m : Int) (by rw [all.2]; exact e2)]
  exact all.1
end Go.Proofs.Ytkoogebfdinbnaa.Pure
