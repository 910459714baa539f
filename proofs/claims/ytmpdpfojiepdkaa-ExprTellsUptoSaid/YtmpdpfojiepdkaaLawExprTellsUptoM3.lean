/- Texts put together: what functions of the program compute, and plain words about them. -/
import Derived.Test.YtmpdpfojiepdkaaLawExprTellsUptoM1
import Derived.Test.YtmpdpfojiepdkaaLawExprTellsUptoM2
import Derived.Test.YtmpdpfojiepdkaaProg
import Derived.Test.YtmpdpfojiepdkaaRows
import Derived.ChangeArms
import Derived.Deep.DeepHandedRow
import Derived.Shelf.Vars
import Derived.Below
import Derived.Deep.Draws
import Derived.Deep.AppendLies
import Derived.Maps.AppendAt
import Derived.OwnWalk
import Derived.Laws.BytesArg
import Derived.Laws.MakeOwn
import Derived.Laws.OwnMore
import Derived.Deep.OwnRows
import Derived.Tactics
import Derived.Lib.ConvBytes
import Derived.Laws.Slices
import Derived.WalkKit
import Derived.KernelRfl
import Derived.RowKit3
import Derived.Deep.LoopGhost
import Derived.Deep.QuietTactic
import Derived.BigQuiet
import Derived.WideLaws
import Derived.Deep.DeepCutAuto
import Derived.Deep.CutBlock
import Derived.Deep.RegionHeld3
import Derived.Laws.Rows
import Derived.Lib.AppendStr
import Derived.ArgAppend
import Derived.Laws.IdiomCopy
import Derived.OrdersHeld
import Derived.Laws.BitsLemmas
import Derived.RowKit
import Derived.Lib.IndexMore
import Derived.Lib.IndexAny

-- Printed by this session's wip/np.py over the kit's print program. Not trusted: Lean checks it.
namespace Go.Proofs.Ytmpdpfojiepdkaa.Q
open Go.RowKit Go.Proofs.YtmpdpfojiepdkaaW.PrintWords Go.Proofs.YtmpdpfojiepdkaaW.PrintLast Go.Proofs.YtmpdpfojiepdkaaW.Own Go.Proofs.YtmpdpfojiepdkaaW.PrintMore
attribute [local go_sem] max2_int min2_int max_two min_two max_three min_three max_four min_four
set_option linter.unusedVariables false
set_option linter.unusedSimpArgs false

/-! ### newellaw10_ExprTells: function 3 -/
def newellaw10_ExprTells.j0 : Nat → ByteArray → List (S29) → Bool → Option (Bool)
 | 0, _, _, _ => none
 | k + 1, x0, x1, x17 => if x17 = true then ((newellaw10_awake.f k).bind fun t151 => (some t151)) else ((expr_Split.f k x0).bind fun bt152 => ((newelref10_Split.f k x0).bind fun bt156 => ((api_Piece_16.f x1 false (⟨#[55, 49]⟩ : ByteArray)).bind fun t160 => ((newellaw10_awake.f k).bind fun t163 => (if t163 = true then ((api_Piece_17.f k bt152.1 bt156.1).bind fun t164 => (if t164 = true then (if bt152.2 = bt156.2 then ((expr_Join.f t160).bind fun t165 => ((newelref10_Join.f k x1).bind fun t166 => (if t165.toList = t166.toList then ((expr_Has.f x0).bind fun t167 => ((newelref10_Has.f k x0).bind fun t168 => (if (t167 == t168) = true then ((api_Piece_22.f k t160 x1 false (⟨#[55, 49]⟩ : ByteArray)).bind fun t169 => (some t169)) else (some false)))) else (some false)))) else (some false)) else (some false))) else (some false))))))
def newellaw10_ExprTells.f (k : Nat) (a0 : ByteArray) (l1 : List (S29)) : Option (Bool) := if (a0.size : Int) > 1000 then (newellaw10_ExprTells.j0 k a0 l1 true) else (newellaw10_ExprTells.j0 k a0 l1 (decide ((l1.length : Int) > 50)))
theorem newellaw10_ExprTells.mono_l : ∀ k, (∀ y0 y1 y2, LeO (newellaw10_ExprTells.j0 k y0 y1 y2) (newellaw10_ExprTells.j0 (k + 1) y0 y1 y2))
 | 0 => fun _ _ _ r h => by simp [newellaw10_ExprTells.j0] at h
 | k + 1 => by
  have ih0 := newellaw10_ExprTells.mono_l k
  ·intro y0 y1 y2
   unfold newellaw10_ExprTells.j0
   repeat' first
   | (with_reducible exact ih0 _ _ _)
   | (with_reducible exact api_Piece_17.mono _ _ _)
   | (with_reducible exact api_Piece_22.mono _ _ _ _ _)
   | (with_reducible exact expr_Split.mono _ _)
   | (with_reducible exact newellaw10_awake.mono _)
   | (with_reducible exact newelref10_Has.mono _ _)
   | (with_reducible exact newelref10_Join.mono _ _)
   | (with_reducible exact newelref10_Split.mono _ _)
   | (with_reducible exact LeO.refl _)
   | (with_reducible exact LeO.none _)
   | (with_reducible refine LeO.ite ?_ ?_)
   | (with_reducible refine LeO.bind ?_ (fun _ => ?_))
   | exact ih0 _ _ _
   | exact api_Piece_17.mono _ _ _
   | exact api_Piece_22.mono _ _ _ _ _
   | exact expr_Split.mono _ _
   | exact newellaw10_awake.mono _
   | exact newelref10_Has.mono _ _
   | exact newelref10_Join.mono _ _
   | exact newelref10_Split.mono _ _
   | exact LeO.none _
   | refine LeO.ite ?_ ?_
   | refine LeO.bind ?_ (fun _ => ?_)
theorem newellaw10_ExprTells.mono : ∀ a0 a1 k, LeO (newellaw10_ExprTells.f k a0 a1) (newellaw10_ExprTells.f (k + 1) a0 a1) := by
 intro a0 a1 k
 have ih0 := newellaw10_ExprTells.mono_l k
 unfold newellaw10_ExprTells.f
 repeat' first
  | (with_reducible exact ih0 _ _ _)
  | (with_reducible exact api_Piece_17.mono _ _ _)
  | (with_reducible exact api_Piece_22.mono _ _ _ _ _)
  | (with_reducible exact expr_Split.mono _ _)
  | (with_reducible exact newellaw10_awake.mono _)
  | (with_reducible exact newelref10_Has.mono _ _)
  | (with_reducible exact newelref10_Join.mono _ _)
  | (with_reducible exact newelref10_Split.mono _ _)
  | (with_reducible exact LeO.refl _)
  | (with_reducible exact LeO.none _)
  | (with_reducible refine LeO.ite ?_ ?_)
  | (with_reducible refine LeO.bind ?_ (fun _ => ?_))
  | exact ih0 _ _ _
  | exact api_Piece_17.mono _ _ _
  | exact api_Piece_22.mono _ _ _ _ _
  | exact expr_Split.mono _ _
  | exact newellaw10_awake.mono _
  | exact newelref10_Has.mono _ _
  | exact newelref10_Join.mono _ _
  | exact newelref10_Split.mono _ _
  | exact LeO.none _
  | refine LeO.ite ?_ ?_
  | refine LeO.bind ?_ (fun _ => ?_)
set_option maxHeartbeats 8000000 in
set_option maxRecDepth 100000 in
theorem newellaw10_ExprTells.calls (k : Nat) (a0 : ByteArray) (A1 : Option Addr) (c1 : Nat) (l1 : List (S29)) (r : Bool) (w : World) (hr1 : Kd.C k29 w A1 l1.length l1) (hc1 : l1.length ≤ c1) (hG : Glob w) (h : newellaw10_ExprTells.f k a0 l1 = some r) (hr_ : r = true) :
 Calls Try.prog 3 #[.string a0, .slice A1 l1.length c1] w fun e w' => e = .returned (.bool r) ∧ Below w.heap.size w w' := by
 have hu29 := Try.underlying29
 have HG := Aside0.mk hG
 clear hG
 have HR1 := Aside0.mk hr1
 have HC1 := Aside0.mk hc1
 clear hr1 hc1
 have HB := Aside0.mk (Below.refl w.heap.size w)
 have H : (if (a0.size : Int) > 1000 then (newellaw10_ExprTells.j0 k a0 l1 true) else (newellaw10_ExprTells.j0 k a0 l1 (decide ((l1.length : Int) > 50)))) = some r := h
 clear h
 have HC3 := Aside0.mk H
 clear H
 go_enter Try.func3, Try.ntmps3
 go_upto_region 1 with (fail)
 go_cut [17] (fun v17 wc => ∃ (kq : Nat) (x17_2 : Bool), v17 = .bool x17_2 ∧ Aside0 (newellaw10_ExprTells.j0 kq a0 l1 x17_2 = some r) ∧ Aside0 (kq ≤ k) ∧ Aside0 (Below w.heap.size w wc))
 case first =>
  have H := HC3.out
  clear HC3
  by_cases c4 : (a0.size : Int) > 1000
  ·rw [if_pos c4] at H
   have c4b0 : decide (1000 < (a0.size : Int)) = true := decide_eq_true c4
   have c4b1 : decide (1000 < a0.size) = true := decide_eq_true (by omega)
   clear c4
   (first | rw [c4b0] | (simp only [i64_w, i32_w]; rw [c4b0]) | skip)
   have H' := Aside0.mk H
   clear H
   go_wp2
   go_meet
   case rel => exact ⟨_, (true), (by first | rfl | (simp; done) | (simp [*]; done) | (simp; exact isEmpty_bne _)), H', ⟨by first | omega | exact Nat.le_refl _⟩, ⟨by repeat (first | (with_reducible first | exact HB.out | apply below_alloc | apply pw_below_drewN | apply below_drew1) | exact HB.out)⟩⟩
  ·rw [if_neg c4] at H
   have c4b0 : decide (1000 < (a0.size : Int)) = false := decide_eq_false c4
   have c4b1 : decide (1000 < a0.size) = false := decide_eq_false (by omega)
   clear c4
   (first | rw [c4b0] | (simp only [i64_w, i32_w]; rw [c4b0]) | skip)
   have H' := Aside0.mk H
   clear H
   go_wp2
   go_meet
   case rel => exact ⟨_, (decide ((l1.length : Int) > 50)), (by first | rfl | (simp; done) | (simp [*]; done) | (simp; exact isEmpty_bne _)), H', ⟨by first | omega | exact Nat.le_refl _⟩, ⟨by repeat (first | (with_reducible first | exact HB.out | apply below_alloc | apply pw_below_drewN | apply below_drew1) | exact HB.out)⟩⟩
 case rest =>
  clear HC3
  try clear c1
  try clear p2
  try clear c3
  try clear c4
  try clear c4b0
  try clear c4b1
  obtain ⟨kq, x17_2, rfl, HA, HJ2, HB⟩ := hcut
  cases kq with
  | zero => exact absurd HA.out (by simp [newellaw10_ExprTells.j0])
  | succ kj2 =>
   have H := HA.out
   clear HA
   simp only [newellaw10_ExprTells.j0] at H
   by_cases c5 : x17_2 = true
   ·subst c5
    have H1 : ((newellaw10_awake.f kj2).bind fun t151 => (some t151)) = some r := by rw [if_pos rfl] at H; exact H
    clear H
    have H := H1
    clear H1
    replace H := Option.bind_eq_some_iff.mp H
    obtain ⟨t151, A60, H⟩ := H
    replace H : (some t151) = some r := H
    have A6 := Aside0.mk A60
    clear A60
    obtain rfl := Option.some.inj H
    go_wp2_with (first | ((with_reducible refine gate_callee (f := 13) rfl ?_); refine goesL_ (some 18) rfl rfl Try.func13 (by kernel_rfl) rfl #[] rfl (by (try simp only [List.map_toArray, List.map_cons, List.map_nil]); first | done | rfl | (simp only [List.length_drop, List.length_take]; rfl)) ?_; (with_reducible refine (newellaw10_awake.calls kj2  t151 _ ?side1 A6.out).mono ?_); (case side1 => exact Glob.step HG.out (by repeat (first | (with_reducible first | exact HB.out | apply below_alloc | apply pw_below_drewN | apply below_drew1) | exact HB.out))); rintro e w7 ⟨rfl, hb⟩; (try (have hbk2 := Aside0.mk (api_Piece_16.Blk.below HBK.out hb); clear HBK; have HBK := hbk2; clear hbk2)); refine ⟨_, rfl, ?_⟩; have n0_ := Aside0.mk (below_step (by repeat (first | (with_reducible first | exact HB.out | apply below_alloc | apply pw_below_drewN | apply below_drew1) | exact HB.out)) hb); clear HB; have HB := n0_; clear n0_; (try clear hb); (try clear hb2); (try clear hk); (try clear hi)))
    go_ret
    exact ⟨by first | rfl | (simp [errW_none, errW_some] <;> rfl) | (simp [*, errW_none, errW_some] <;> rfl), by repeat (first | (with_reducible first | exact HB.out | apply below_alloc | apply pw_below_drewN | apply below_drew1) | exact HB.out)⟩
   ·replace c5 := Bool.eq_false_iff.mpr c5
    subst c5
    have H1 : ((expr_Split.f kj2 a0).bind fun bt152 => ((newelref10_Split.f kj2 a0).bind fun bt156 => ((api_Piece_16.f l1 false (⟨#[55, 49]⟩ : ByteArray)).bind fun t160 => ((newellaw10_awake.f kj2).bind fun t163 => (if t163 = true then ((api_Piece_17.f kj2 bt152.1 bt156.1).bind fun t164 => (if t164 = true then (if bt152.2 = bt156.2 then ((expr_Join.f t160).bind fun t165 => ((newelref10_Join.f kj2 l1).bind fun t166 => (if t165.toList = t166.toList then ((expr_Has.f a0).bind fun t167 => ((newelref10_Has.f kj2 a0).bind fun t168 => (if (t167 == t168) = true then ((api_Piece_22.f kj2 t160 l1 false (⟨#[55, 49]⟩ : ByteArray)).bind fun t169 => (some t169)) else (some false)))) else (some false)))) else (some false)) else (some false))) else (some false)))))) = some r := by rw [if_neg (show ¬ (false = true) by decide)] at H; exact H
    clear H
    have H := H1
    clear H1
    replace H := Option.bind_eq_some_iff.mp H
    obtain ⟨⟨t152, t153⟩, A80, H⟩ := H
    replace H : ((newelref10_Split.f kj2 a0).bind fun bt156 => ((api_Piece_16.f l1 false (⟨#[55, 49]⟩ : ByteArray)).bind fun t160 => ((newellaw10_awake.f kj2).bind fun t163 => (if t163 = true then ((api_Piece_17.f kj2 t152 bt156.1).bind fun t164 => (if t164 = true then (if t153 = bt156.2 then ((expr_Join.f t160).bind fun t165 => ((newelref10_Join.f kj2 l1).bind fun t166 => (if t165.toList = t166.toList then ((expr_Has.f a0).bind fun t167 => ((newelref10_Has.f kj2 a0).bind fun t168 => (if (t167 == t168) = true then ((api_Piece_22.f kj2 t160 l1 false (⟨#[55, 49]⟩ : ByteArray)).bind fun t169 => (some t169)) else (some false)))) else (some false)))) else (some false)) else (some false))) else (some false))))) = some r := H
    have A8 := Aside0.mk A80
    clear A80
    replace H := Option.bind_eq_some_iff.mp H
    obtain ⟨⟨t156, t157⟩, A90, H⟩ := H
    replace H : ((api_Piece_16.f l1 false (⟨#[55, 49]⟩ : ByteArray)).bind fun t160 => ((newellaw10_awake.f kj2).bind fun t163 => (if t163 = true then ((api_Piece_17.f kj2 t152 t156).bind fun t164 => (if t164 = true then (if t153 = t157 then ((expr_Join.f t160).bind fun t165 => ((newelref10_Join.f kj2 l1).bind fun t166 => (if t165.toList = t166.toList then ((expr_Has.f a0).bind fun t167 => ((newelref10_Has.f kj2 a0).bind fun t168 => (if (t167 == t168) = true then ((api_Piece_22.f kj2 t160 l1 false (⟨#[55, 49]⟩ : ByteArray)).bind fun t169 => (some t169)) else (some false)))) else (some false)))) else (some false)) else (some false))) else (some false)))) = some r := H
    have A9 := Aside0.mk A90
    clear A90
    replace H := Option.bind_eq_some_iff.mp H
    obtain ⟨t160, A100, H⟩ := H
    replace H : ((newellaw10_awake.f kj2).bind fun t163 => (if t163 = true then ((api_Piece_17.f kj2 t152 t156).bind fun t164 => (if t164 = true then (if t153 = t157 then ((expr_Join.f t160).bind fun t165 => ((newelref10_Join.f kj2 l1).bind fun t166 => (if t165.toList = t166.toList then ((expr_Has.f a0).bind fun t167 => ((newelref10_Has.f kj2 a0).bind fun t168 => (if (t167 == t168) = true then ((api_Piece_22.f kj2 t160 l1 false (⟨#[55, 49]⟩ : ByteArray)).bind fun t169 => (some t169)) else (some false)))) else (some false)))) else (some false)) else (some false))) else (some false))) = some r := H
    have A10 := Aside0.mk A100
    clear A100
    replace H := Option.bind_eq_some_iff.mp H
    obtain ⟨t163, A110, H⟩ := H
    replace H : (if t163 = true then ((api_Piece_17.f kj2 t152 t156).bind fun t164 => (if t164 = true then (if t153 = t157 then ((expr_Join.f t160).bind fun t165 => ((newelref10_Join.f kj2 l1).bind fun t166 => (if t165.toList = t166.toList then ((expr_Has.f a0).bind fun t167 => ((newelref10_Has.f kj2 a0).bind fun t168 => (if (t167 == t168) = true then ((api_Piece_22.f kj2 t160 l1 false (⟨#[55, 49]⟩ : ByteArray)).bind fun t169 => (some t169)) else (some false)))) else (some false)))) else (some false)) else (some false))) else (some false)) = some r := H
    have A11 := Aside0.mk A110
    clear A110
    by_cases c12 : t163 = true
    ·subst c12
     have H1 : ((api_Piece_17.f kj2 t152 t156).bind fun t164 => (if t164 = true then (if t153 = t157 then ((expr_Join.f t160).bind fun t165 => ((newelref10_Join.f kj2 l1).bind fun t166 => (if t165.toList = t166.toList then ((expr_Has.f a0).bind fun t167 => ((newelref10_Has.f kj2 a0).bind fun t168 => (if (t167 == t168) = true then ((api_Piece_22.f kj2 t160 l1 false (⟨#[55, 49]⟩ : ByteArray)).bind fun t169 => (some t169)) else (some false)))) else (some false)))) else (some false)) else (some false))) = some r := by rw [if_pos rfl] at H; exact H
     clear H
     have H := H1
     clear H1
     replace H := Option.bind_eq_some_iff.mp H
     obtain ⟨t164, A130, H⟩ := H
     replace H : (if t164 = true then (if t153 = t157 then ((expr_Join.f t160).bind fun t165 => ((newelref10_Join.f kj2 l1).bind fun t166 => (if t165.toList = t166.toList then ((expr_Has.f a0).bind fun t167 => ((newelref10_Has.f kj2 a0).bind fun t168 => (if (t167 == t168) = true then ((api_Piece_22.f kj2 t160 l1 false (⟨#[55, 49]⟩ : ByteArray)).bind fun t169 => (some t169)) else (some false)))) else (some false)))) else (some false)) else (some false)) = some r := H
     have A13 := Aside0.mk A130
     clear A130
     by_cases c14 : t164 = true
     ·subst c14
      have H1 : (if t153 = t157 then ((expr_Join.f t160).bind fun t165 => ((newelref10_Join.f kj2 l1).bind fun t166 => (if t165.toList = t166.toList then ((expr_Has.f a0).bind fun t167 => ((newelref10_Has.f kj2 a0).bind fun t168 => (if (t167 == t168) = true then ((api_Piece_22.f kj2 t160 l1 false (⟨#[55, 49]⟩ : ByteArray)).bind fun t169 => (some t169)) else (some false)))) else (some false)))) else (some false)) = some r := by rw [if_pos rfl] at H; exact H
      clear H
      have H := H1
      clear H1
      by_cases c15 : t153 = t157
      ·rw [if_pos c15] at H
       have c15b0 : (t153 == t157) = true := beq_iff_eq.mpr c15
       have c15b1 : (t153 != t157) = false := bne_eq_false_iff_eq.mpr c15
       clear c15
       replace H := Option.bind_eq_some_iff.mp H
       obtain ⟨t165, A160, H⟩ := H
       replace H : ((newelref10_Join.f kj2 l1).bind fun t166 => (if t165.toList = t166.toList then ((expr_Has.f a0).bind fun t167 => ((newelref10_Has.f kj2 a0).bind fun t168 => (if (t167 == t168) = true then ((api_Piece_22.f kj2 t160 l1 false (⟨#[55, 49]⟩ : ByteArray)).bind fun t169 => (some t169)) else (some false)))) else (some false))) = some r := H
       have A16 := Aside0.mk A160
       clear A160
       replace H := Option.bind_eq_some_iff.mp H
       obtain ⟨t166, A170, H⟩ := H
       replace H : (if t165.toList = t166.toList then ((expr_Has.f a0).bind fun t167 => ((newelref10_Has.f kj2 a0).bind fun t168 => (if (t167 == t168) = true then ((api_Piece_22.f kj2 t160 l1 false (⟨#[55, 49]⟩ : ByteArray)).bind fun t169 => (some t169)) else (some false)))) else (some false)) = some r := H
       have A17 := Aside0.mk A170
       clear A170
       by_cases c18 : t165.toList = t166.toList
       ·rw [if_pos c18] at H
        have c18b0 : (t165.toList == t166.toList) = true := beq_iff_eq.mpr c18
        have c18b1 : (t165.toList != t166.toList) = false := bne_eq_false_iff_eq.mpr c18
        clear c18
        replace H := Option.bind_eq_some_iff.mp H
        obtain ⟨t167, A190, H⟩ := H
        replace H : ((newelref10_Has.f kj2 a0).bind fun t168 => (if (t167 == t168) = true then ((api_Piece_22.f kj2 t160 l1 false (⟨#[55, 49]⟩ : ByteArray)).bind fun t169 => (some t169)) else (some false))) = some r := H
        have A19 := Aside0.mk A190
        clear A190
        replace H := Option.bind_eq_some_iff.mp H
        obtain ⟨t168, A200, H⟩ := H
        replace H : (if (t167 == t168) = true then ((api_Piece_22.f kj2 t160 l1 false (⟨#[55, 49]⟩ : ByteArray)).bind fun t169 => (some t169)) else (some false)) = some r := H
        have A20 := Aside0.mk A200
        clear A200
        by_cases c21 : (t167 == t168) = true
        ·rw [if_pos c21] at H
         have c21b0 : (t167 == t168) = true := c21
         (try (have c21b1 : decide (t167 = t168) = true := by simpa using c21))
         (try (have c21b2 : (t167 == t168) = true := by simpa using c21))
         clear c21
         replace H := Option.bind_eq_some_iff.mp H
         obtain ⟨t169, A220, H⟩ := H
         replace H : (some t169) = some r := H
         have A22 := Aside0.mk A220
         clear A220
         obtain rfl := Option.some.inj H
         go_wp2_with (first | ((with_reducible refine gate_callee (f := 14) rfl ?_); refine goesL_ (some 21) rfl rfl Try.func14 (by kernel_rfl) rfl #[.string a0] rfl (by (try simp only [List.map_toArray, List.map_cons, List.map_nil]); first | done | rfl | (simp only [List.length_drop, List.length_take]; rfl)) ?_; (with_reducible refine (expr_Split.calls kj2 a0 t152 t153 _ ?side1 A8.out).mono ?_); (case side1 => exact Glob.step HG.out (by repeat (first | (with_reducible first | exact HB.out | apply below_alloc | apply pw_below_drewN | apply below_drew1) | exact HB.out))); rintro e w23 ⟨v154, rfl, ho0, hb⟩; (try (have hbk2 := Aside0.mk (api_Piece_16.Blk.below HBK.out hb); clear HBK; have HBK := hbk2; clear hbk2)); refine ⟨_, rfl, ?_⟩; have n0_ := Aside0.mk (Kd.R_lower ho0 (below_size (by repeat (first | (with_reducible first | exact HB.out | apply below_alloc | apply pw_below_drewN | apply below_drew1) | exact HB.out)))); have n1_ := Aside0.mk (below_step (by repeat (first | (with_reducible first | exact HB.out | apply below_alloc | apply pw_below_drewN | apply below_drew1) | exact HB.out)) hb); clear HB; have HO155 := n0_; have HB := n1_; clear n0_ n1_; (try clear hb); (try clear hb2); (try clear hk); (try clear hi); (try clear ho0)) | ((with_reducible refine gate_callee (f := 15) rfl ?_); refine goesL_ (some 26) rfl rfl Try.func15 (by kernel_rfl) rfl #[.string a0] rfl (by (try simp only [List.map_toArray, List.map_cons, List.map_nil]); first | done | rfl | (simp only [List.length_drop, List.length_take]; rfl)) ?_; (with_reducible refine (newelref10_Split.calls kj2 a0 t156 t157 _ ?side1 A9.out).mono ?_); (case side1 => exact Glob.step HG.out (by repeat (first | (with_reducible first | exact HB.out | apply below_alloc | apply pw_below_drewN | apply below_drew1) | exact HB.out))); rintro e w24 ⟨v158, rfl, ho0, hb⟩; (try (have hbk2 := Aside0.mk (api_Piece_16.Blk.below HBK.out hb); clear HBK; have HBK := hbk2; clear hbk2)); refine ⟨_, rfl, ?_⟩; have n0_ := Aside0.mk (Kd.R_elder' (by (with_reducible repeat (first | apply Kd.R_alloc | apply Kd.R_drewN | apply Kd.R_drew)); exact HO155.out) (Kd.R_base ho0) hb); have n1_ := Aside0.mk (Kd.R_lower (Kd.R_new' ho0 (Kd.R_lt (by (with_reducible repeat (first | apply Kd.R_alloc | apply Kd.R_drewN | apply Kd.R_drew)); exact HO155.out))) (below_size (by repeat (first | (with_reducible first | exact HB.out | apply below_alloc | apply pw_below_drewN | apply below_drew1) | exact HB.out)))); have n2_ := Aside0.mk (below_step (by repeat (first | (with_reducible first | exact HB.out | apply below_alloc | apply pw_below_drewN | apply below_drew1) | exact HB.out)) hb); clear HO155; clear HB; have HO155 := n0_; have HO159 := n1_; have HB := n2_; clear n0_ n1_ n2_; (try clear hb); (try clear hb2); (try clear hk); (try clear hi); (try clear ho0)) | ((with_reducible refine gate_callee (f := 16) rfl ?_); refine goesL_ (some 31) rfl rfl Try.func16 (by kernel_rfl) rfl #[.slice A1 l1.length c1, .agg #[.bool false, .string (⟨#[55, 49]⟩ : ByteArray)]] rfl (by (try simp only [List.map_toArray, List.map_cons, List.map_nil]); first | done | rfl | (simp only [List.length_drop, List.length_take]; rfl)) ?_; (with_reducible refine (api_Piece_16.calls _ _ l1 false (⟨#[55, 49]⟩ : ByteArray) t160 _ ?side1 ?side2 ?side3 A10.out).mono ?_); (case side1 => repeat (first | exact (Kd.C_below HR1.out HB.out) | (with_reducible refine Kd.C_alloc ?_ _) | (with_reducible refine Kd.C_drewN ?_ _) | (with_reducible refine Kd.C_drew ?_))); (case side2 => exact HC1.out); (case side3 => exact Glob.step HG.out (by repeat (first | (with_reducible first | exact HB.out | apply below_alloc | apply pw_below_drewN | apply below_drew1) | exact HB.out))); rintro e w25 ⟨v161, rfl, ⟨ho0, hbk⟩, hb⟩; have HBK := Aside0.mk hbk; clear hbk; refine ⟨_, rfl, ?_⟩; have n0_ := Aside0.mk (Kd.R_elder' (by (with_reducible repeat (first | apply Kd.R_alloc | apply Kd.R_drewN | apply Kd.R_drew)); exact HO155.out) (Kd.R_base ho0) hb); have n1_ := Aside0.mk (Kd.R_elder' (by (with_reducible repeat (first | apply Kd.R_alloc | apply Kd.R_drewN | apply Kd.R_drew)); exact HO159.out) (Kd.R_base ho0) hb); have n2_ := Aside0.mk (Kd.R_lower (Kd.R_new' (Kd.R_new' ho0 (Kd.R_lt (by (with_reducible repeat (first | apply Kd.R_alloc | apply Kd.R_drewN | apply Kd.R_drew)); exact HO155.out))) (Kd.R_lt (by (with_reducible repeat (first | apply Kd.R_alloc | apply Kd.R_drewN | apply Kd.R_drew)); exact HO159.out))) (below_size (by repeat (first | (with_reducible first | exact HB.out | apply below_alloc | apply pw_below_drewN | apply below_drew1) | exact HB.out)))); have n3_ := Aside0.mk (below_step (by repeat (first | (with_reducible first | exact HB.out | apply below_alloc | apply pw_below_drewN | apply below_drew1) | exact HB.out)) hb); clear HO155; clear HO159; clear HB; have HO155 := n0_; have HO159 := n1_; have HO162 := n2_; have HB := n3_; clear n0_ n1_ n2_ n3_; (try clear hb); (try clear hb2); (try clear hk); (try clear hi); (try clear ho0)) | ((with_reducible refine gate_callee (f := 13) rfl ?_); refine goesL_ (some 32) rfl rfl Try.func13 (by kernel_rfl) rfl #[] rfl (by (try simp only [List.map_toArray, List.map_cons, List.map_nil]); first | done | rfl | (simp only [List.length_drop, List.length_take]; rfl)) ?_; (with_reducible refine (newellaw10_awake.calls kj2  true _ ?side1 A11.out).mono ?_); (case side1 => exact Glob.step HG.out (by repeat (first | (with_reducible first | exact HB.out | apply below_alloc | apply pw_below_drewN | apply below_drew1) | exact HB.out))); rintro e w26 ⟨rfl, hb⟩; (try (have hbk2 := Aside0.mk (api_Piece_16.Blk.below HBK.out hb); clear HBK; have HBK := hbk2; clear hbk2)); refine ⟨_, rfl, ?_⟩; have n0_ := Aside0.mk (Kd.R_below (by (with_reducible repeat (first | apply Kd.R_alloc | apply Kd.R_drewN | apply Kd.R_drew)); exact HO155.out) hb); have n1_ := Aside0.mk (Kd.R_below (by (with_reducible repeat (first | apply Kd.R_alloc | apply Kd.R_drewN | apply Kd.R_drew)); exact HO159.out) hb); have n2_ := Aside0.mk (Kd.R_below (by (with_reducible repeat (first | apply Kd.R_alloc | apply Kd.R_drewN | apply Kd.R_drew)); exact HO162.out) hb); have n3_ := Aside0.mk (below_step (by repeat (first | (with_reducible first | exact HB.out | apply below_alloc | apply pw_below_drewN | apply below_drew1) | exact HB.out)) hb); clear HO155; clear HO159; clear HO162; clear HB; have HO155 := n0_; have HO159 := n1_; have HO162 := n2_; have HB := n3_; clear n0_ n1_ n2_ n3_; (try clear hb); (try clear hb2); (try clear hk); (try clear hi); obtain ⟨Ao27, co27, eo27⟩ := Kd.R_slice HO155.out; subst eo27; obtain ⟨Ao28, co28, eo28⟩ := Kd.R_slice HO159.out; subst eo28) | (go_at_call 17; (with_reducible refine (api_Piece_17.calls kj2 _ _ t152 _ _ t156 true _ ?side1 ?side2 ?side3 ?side4 ?side5 A13.out).mono ?_); (case side1 => repeat (first | exact (Kd.R_reads' HO155.out).2.2 | (with_reducible refine Kd.C_alloc ?_ _) | (with_reducible refine Kd.C_drewN ?_ _) | (with_reducible refine Kd.C_drew ?_))); (case side2 => exact (Kd.R_reads' HO155.out).2.1); (case side3 => repeat (first | exact (Kd.R_reads' HO159.out).2.2 | (with_reducible refine Kd.C_alloc ?_ _) | (with_reducible refine Kd.C_drewN ?_ _) | (with_reducible refine Kd.C_drew ?_))); (case side4 => exact (Kd.R_reads' HO159.out).2.1); (case side5 => exact Glob.step HG.out (by repeat (first | (with_reducible first | exact HB.out | apply below_alloc | apply pw_below_drewN | apply below_drew1) | exact HB.out))); rintro e w29 ⟨rfl, hb⟩; (try (have hbk2 := Aside0.mk (api_Piece_16.Blk.below HBK.out hb); clear HBK; have HBK := hbk2; clear hbk2)); have n0_ := Aside0.mk (Kd.R_below (by (with_reducible repeat (first | apply Kd.R_alloc | apply Kd.R_drewN | apply Kd.R_drew)); exact HO155.out) hb); have n1_ := Aside0.mk (Kd.R_below (by (with_reducible repeat (first | apply Kd.R_alloc | apply Kd.R_drewN | apply Kd.R_drew)); exact HO159.out) hb); have n2_ := Aside0.mk (Kd.R_below (by (with_reducible repeat (first | apply Kd.R_alloc | apply Kd.R_drewN | apply Kd.R_drew)); exact HO162.out) hb); have n3_ := Aside0.mk (below_step (by repeat (first | (with_reducible first | exact HB.out | apply below_alloc | apply pw_below_drewN | apply below_drew1) | exact HB.out)) hb); clear HO155; clear HO159; clear HO162; clear HB; have HO155 := n0_; have HO159 := n1_; have HO162 := n2_; have HB := n3_; clear n0_ n1_ n2_ n3_; (try clear hb); (try clear hb2); (try clear hk); (try clear hi); obtain ⟨Ao30, co30, eo30⟩ := Kd.R_slice HO162.out; subst eo30) | (go_at_call 18; (with_reducible refine (expr_Join.calls _ _ t160 t165 _ ?side1 ?side2 ?side3 A16.out).mono ?_); (case side1 => repeat (first | exact (Kd.R_reads' HO162.out).2.2 | (with_reducible refine Kd.C_alloc ?_ _) | (with_reducible refine Kd.C_drewN ?_ _) | (with_reducible refine Kd.C_drew ?_))); (case side2 => exact (Kd.R_reads' HO162.out).2.1); (case side3 => exact Glob.step HG.out (by repeat (first | (with_reducible first | exact HB.out | apply below_alloc | apply pw_below_drewN | apply below_drew1) | exact HB.out))); rintro e w31 ⟨rfl, hb⟩; (try (have hbk2 := Aside0.mk (api_Piece_16.Blk.below HBK.out hb); clear HBK; have HBK := hbk2; clear hbk2)); have n0_ := Aside0.mk (Kd.R_below (by (with_reducible repeat (first | apply Kd.R_alloc | apply Kd.R_drewN | apply Kd.R_drew)); exact HO155.out) hb); have n1_ := Aside0.mk (Kd.R_below (by (with_reducible repeat (first | apply Kd.R_alloc | apply Kd.R_drewN | apply Kd.R_drew)); exact HO159.out) hb); have n2_ := Aside0.mk (Kd.R_below (by (with_reducible repeat (first | apply Kd.R_alloc | apply Kd.R_drewN | apply Kd.R_drew)); exact HO162.out) hb); have n3_ := Aside0.mk (below_step (by repeat (first | (with_reducible first | exact HB.out | apply below_alloc | apply pw_below_drewN | apply below_drew1) | exact HB.out)) hb); clear HO155; clear HO159; clear HO162; clear HB; have HO155 := n0_; have HO159 := n1_; have HO162 := n2_; have HB := n3_; clear n0_ n1_ n2_ n3_; (try clear hb); (try clear hb2); (try clear hk); (try clear hi)) | (go_at_call 19; (with_reducible refine (newelref10_Join.calls kj2 _ _ l1 t166 _ ?side1 ?side2 ?side3 A17.out).mono ?_); (case side1 => repeat (first | exact (Kd.C_below HR1.out HB.out) | (with_reducible refine Kd.C_alloc ?_ _) | (with_reducible refine Kd.C_drewN ?_ _) | (with_reducible refine Kd.C_drew ?_))); (case side2 => exact HC1.out); (case side3 => exact Glob.step HG.out (by repeat (first | (with_reducible first | exact HB.out | apply below_alloc | apply pw_below_drewN | apply below_drew1) | exact HB.out))); rintro e w' ⟨rfl, ⟨nd, rfl⟩⟩; (try (have hbk2 := Aside0.mk (api_Piece_16.Blk.below HBK.out (pw_below_drewN (Below.refl _ _) nd)); clear HBK; have HBK := hbk2; clear hbk2))) | (go_at_call 20; (with_reducible refine (expr_Has.calls a0 t167 _ ?side1 A19.out).mono ?_); (case side1 => exact Glob.step HG.out (by repeat (first | (with_reducible first | exact HB.out | apply below_alloc | apply pw_below_drewN | apply below_drew1) | exact HB.out))); rintro e w' ⟨rfl, ⟨nd, rfl⟩⟩; (try (have hbk2 := Aside0.mk (api_Piece_16.Blk.below HBK.out (pw_below_drewN (Below.refl _ _) nd)); clear HBK; have HBK := hbk2; clear hbk2))) | (go_at_call 21; (with_reducible refine (newelref10_Has.calls kj2 a0 t168 _ ?side1 A20.out).mono ?_); (case side1 => exact Glob.step HG.out (by repeat (first | (with_reducible first | exact HB.out | apply below_alloc | apply pw_below_drewN | apply below_drew1) | exact HB.out))); rintro e w' ⟨rfl, ⟨nd, rfl⟩⟩; (try (have hbk2 := Aside0.mk (api_Piece_16.Blk.below HBK.out (pw_below_drewN (Below.refl _ _) nd)); clear HBK; have HBK := hbk2; clear hbk2))) | (go_at_call 22; (with_reducible refine (api_Piece_22.callsB kj2 _ _ t160 _ _ l1 false (⟨#[55, 49]⟩ : ByteArray) t169 _ ?side1 ?side2 ?side3 ?side4 ?side5 A22.out ?lB ?sideK).mono ?_); (case sideK => exact HBK.out); (case side1 => repeat (first | exact (Kd.R_reads' HO162.out).2.2 | (with_reducible refine Kd.C_alloc ?_ _) | (with_reducible refine Kd.C_drewN ?_ _) | (with_reducible refine Kd.C_drew ?_))); (case side2 => exact (Kd.R_reads' HO162.out).2.1); (case side3 => repeat (first | exact (Kd.C_below HR1.out (by repeat (first | (with_reducible first | exact HB.out | apply below_alloc | apply pw_below_drewN | apply below_drew1) | exact HB.out))) | (with_reducible refine Kd.C_alloc ?_ _) | (with_reducible refine Kd.C_drewN ?_ _) | (with_reducible refine Kd.C_drew ?_))); (case side4 => exact HC1.out); (case side5 => exact Glob.step HG.out (by repeat (first | (with_reducible first | exact HB.out | apply below_alloc | apply pw_below_drewN | apply below_drew1) | exact HB.out))); rintro e w32 ⟨rfl, hb⟩; (try (have hbk2 := Aside0.mk (api_Piece_16.Blk.below HBK.out hb); clear HBK; have HBK := hbk2; clear hbk2)); have n0_ := Aside0.mk (Kd.R_below (by (with_reducible repeat (first | apply Kd.R_alloc | apply Kd.R_drewN | apply Kd.R_drew)); exact HO155.out) hb); have n1_ := Aside0.mk (Kd.R_below (by (with_reducible repeat (first | apply Kd.R_alloc | apply Kd.R_drewN | apply Kd.R_drew)); exact HO159.out) hb); have n2_ := Aside0.mk (Kd.R_below (by (with_reducible repeat (first | apply Kd.R_alloc | apply Kd.R_drewN | apply Kd.R_drew)); exact HO162.out) hb); have n3_ := Aside0.mk (below_step (by repeat (first | (with_reducible first | exact HB.out | apply below_alloc | apply pw_below_drewN | apply below_drew1) | exact HB.out)) hb); clear HO155; clear HO159; clear HO162; clear HB; have HO155 := n0_; have HO159 := n1_; have HO162 := n2_; have HB := n3_; clear n0_ n1_ n2_ n3_; (try clear hb); (try clear hb2); (try clear hk); (try clear hi)))
         go_ret
         exact ⟨by first | rfl | (simp [errW_none, errW_some] <;> rfl) | (simp [*, errW_none, errW_some] <;> rfl), by repeat (first | (with_reducible first | exact HB.out | apply below_alloc | apply pw_below_drewN | apply below_drew1) | exact HB.out)⟩
        ·rw [if_neg c21] at H
         have c21b0 : (t167 == t168) = false := by simpa using c21
         (try (have c21b1 : decide (t167 = t168) = false := by simpa using c21))
         (try (have c21b2 : (t167 == t168) = false := by simpa using c21))
         (try (have c21b3 : ¬ (t167 = t168) := by simpa using c21))
         clear c21
         exfalso
         obtain rfl := Option.some.inj H
         exact absurd hr_ (by decide)
       ·rw [if_neg c18] at H
        have c18b0 : (t165.toList == t166.toList) = false := beq_eq_false_iff_ne.mpr c18
        have c18b1 : (t165.toList != t166.toList) = true := bne_iff_ne.mpr c18
        exfalso
        obtain rfl := Option.some.inj H
        exact absurd hr_ (by decide)
      ·rw [if_neg c15] at H
       have c15b0 : (t153 == t157) = false := beq_eq_false_iff_ne.mpr c15
       have c15b1 : (t153 != t157) = true := bne_iff_ne.mpr c15
       exfalso
       obtain rfl := Option.some.inj H
       exact absurd hr_ (by decide)
     ·replace c14 := Bool.eq_false_iff.mpr c14
      subst c14
      have H1 : (some false) = some r := by rw [if_neg (show ¬ (false = true) by decide)] at H; exact H
      clear H
      have H := H1
      clear H1
      exfalso
      obtain rfl := Option.some.inj H
      exact absurd hr_ (by decide)
    ·replace c12 := Bool.eq_false_iff.mpr c12
     subst c12
     have H1 : (some false) = some r := by rw [if_neg (show ¬ (false = true) by decide)] at H; exact H
     clear H
     have H := H1
     clear H1
     exfalso
     obtain rfl := Option.some.inj H
     exact absurd hr_ (by decide)

end Go.Proofs.Ytmpdpfojiepdkaa.Q

namespace Go.Proofs.Ytmpdpfojiepdkaa.Q
open Go.RowKit Go.Proofs.YtmpdpfojiepdkaaW.PrintWords Go.Proofs.YtmpdpfojiepdkaaW.PrintLast Go.Proofs.YtmpdpfojiepdkaaW.Own Go.Proofs.YtmpdpfojiepdkaaW.PrintMore
set_option linter.unusedVariables false
set_option linter.unusedSimpArgs false
namespace Rd
open Go Go.RowKit
theorem add_more (a : Addr) (i j : Nat) : (a.add i).add j = a.add (i + j) := by
  by_cases hi : i = 0
  · subst hi
    simp [Addr.add]
  · by_cases hj : j = 0
    · subst hj
      simp [Addr.add]
    · have hij : ¬ (i + j = 0) := by omega
      simp [Addr.add, hi, hj]
      omega
def Opens {α : Type} (t : TypeId) (d : Kd α) (wf : α → Prop) (bulk : α → Nat) : Prop :=
  Try.prog.cellsOf t = d.sz ∧ ∀ (H : Type) (enc : TypeId × Value → H) (W : World) (fuel : Nat) (cs : List Value) (dd : DataW H) (ps : List MemPlace),
    DataW.trod enc Try.prog W 0 (fun _ => true) true fuel t cs = some (dd, ps) → ∃ x, d.K W x cs ∧ wf x ∧ bulk x ≤ Rows.uptoBulk dd
theorem opens_bool {t : TypeId} (hu : Try.prog.underlying t = some .bool) (hc : Try.prog.cellsOf t = 1) : Opens t Kd.bool (fun _ => True) (fun _ => 1) := by
  refine ⟨hc, fun H enc W fuel cs dd ps h => ?_⟩
  obtain ⟨n, rfl, hx⟩ := DataW.trod_bool hu h
  obtain ⟨rfl, rfl⟩ := Prod.mk.inj hx
  exact ⟨n, rfl, trivial, by simp [Rows.uptoBulk]⟩
theorem opens_string {t : TypeId} (hu : Try.prog.underlying t = some .string) (hc : Try.prog.cellsOf t = 1) : Opens t Kd.string (fun s => s.size ≤ maxLen) (fun s => s.size + 1) := by
  refine ⟨hc, fun H enc W fuel cs dd ps h => ?_⟩
  obtain ⟨s, rfl, hx, hw⟩ := DataW.trod_string hu h
  obtain ⟨rfl, rfl⟩ := Prod.mk.inj hx
  refine ⟨s, rfl, hw, ?_⟩
  have e : s.data.toList.length = s.size := by rw [Array.length_toList]; rfl
  simp only [Rows.uptoBulk]
  omega
def sumOf {α : Type} (f : α → Nat) (l : List α) : Nat := (l.map f).sum
theorem bulkAll_append {H : Type} (a b : List (DataW H)) : Rows.uptoBulkAll (a ++ b) = Rows.uptoBulkAll a + Rows.uptoBulkAll b := by
  induction a with
  | nil => simp [Rows.uptoBulkAll]
  | cons x l ih => simp only [List.cons_append, Rows.uptoBulkAll, ih]; omega
theorem opens_slice {α : Type} {t e : TypeId} {d : Kd α} {wf : α → Prop} {bulk : α → Nat} (hu : Try.prog.underlying t = some (.slice e)) (hc : Try.prog.cellsOf t = 1) (h : Opens e d wf bulk) :
    Opens t (Kd.slice e d) (fun xs => xs.length ≤ maxLen ∧ ∀ x ∈ xs, wf x) (fun xs => sumOf bulk xs + 1) := by
  refine ⟨hc, fun H enc W fuel cs dd ps hh => ?_⟩
  rcases DataW.trod_slice hu hh with ⟨rfl, hx⟩ | ⟨a, len, cap, elems, rest, n, rfl, rfl, hx, -, hlc, hcm, hel, he, -, -⟩
  · obtain ⟨rfl, rfl⟩ := Prod.mk.inj hx
    refine ⟨[], ?_, ?_, ?_⟩
    · exact ⟨none, 0, rfl, Nat.le_refl _, Kd.C_nil _ _⟩
    · refine ⟨?_, fun _ h => by simp at h⟩
      rw [List.length_nil]
      exact Nat.zero_le _
    · simp only [sumOf, List.map_nil, List.sum_nil, Rows.uptoBulk]
      exact Nat.le_refl _
  · have e1 := congrArg Prod.fst hx
    simp only at e1
    subst e1
    clear hx hh
    obtain ⟨hsz, hop⟩ := h
    have key : ∀ m, m ≤ elems.length → ∃ xs : List α, xs.length = m ∧ (∀ x ∈ xs, wf x) ∧ sumOf bulk xs ≤ Rows.uptoBulkAll ((elems.take m).map (·.1)) ∧
        ∀ j p, xs[j]? = some p → ∃ c, c.length = d.sz ∧ d.K W p c ∧ ∀ i u, c[i]? = some u → W.cell? (a.add (j * d.sz + i)) = some u := by
      intro m
      induction m with
      | zero => exact fun _ => ⟨[], rfl, fun _ h => by simp at h, Nat.zero_le _, fun j p h => by simp at h⟩
      | succ m ih =>
        intro hm
        obtain ⟨xs, h1, h2, h3, h4⟩ := ih (by omega)
        have hi := he m (by omega)
        rw [List.getElem?_eq_getElem (by omega : m < elems.length), hsz] at hi
        obtain ⟨c, hcells, ht⟩ := Option.bind_eq_some_iff.1 hi
        obtain ⟨x, hk, hwf, hb0⟩ := hop H enc W n c _ _ ht
        have hb : bulk x ≤ Rows.uptoBulk (elems[m]'(by omega)).1 := hb0
        clear hb0
        have hcl : c.length = d.sz ∧ ∀ i u, c[i]? = some u → W.cell? ((a.add (m * d.sz)).add i) = some u := by
          unfold World.cells? at hcells
          rw [if_pos (Nat.zero_le _)] at hcells
          refine ⟨by simpa using mapM_some_length hcells, fun i u hu => ?_⟩
          have hil : i < d.sz := by
            have := (List.getElem?_eq_some_iff.1 hu).1
            have e := mapM_some_length hcells
            rw [List.length_range] at e
            omega
          have := mapM_some_get hcells i i (by rw [List.getElem?_range hil])
          rw [hu] at this
          exact this
        refine ⟨xs ++ [x], by simp [h1], ?_, ?_, ?_⟩
        · intro y hy
          rcases List.mem_append.1 hy with hy | hy
          · exact h2 y hy
          · rw [List.mem_singleton.1 hy]; exact hwf
        · rw [List.take_succ_eq_append_getElem (by omega), List.map_append, bulkAll_append]
          simp only [sumOf, List.map_append, List.sum_append, List.map_cons, List.map_nil, List.sum_cons, List.sum_nil, Rows.uptoBulkAll] at h3 ⊢
          omega
        · intro j p hj
          rcases Nat.lt_or_ge j xs.length with hlt | hge
          · rw [List.getElem?_append_left hlt] at hj
            exact h4 j p hj
          · rw [List.getElem?_append_right hge] at hj
            have hj0 : j - xs.length = 0 := by
              rcases Nat.eq_zero_or_pos (j - xs.length) with h | h
              · exact h
              · rw [List.getElem?_eq_none (by simp; omega)] at hj; simp at hj
            rw [hj0] at hj
            obtain rfl : x = p := by simpa using hj
            obtain rfl : j = m := by omega
            exact ⟨c, hcl.1, hk, fun i u hu => by have z := hcl.2 i u hu; rw [add_more] at z; exact z⟩
    obtain ⟨xs, h1, h2, h3, h4⟩ := key elems.length (Nat.le_refl _)
    rw [List.take_length] at h3
    refine ⟨xs, ⟨some a, cap, by rw [h1, hel], by omega, ⟨rfl, ?_, fun _ => ⟨a, rfl, h4⟩⟩⟩, ⟨by omega, h2⟩, ?_⟩
    · unfold maxLen at hcm
      omega
    · simp only [Rows.uptoBulk]
      omega
def OpensF {β : Type} (fs : List Field) (off : Nat) (d : Kd β) (wf : β → Prop) (bulk : β → Nat) : Prop :=
  ∀ (H : Type) (enc : TypeId × Value → H) (W : World) (n : Nat) (cs : List Value) (xs : List (DataW H × List MemPlace)), xs.length = fs.length →
    (∀ (i : Nat) (f : Field), fs[i]? = some f → DataW.trod enc Try.prog W 0 (fun _ => true) true n f.type ((cs.drop f.offset).take (Try.prog.cellsOf f.type)) = xs[i]?) → cs.length = off + d.sz →
    ∃ x, d.K W x (cs.drop off) ∧ wf x ∧ bulk x ≤ Rows.uptoBulkAll (xs.map (·.1))
theorem OpensF.single {α : Type} {f : Field} {off : Nat} {d : Kd α} {wf : α → Prop} {bulk : α → Nat} (ho : f.offset = off) (h : Opens f.type d wf bulk) : OpensF [f] off d wf bulk := by
  intro H enc W n cs xs hl ht hc
  obtain ⟨hsz, hop⟩ := h
  obtain ⟨x0, rfl⟩ : ∃ x0, xs = [x0] := by
    match xs, hl with
    | [x0], _ => exact ⟨x0, rfl⟩
  have h0 := ht 0 f rfl
  rw [ho, hsz, List.take_of_length_le (by rw [List.length_drop]; omega)] at h0
  obtain ⟨x, hk, hw, hb⟩ := hop H enc W n _ _ _ h0
  exact ⟨x, hk, hw, by simpa [Rows.uptoBulkAll] using hb⟩
theorem OpensF.cons {α β : Type} {f : Field} {fs : List Field} {off off' : Nat} {a : Kd α} {b : Kd β} {wf : α → Prop} {bulk : α → Nat} {wf' : β → Prop} {bulk' : β → Nat} (ho : f.offset = off) (ho' : off' = off + a.sz) (h : Opens f.type a wf bulk) (hr : OpensF fs off' b wf' bulk') :
    OpensF (f :: fs) off (Kd.pair a b) (fun x => wf x.1 ∧ wf' x.2) (fun x => bulk x.1 + bulk' x.2) := by
  intro H enc W n cs xs hl ht hc
  subst ho'
  obtain ⟨hsz, hop⟩ := h
  obtain ⟨x0, xs', rfl⟩ : ∃ x0 xs', xs = x0 :: xs' := by
    match xs, hl with
    | x0 :: xs', _ => exact ⟨x0, xs', rfl⟩
  have h0 := ht 0 f rfl
  rw [ho, hsz] at h0
  obtain ⟨x, hk, hw, hb⟩ := hop H enc W n _ _ _ h0
  have hc' : cs.length = off + a.sz + b.sz := by
    have e : (Kd.pair a b).sz = a.sz + b.sz := rfl
    rw [e] at hc
    omega
  obtain ⟨y, hk', hw', hb'⟩ := hr H enc W n cs xs' (by simpa using hl) (fun i g hg => by have := ht (i + 1) g (by simpa using hg); simpa using this) hc'
  refine ⟨(x, y), ⟨(cs.drop off).take a.sz, cs.drop (off + a.sz), ?_, hk, hk'⟩, ⟨hw, hw'⟩, ?_⟩
  · rw [← List.drop_drop, List.take_append_drop]
  · simp only [List.map_cons, Rows.uptoBulkAll]
    omega
theorem opens_struct {α β : Type} {t : TypeId} {fs : Array Field} {d : Kd β} {wf : β → Prop} {bulk : β → Nat} (hu : Try.prog.underlying t = some (.struct fs)) (h : OpensF fs.toList 0 d wf bulk) (hc : Try.prog.cellsOf t = d.sz) (f : α → β) (g : β → α) (hg : ∀ x, f (g x) = x) :
    Opens t (Kd.iso d f) (fun x => wf (f x)) (fun x => bulk (f x) + 1) := by
  refine ⟨hc, fun H enc W fuel cs dd ps hh => ?_⟩
  obtain ⟨xs, n, rfl, hx, hcl, hlen, ht⟩ := DataW.trod_struct hu hh
  obtain ⟨rfl, rfl⟩ := Prod.mk.inj hx
  obtain ⟨x, hk, hw, hb⟩ := h H enc W n cs xs (by simpa using hlen) (fun i f hf => ht i f (by simpa using hf)) (by omega)
  refine ⟨g x, ?_, ?_, ?_⟩
  · show d.K W (f (g x)) cs
    rw [hg]
    exact hk
  · show wf (f (g x))
    rw [hg]
    exact hw
  · show bulk (f (g x)) + 1 ≤ _
    rw [hg]
    simp only [Rows.uptoBulk]
    omega
theorem glob {W : World} (h : W.ShapedOpen Try.prog) : Glob W :=
  cell_of_shapedOpen_int (g := 0) (t := 3) (zero := #[.int .i64 0]) (k := .i64) h (of_decide_eq_true (by kernel_rfl)) (by kernel_rfl) rfl (by kernel_rfl) (by kernel_rfl) Try.underlying3
end Rd
end Go.Proofs.Ytmpdpfojiepdkaa.Q

-- Printed by this session's wip/np.py over the kit's print program. Not trusted: Lean checks it.
namespace Go.Proofs.Ytmpdpfojiepdkaa.Q
open Go.RowKit Go.Proofs.YtmpdpfojiepdkaaW.PrintWords Go.Proofs.YtmpdpfojiepdkaaW.PrintLast Go.Proofs.YtmpdpfojiepdkaaW.Own Go.Proofs.YtmpdpfojiepdkaaW.PrintMore
set_option linter.unusedVariables false
set_option linter.unusedSimpArgs false

def wf29 (x : S29) : Prop := (True ∧ x.f1.size ≤ maxLen)
def bulk29 (x : S29) : Nat := (1 + (x.f1.size + 1)) + 1
theorem opens29 : Rd.Opens 29 k29 wf29 bulk29 := by
  have h := Rd.opens_struct Try.underlying29 (show Rd.OpensF _ 0 _ _ _ from (Rd.OpensF.cons (off' := 1) rfl (by kernel_rfl) (Rd.opens_bool Try.underlying4 (by kernel_rfl)) (Rd.OpensF.single rfl (Rd.opens_string Try.underlying9 (by kernel_rfl))))) (by kernel_rfl) (fun x : S29 => (x.f0, x.f1)) (fun x => ⟨x.1, x.2⟩) (fun _ => rfl)
  exact h
/-- The pure statement of newellaw10_ExprTells. -/
def newellaw10_ExprTells.PureUpto : Prop := ∀ (a0 : ByteArray) (l1 : List (S29)), (a0.size ≤ 140737488351232) → ((l1.length ≤ maxLen ∧ ∀ x_ ∈ l1, wf29 x_)) → ((a0.size + 1) + (Rd.sumOf (fun x_ => bulk29 x_) l1 + 1) ≤ 1048576) → ∃ k, newellaw10_ExprTells.f k a0 l1 = some true
end Go.Proofs.Ytmpdpfojiepdkaa.Q

namespace Go.Proofs.YtmpdpfojiepdkaaW.Px
open Go
theorem ba_ext {a b : ByteArray} (h : a.data.toList = b.data.toList) : a = b := by
  cases a; cases b; simp at h; subst h; rfl
theorem ba_size (a : ByteArray) : a.size = a.data.toList.length := Array.length_toList.symm
theorem ba_append (a b : ByteArray) : (a ++ b).data.toList = a.data.toList ++ b.data.toList := by simp [ByteArray.data_append]
theorem ba_toList (a : ByteArray) : a.toList = a.data.toList := Lib.toList_data a
theorem ba_extract (a : ByteArray) (i j : Nat) : (a.extract i j).data.toList = (a.data.toList.take j).drop i := by
  simp [ByteArray.data_extract, List.extract_eq_take_drop, List.drop_take]
def hasN : List UInt8 → Bool
  | [] => false
  | b :: l => (b == 36 && l.head? == some 123) || hasN l
theorem index_cons (b : UInt8) (l sub : List UInt8) : Lib.index (b :: l) sub = if sub.isPrefixOf (b :: l) then 0 else if Lib.index l sub == -1 then -1 else Lib.index l sub + 1 := by
  rw [Lib.index]
theorem index_ge (l sub : List UInt8) : -1 ≤ Lib.index l sub := by
  rcases Lib.index_spec l sub with ⟨h, _⟩ | ⟨i, h, _⟩ <;> omega
theorem pre_name (b : UInt8) (l : List UInt8) : ([36, 123] : List UInt8).isPrefixOf (b :: l) = (b == 36 && l.head? == some 123) := by
  cases l with
  | nil => simp [List.isPrefixOf]
  | cons c l => simp only [List.isPrefixOf, List.head?_cons, Bool.and_true]; rw [show ((36 : UInt8) == b) = (b == 36) from Bool.beq_comm, show ((123 : UInt8) == c) = (c == 123) from Bool.beq_comm]; rfl
theorem contains_hasN : ∀ l : List UInt8, Lib.contains l [36, 123] = hasN l
  | [] => by rfl
  | b :: l => by
    have ih := contains_hasN l
    have hg := index_ge l [36, 123]
    unfold Lib.contains at ih ⊢
    rw [index_cons, pre_name, hasN]
    by_cases c : (b == 36 && l.head? == some 123) = true
    · rw [if_pos c, c]; rfl
    · rw [if_neg c, Bool.eq_false_iff.2 c, ← ih, Bool.false_or]
      by_cases d : Lib.index l [36, 123] = -1
      · rw [d]; rfl
      · have : (Lib.index l [36, 123] == -1) = false := by simpa using d
        rw [this]
        simp only [Bool.false_eq_true, if_false]
        rw [Bool.eq_iff_iff]; simp only [decide_eq_true_eq]; omega
end Go.Proofs.YtmpdpfojiepdkaaW.Px

namespace Go.Proofs.Ytmpdpfojiepdkaa.Pure
open Go Go.RowKit Go.Proofs.Ytmpdpfojiepdkaa.Q Go.Proofs.YtmpdpfojiepdkaaW.PrintWords Go.Proofs.YtmpdpfojiepdkaaW.PrintLast Go.Proofs.YtmpdpfojiepdkaaW.Own Go.Proofs.YtmpdpfojiepdkaaW.PrintMore Go.Proofs.YtmpdpfojiepdkaaW.Px
set_option linter.unusedSimpArgs false
set_option linter.unusedVariables false
theorem occ_head {s sub : List UInt8} {c : UInt8} {j : Nat} (h : Lib.occAt s (c :: sub) j = true) : s[j]? = some c := by
  unfold Lib.occAt at h
  obtain ⟨t, ht⟩ := List.isPrefixOf_iff_prefix.1 h
  have : (s.drop j)[0]? = some c := by rw [← ht]; rfl
  simpa using this
theorem cut_at (t r sub : List UInt8) (c : UInt8) (h : ∀ x ∈ t, x ≠ c) : Lib.cut (t ++ ((c :: sub) ++ r)) (c :: sub) = (t, r, true) := by
  have e : Lib.index (t ++ ((c :: sub) ++ r)) (c :: sub) = (t.length : Int) := by
    refine Lib.index_first (by simp) ?_ ?_
    · unfold Lib.occAt
      rw [List.drop_left]
      exact List.isPrefixOf_iff_prefix.2 ⟨r, rfl⟩
    · intro j hj
      rw [Bool.eq_false_iff]
      intro ho
      have := occ_head ho
      rw [List.getElem?_append_left hj] at this
      exact h c (List.mem_of_getElem? this) rfl
  unfold Lib.cut
  rw [e, if_pos (by omega), Int.toNat_natCast, List.take_left, show t.length + (c :: sub).length = (t ++ (c :: sub)).length by simp, ← List.append_assoc, List.drop_left]
theorem cut_none (t sub : List UInt8) (c : UInt8) (h : ∀ x ∈ t, x ≠ c) : Lib.cut t (c :: sub) = (t, [], false) := by
  have e : Lib.index t (c :: sub) = -1 := by
    refine Lib.index_none ?_
    intro j hj
    rw [Bool.eq_false_iff]
    intro ho
    exact h c (List.mem_of_getElem? (occ_head ho)) rfl
  unfold Lib.cut
  rw [e]; rfl
theorem cut_spec (l sep : List UInt8) : (Lib.cut l sep = (l, [], false) ∧ Lib.index l sep = -1) ∨ ∃ b r, Lib.cut l sep = (b, r, true) ∧ l = b ++ (sep ++ r) ∧ Lib.index l sep = (b.length : Int) := by
  rcases Lib.index_spec l sep with ⟨h1, _⟩ | ⟨i, h1, h2, h3, _⟩
  · left
    unfold Lib.cut
    rw [h1]; exact ⟨rfl, rfl⟩
  · right
    unfold Lib.occAt at h3
    obtain ⟨t, ht⟩ := List.isPrefixOf_iff_prefix.1 h3
    refine ⟨l.take i, t, ?_, ?_, ?_⟩
    · unfold Lib.cut
      rw [h1, if_pos (by omega), Int.toNat_natCast, ← List.drop_drop, ← ht, List.drop_left]
    · rw [ht, List.take_append_drop]
    · rw [h1, List.length_take]; omega
theorem containsAny_any (chars : List UInt8) : ∀ l : List UInt8, Lib.containsAny l chars = l.any (fun b => chars.contains b)
  | [] => rfl
  | b :: l => by
    have ih := containsAny_any chars l
    have hg := Lib.indexAny_ge chars l
    unfold Lib.containsAny at ih ⊢
    rw [Lib.indexAny, List.any_cons, ← ih]
    by_cases c : chars.contains b = true
    · rw [if_pos c, c]; rfl
    · rw [if_neg c, Bool.eq_false_iff.2 c, Bool.false_or]
      by_cases d : Lib.indexAny l chars = -1
      · rw [d]; rfl
      · rw [if_neg (by simpa using d), Bool.eq_iff_iff]
        simp only [decide_eq_true_eq]; omega
def tx (l : List UInt8) : ByteArray := ⟨l.toArray⟩
theorem tx_toList (l : List UInt8) : (tx l).data.toList = l := rfl
theorem tx_data (a : ByteArray) : tx a.data.toList = a := ba_ext rfl
theorem tx_size (l : List UInt8) : (tx l).size = l.length := by rw [ba_size]; rfl
def txt (l : List UInt8) : S29 := ⟨false, tx l⟩
def nam (l : List UInt8) : S29 := ⟨true, tx l⟩
def goodN (l : List UInt8) : Bool := !l.isEmpty && l.all fun b => b != 36 && b != 123
def more (acc : List S29) (l : List UInt8) : List S29 := if l = [] then acc else acc ++ [txt l]
theorem split_step (k : Nat) (s : List UInt8) (acc : List S29) (hs : s.length < 4294967281) (ha : acc.length + 2 < 5864062014805) :
    expr_Split.l0 (k + 2) (tx s) acc = if (Lib.cut s [36, 123]).2.2 = true then
        (if (Lib.cut (Lib.cut s [36, 123]).2.1 [125]).2.2 = true ∧ goodN (Lib.cut (Lib.cut s [36, 123]).2.1 [125]).1 = true then
          expr_Split.l0 k (tx (Lib.cut (Lib.cut s [36, 123]).2.1 [125]).2.1) (more acc (Lib.cut s [36, 123]).1 ++ [nam (Lib.cut (Lib.cut s [36, 123]).2.1 [125]).1])
        else some ([], 17))
      else some (more acc (Lib.cut s [36, 123]).1, 0) := by
  have hsz : ∀ l : List UInt8, l.length ≤ s.length → (tx l).size < 4294967281 := fun l h => by rw [tx_size]; omega
  have q0 : ∀ (l sep : List UInt8), l.length ≤ s.length → strings_Cut.f (tx l) (tx sep) = some (tx (Lib.cut l sep).1, tx (Lib.cut l sep).2.1, (Lib.cut l sep).2.2) := fun l sep h => by
    unfold strings_Cut.f; rw [if_pos (hsz l h)]; rfl
  have ml : (more acc (Lib.cut s [36, 123]).1).length + 1 < 5864062014805 := by
    unfold more; split
    · omega
    · rw [List.length_append]; simp; omega
  have al : acc.length < 5864062014805 := by omega
  have len : ∀ l sep : List UInt8, (Lib.cut l sep).1.length ≤ l.length ∧ (Lib.cut l sep).2.1.length ≤ l.length := fun l sep => by
    rcases cut_spec l sep with ⟨h, _⟩ | ⟨b, r, h, e, _⟩
    · rw [h]; simp
    · rw [h]
      have := congrArg List.length e
      simp only [List.length_append] at this
      simp only
      omega
  have j1 : ∀ a f, (Lib.cut s [36, 123]).2.1 = a → expr_Split.j1 (k + 1) (more acc (Lib.cut s [36, 123]).1) (tx a) f = if f = true then
        (if (Lib.cut a [125]).2.2 = true ∧ goodN (Lib.cut a [125]).1 = true then
          expr_Split.l0 k (tx (Lib.cut a [125]).2.1) (more acc (Lib.cut s [36, 123]).1 ++ [nam (Lib.cut a [125]).1])
        else some ([], 17)) else some (more acc (Lib.cut s [36, 123]).1, 0) := by
    intro a f ea
    have la : a.length ≤ s.length := ea ▸ (len s [36, 123]).2
    rw [expr_Split.j1]
    by_cases hf : f = true
    · rw [if_pos hf, if_pos hf, show (⟨#[125]⟩ : ByteArray) = tx [125] from rfl, q0 a [125] la]
      simp only [Option.bind_some]
      by_cases hg : (Lib.cut a [125]).2.2 = true
      · rw [if_pos hg]
        by_cases he : (Lib.cut a [125]).1 = []
        · rw [if_pos (by rw [ba_toList, tx_toList]; exact he), if_neg (by intro h; rw [he] at h; exact absurd h.2 (by decide))]
        · rw [if_neg (by rw [ba_toList, tx_toList]; exact he)]
          have hc : strings_ContainsAny.f (tx (Lib.cut a [125]).1) (⟨#[36, 123]⟩ : ByteArray) = some (Lib.containsAny (Lib.cut a [125]).1 [36, 123]) := by
            unfold strings_ContainsAny.f
            rw [if_pos ⟨hsz _ (Nat.le_trans (len a [125]).1 la), by decide, by decide, by decide⟩]; rfl
          rw [hc]
          simp only [Option.bind_some]
          have gn : goodN (Lib.cut a [125]).1 = !(Lib.containsAny (Lib.cut a [125]).1 [36, 123]) := by
            rw [containsAny_any]
            unfold goodN
            have : (Lib.cut a [125]).1.isEmpty = false := by cases hq : (Lib.cut a [125]).1 with | nil => exact absurd hq he | cons _ _ => rfl
            rw [this, List.all_eq_not_any_not]
            simp only [Bool.not_false, Bool.true_and]
            congr 1
            congr 1
            funext b
            rw [Bool.eq_iff_iff]
            simp
          by_cases hn : Lib.containsAny (Lib.cut a [125]).1 [36, 123] = true
          · rw [if_pos hn, if_neg (by rw [gn, hn]; simp)]
          · rw [if_neg hn, if_pos (by omega), if_pos ⟨hg, by rw [gn, Bool.eq_false_iff.2 hn]; rfl⟩]
            rfl
      · rw [if_neg hg, if_neg (by intro h; exact hg h.1)]
    · rw [if_neg hf, if_neg hf]
  rw [expr_Split.l0, show (⟨#[36, 123]⟩ : ByteArray) = tx [36, 123] from rfl, q0 s [36, 123] (Nat.le_refl _)]
  simp only [Option.bind_some]
  rw [← j1 _ _ rfl]
  by_cases he : (Lib.cut s [36, 123]).1 = []
  · rw [if_pos (by rw [ba_toList, tx_toList]; exact he)]
    unfold more
    rw [if_pos he]
  · rw [if_neg (by rw [ba_toList, tx_toList]; exact he), if_pos al]
    conv => rhs; unfold more
    rw [if_neg he]
    rfl
theorem split_mono (k j : Nat) (s : ByteArray) (acc : List S29) (r) (h : expr_Split.l0 k s acc = some r) : expr_Split.l0 (k + j) s acc = some r := by
  induction j with
  | zero => exact h
  | succ j ih => exact (expr_Split.mono_l (k + j)).1 _ _ _ ih
def bytesOf : List S29 → List UInt8
  | [] => []
  | p :: l => (if p.f0 = true then 36 :: 123 :: (p.f1.data.toList ++ [125]) else p.f1.data.toList) ++ bytesOf l
theorem bytesOf_append (a b : List S29) : bytesOf (a ++ b) = bytesOf a ++ bytesOf b := by
  induction a with
  | nil => rfl
  | cons p l ih => rw [List.cons_append, bytesOf, bytesOf, ih, List.append_assoc]
theorem room_bytes (l : List S29) (h : ∀ p ∈ l, p.f1.size ≠ 0) : ExprJoin.room l ≤ 4 * (bytesOf l).length := by
  induction l with
  | nil => simp [ExprJoin.room, bytesOf]
  | cons p l ih =>
    have i := ih (fun q hq => h q (List.mem_cons_of_mem _ hq))
    have hp := h p (List.mem_cons_self ..)
    have hz := ba_size p.f1
    unfold ExprJoin.room at i ⊢
    rw [List.map_cons, List.sum_cons, bytesOf, List.length_append]
    split
    · simp only [List.length_cons, List.length_append, List.length_nil]; omega
    · omega
theorem split_any : ∀ (n : Nat) (s : List UInt8) (acc : List S29), s.length ≤ n → s.length < 4294967281 → acc.length + 2 * s.length + 2 < 5864062014805 →
    ∃ r e, expr_Split.l0 (2 * n + 2) (tx s) acc = some (r, e) ∧ ((e = 17 ∧ r = [] ∧ hasN s = true) ∨ (e = 0 ∧ ∃ t, r = acc ++ t ∧ bytesOf t = s ∧ (∀ p ∈ t, p.f1.size ≠ 0) ∧ (hasN s = false → t.length ≤ 1))) := by
  intro n
  induction n with
  | zero =>
    intro s acc h0 h1 h2
    obtain rfl : s = [] := List.eq_nil_of_length_eq_zero (by omega)
    rw [show 2 * 0 + 2 = 0 + 2 from rfl, split_step 0 [] acc (by simp) (by simp at h2; omega)]
    refine ⟨acc, 0, by simp [Lib.cut, Lib.index, more], Or.inr ⟨rfl, [], by simp, rfl, by simp, by simp⟩⟩
  | succ n ih =>
    intro s acc h0 h1 h2
    rw [show 2 * (n + 1) + 2 = (2 * n + 2) + 2 from by omega, split_step _ s acc h1 (by omega)]
    rcases cut_spec s [36, 123] with ⟨hc, hi⟩ | ⟨b, r, hc, e, hi⟩
    · rw [hc]
      simp only [Bool.false_eq_true, if_false]
      refine ⟨_, _, rfl, Or.inr ⟨rfl, ?_⟩⟩
      unfold more
      by_cases z : s = []
      · rw [if_pos z]; exact ⟨[], by simp, by rw [z]; rfl, by simp, by simp⟩
      · rw [if_neg z]
        refine ⟨[txt s], rfl, by simp [bytesOf, txt, tx_toList], ?_, by simp⟩
        intro p hp
        obtain rfl := List.mem_singleton.1 hp
        show (tx s).size ≠ 0
        rw [tx_size]
        intro h
        exact z (List.eq_nil_of_length_eq_zero h)
    · rw [hc]
      simp only [if_true]
      have hN : hasN s = true := by
        rw [← contains_hasN]
        unfold Lib.contains
        rw [hi]; simp
      rcases cut_spec r [125] with ⟨hd, _⟩ | ⟨m, t, hd, e2, _⟩
      · rw [hd]
        simp only [Bool.false_eq_true, false_and, if_false]
        exact ⟨_, _, rfl, Or.inl ⟨rfl, rfl, hN⟩⟩
      · rw [hd]
        simp only [true_and]
        by_cases g : goodN m = true
        · rw [if_pos g]
          have ls : s.length = b.length + (2 + (m.length + (1 + t.length))) := by rw [e, e2]; simp; omega
          have lm : (more acc b ++ [nam m]).length ≤ acc.length + 2 := by
            unfold more; split
            · simp
            · simp
          obtain ⟨r', e', hr, hx⟩ := ih t (more acc b ++ [nam m]) (by omega) (by omega) (by omega)
          refine ⟨r', e', hr, ?_⟩
          rcases hx with hx | ⟨he, u, hu, hb, hp, _⟩
          · exact Or.inl ⟨hx.1, hx.2.1, hN⟩
          · refine Or.inr ⟨he, ?_⟩
            have hz : ∀ l : List UInt8, l ≠ [] → (tx l).size ≠ 0 := fun l hl h => hl (List.eq_nil_of_length_eq_zero (by rw [← tx_size]; exact h))
            have gm : m ≠ [] := by intro h; rw [h] at g; exact absurd g (by decide)
            unfold more at hu
            by_cases z : b = []
            · rw [if_pos z] at hu
              refine ⟨[nam m] ++ u, by rw [hu, List.append_assoc], ?_, ?_, fun h => by rw [hN] at h; cases h⟩
              · rw [bytesOf_append, hb, e, e2, z]; simp [bytesOf, nam, tx_toList]
              · intro p hp'
                rcases List.mem_append.1 hp' with h | h
                · obtain rfl := List.mem_singleton.1 h; exact hz m gm
                · exact hp p h
            · rw [if_neg z] at hu
              refine ⟨[txt b, nam m] ++ u, by rw [hu]; simp, ?_, ?_, fun h => by rw [hN] at h; cases h⟩
              · rw [bytesOf_append, hb, e, e2]; simp [bytesOf, nam, txt, tx_toList]
              · intro p hp'
                rcases List.mem_append.1 hp' with h | h
                · rcases List.mem_cons.1 h with rfl | h
                  · exact hz b z
                  · obtain rfl := List.mem_singleton.1 h; exact hz m gm
                · exact hp p h
        · rw [if_neg g]
          exact ⟨_, _, rfl, Or.inl ⟨rfl, rfl, hN⟩⟩
end Go.Proofs.Ytmpdpfojiepdkaa.Pure

namespace Go.Proofs.Ytmpdpfojiepdkaa.Pure
open Go Go.RowKit Go.Proofs.Ytmpdpfojiepdkaa.Q Go.Proofs.YtmpdpfojiepdkaaW.PrintWords Go.Proofs.YtmpdpfojiepdkaaW.PrintLast Go.Proofs.YtmpdpfojiepdkaaW.Own Go.Proofs.YtmpdpfojiepdkaaW.PrintMore Go.Proofs.YtmpdpfojiepdkaaW.Px
set_option linter.unusedSimpArgs false
set_option linter.unusedVariables false
theorem awake_8 : newellaw10_awake.f 8 = some true := by kernel_rfl
theorem awake_ge (k : Nat) (h : 8 ≤ k) : newellaw10_awake.f k = some true := by
  obtain ⟨j, rfl⟩ := Nat.exists_eq_add_of_le h
  clear h
  induction j with
  | zero => exact awake_8
  | succ j ih => exact newellaw10_awake.mono _ _ ih
theorem has_told (a : ByteArray) (h : a.size < 4294967281) : expr_Has.f a = some (hasN a.data.toList) := by
  unfold expr_Has.f strings_Contains.f
  rw [if_pos h]
  simp only [Option.bind_some]
  rw [← contains_hasN]
theorem split_told (s : ByteArray) (hs : s.size ≤ 1000000) :
    ∃ r e, (∀ k, 2 * s.size + 2 ≤ k → expr_Split.f k s = some (r, e)) ∧ ((e = 17 ∧ r = [] ∧ hasN s.data.toList = true) ∨ (e = 0 ∧ bytesOf r = s.data.toList ∧ (∀ p ∈ r, p.f1.size ≠ 0) ∧ (hasN s.data.toList = false → r.length ≤ 1))) := by
  have hz := ba_size s
  obtain ⟨r, e, h, hx⟩ := split_any s.data.toList.length s.data.toList [] (Nat.le_refl _) (by omega) (by simp only [List.length_nil]; omega)
  refine ⟨r, e, ?_, ?_⟩
  · intro k hk
    obtain ⟨j, rfl⟩ := Nat.exists_eq_add_of_le hk
    unfold expr_Split.f
    rw [tx_data, ← hz] at h
    exact split_mono _ j _ _ _ h
  · rcases hx with hx | ⟨he, t, hr, hb, hp, hn⟩
    · exact Or.inl hx
    · rw [List.nil_append] at hr
      subst hr
      exact Or.inr ⟨he, hb, hp, hn⟩
theorem one_refl (l : List S29) (i : Int) : api_Piece_1.f ((rd_T29 l i).f0) ((rd_T29 l i).f1) ((rd_T29 l i).f0) ((rd_T29 l i).f1) = some true := by unfold api_Piece_1.f; simp
theorem same_end (l : List S29) (i k : Nat) (h : i = l.length) : api_Piece_40.l0 (k + 1) l l (i : Int) = some true := by
  rw [api_Piece_40.l0, if_neg (by omega)]
theorem same_next (l : List S29) (hl : l.length < 4000000000) (i k : Nat) (h : i < l.length) (ih : api_Piece_40.l0 k l l ((i + 1 : Nat) : Int) = some true) : api_Piece_40.l0 (k + 1) l l (i : Int) = some true := by
  have hw : wrap64 ((i : Int) + 1) = ((i + 1 : Nat) : Int) := by unfold wrap64; omega
  rw [api_Piece_40.l0, if_pos (by omega), if_pos (by omega), if_pos (by omega)]
  rw [one_refl]
  rw [Option.bind_some, if_pos rfl, hw]
  exact ih
theorem same_refl (l : List S29) (hl : l.length < 4000000000) (k : Nat) : ∀ (d i : Nat), i + d = l.length → api_Piece_40.l0 (k + d + 1) l l (i : Int) = some true := by
  intro d
  induction d with
  | zero => intro i h; exact same_end l i (k + 0) h
  | succ d ih => intro i h; exact same_next l hl i (k + (d + 1)) (by omega) (ih (i + 1) (by omega))
theorem plain_refl (l : List S29) (k : Nat) (hl : l.length < 4000000000) (hk : l.length < k) : api_Piece_17.f k l l = some true := by
  obtain ⟨j, rfl⟩ := Nat.exists_eq_add_of_le hk
  unfold api_Piece_17.f api_Piece_40.f
  rw [if_pos rfl, show l.length.succ + j = j + l.length + 1 from by omega]
  have := same_refl l hl j l.length 0 (by omega)
  rw [show (0 : Int) = ((0 : Nat) : Int) from rfl, this]
  rfl
theorem bt_some (s : ByteArray) (i : Nat) (h : i < s.size) : ∃ c : UInt8, s.data.toList[i]? = some c ∧ bt s (i : Int) = (c.toNat : Int) := by
  refine ⟨s[i]'h, ?_, ?_⟩
  · rw [List.getElem?_eq_getElem (by rw [← ba_size]; exact h)]; rfl
  · unfold bt; simp [h]
theorem bt_is (c : UInt8) (n : Nat) (hn : n < 256) : ((c.toNat : Int) = (n : Int)) ↔ c = UInt8.ofNat n := by
  constructor
  · intro h
    have : c.toNat = n := by omega
    rw [← this]; simp
  · rintro rfl
    simp; omega
end Go.Proofs.Ytmpdpfojiepdkaa.Pure

/- The plain law of ExprTells, about the functions that the walks compute. -/
namespace Go.Proofs.Ytmpdpfojiepdkaa.Pure
open Go Go.RowKit Go.Proofs.Ytmpdpfojiepdkaa.Q Go.Proofs.YtmpdpfojiepdkaaW.PrintWords Go.Proofs.YtmpdpfojiepdkaaW.PrintLast Go.Proofs.YtmpdpfojiepdkaaW.Own Go.Proofs.YtmpdpfojiepdkaaW.PrintMore Go.Proofs.YtmpdpfojiepdkaaW.Px
set_option linter.unusedSimpArgs false
set_option linter.unusedVariables false
/-- From some number of rounds on, the answer is this one. -/
def Ans {α : Type} (f : Nat → Option α) (v : α) : Prop := ∃ K, ∀ k, K ≤ k → f k = some v
theorem Ans.now {α : Type} {f : Nat → Option α} {v : α} (h : ∀ k, f k = some v) : Ans f v := ⟨0, fun k _ => h k⟩
theorem Ans.succ {α : Type} {f g : Nat → Option α} {v : α} (h : Ans g v) (e : ∀ k, f (k + 1) = g k) : Ans f v := by
  obtain ⟨K, h⟩ := h
  refine ⟨K + 1, fun k hk => ?_⟩
  obtain ⟨j, rfl⟩ : ∃ j, k = j + 1 := ⟨k - 1, by omega⟩
  rw [e, h j (by omega)]
theorem Ans.succ2 {α : Type} {f g : Nat → Option α} {v : α} (h : Ans g v) (e : ∀ k, f (k + 2) = g k) : Ans f v :=
  (Ans.succ (f := fun k => f (k + 1)) h e).succ fun _ => rfl
theorem Ans.bind {α β : Type} {f : Nat → Option α} {g : Nat → α → Option β} {v : α} {u : β} (h : Ans f v) (h2 : Ans (fun k => g k v) u) : Ans (fun k => (f k).bind (g k)) u := by
  obtain ⟨K, h⟩ := h
  obtain ⟨K2, h2⟩ := h2
  exact ⟨max K K2, fun k hk => by show (f k).bind (g k) = _; rw [h k (by omega), Option.bind_some]; exact h2 k (by omega)⟩
theorem Ans.one {α : Type} {f : Nat → Option α} {v u : α} (h : Ans f v) (h2 : Ans f u) : v = u := by
  obtain ⟨K, h⟩ := h
  obtain ⟨K2, h2⟩ := h2
  exact Option.some.inj ((h (max K K2) (by omega)).symm.trans (h2 (max K K2) (by omega)))
def begL : List UInt8 → Bool
  | [] => false
  | b :: l => b == 36 && l.head? == some 123
theorem w1 (i : Nat) (h : i < 1000000000) : wrap64 ((i : Int) + 1) = ((i + 1 : Nat) : Int) := by unfold wrap64; omega
theorem w2 (i : Nat) (h : i < 1000000000) : wrap64 ((i : Int) + 2) = ((i + 2 : Nat) : Int) := by unfold wrap64; omega
theorem at_drop (a : ByteArray) (i : Nat) (c : UInt8) (l : List UInt8) (h : a.data.toList.drop i = c :: l) : i < a.size ∧ bt a (i : Int) = (c.toNat : Int) ∧ a.data.toList.drop (i + 1) = l := by
  have hi : i < a.size := by
    rw [ba_size]
    rcases Nat.lt_or_ge i a.data.toList.length with h1 | h1
    · exact h1
    · rw [List.drop_eq_nil_of_le h1] at h; cases h
  obtain ⟨d, hd, hb⟩ := bt_some a i hi
  rw [List.drop_eq_getElem_cons (by rw [← ba_size]; exact hi)] at h
  injection h with h1 h2
  rw [List.getElem?_eq_getElem (by rw [← ba_size]; exact hi), h1] at hd
  obtain rfl := Option.some.inj hd
  exact ⟨hi, hb, h2⟩
theorem begins_told (a : ByteArray) (hs : a.size ≤ 1000) (i : Nat) (hi : i < a.size) : newelref10_begins.f a (i : Int) = some (begL (a.data.toList.drop i)) := by
  have hw := w1 i (by omega)
  unfold newelref10_begins.f
  rw [hw]
  obtain ⟨c, l, hl⟩ : ∃ c l, a.data.toList.drop i = c :: l := by
    cases h : a.data.toList.drop i with
    | nil => have := congrArg List.length h; rw [List.length_drop, ← ba_size] at this; simp at this; omega
    | cons c l => exact ⟨c, l, rfl⟩
  obtain ⟨_, hc, hl1⟩ := at_drop a i c l hl
  have e36 : (c.toNat : Int) = 36 ↔ c = 36 := bt_is c 36 (by decide)
  rw [hl]
  have hlen := congrArg List.length hl1
  rw [List.length_drop, ← ba_size] at hlen
  cases l with
  | nil =>
    simp at hlen
    rw [if_neg (by omega)]
    simp [begL]
  | cons d l =>
    simp at hlen
    obtain ⟨_, hd, _⟩ := at_drop a (i + 1) d l hl1
    have e123 : (d.toNat : Int) = 123 ↔ d = 123 := bt_is d 123 (by decide)
    rw [if_pos (by omega), if_pos (by omega), if_pos (by omega), hc, hd]
    by_cases h : c = 36
    · rw [if_pos (e36.2 h), if_pos (by omega)]
      congr 1
      rw [Bool.eq_iff_iff]
      simp [begL, h, e123]
    · rw [if_neg (fun q => h (e36.1 q))]
      simp [begL, h]
theorem hasN_cons (b : UInt8) (l : List UInt8) : hasN (b :: l) = (begL (b :: l) || hasN l) := rfl
theorem has_ref (a : ByteArray) (hs : a.size ≤ 1000) : ∀ (d i : Nat), i + d = a.size → Ans (fun k => newelref10_Has.l0 k a (i : Int)) (hasN (a.data.toList.drop i)) := by
  intro d
  induction d with
  | zero =>
    intro i h
    refine Ans.succ (g := fun _ => some (hasN (a.data.toList.drop i))) (Ans.now fun _ => rfl) fun k => ?_
    rw [newelref10_Has.l0, if_neg (by omega), List.drop_eq_nil_of_le (by rw [← ba_size]; omega)]; rfl
  | succ d ih =>
    intro i h
    have hi : i < a.size := by omega
    have hd : ∃ c, a.data.toList.drop i = c :: a.data.toList.drop (i + 1) := ⟨_, List.drop_eq_getElem_cons (by rw [← ba_size]; omega)⟩
    obtain ⟨c, hd⟩ := hd
    by_cases hb : begL (a.data.toList.drop i) = true
    · refine Ans.succ (g := fun _ => some (hasN (a.data.toList.drop i))) (Ans.now fun _ => rfl) fun k => ?_
      rw [newelref10_Has.l0, if_pos (by omega), begins_told a hs i hi, hb, Option.bind_some, if_pos rfl]
      rw [hd] at hb ⊢
      rw [hasN_cons, hb]; rfl
    · have hb := Bool.eq_false_iff.2 hb
      have ih := ih (i + 1) (by omega)
      have e : hasN (a.data.toList.drop i) = hasN (a.data.toList.drop (i + 1)) := by
        rw [hd] at hb ⊢
        rw [hasN_cons, hb]; rfl
      rw [e]
      refine Ans.succ ih fun k => ?_
      rw [newelref10_Has.l0, if_pos (by omega), begins_told a hs i hi, hb, Option.bind_some, if_neg (by decide), w1 i (by omega)]
/-- The reference at a text's end, and at a name. -/
theorem l0_end (a : ByteArray) (acc : List S29) (i : Nat) (h : a.size ≤ i) : Ans (fun k => newelref10_Split.l0 k a acc (i : Int)) (acc, 0) := by
  refine Ans.succ (g := fun _ => some (acc, 0)) (Ans.now fun _ => rfl) fun k => ?_
  rw [newelref10_Split.l0, if_neg (by omega)]
theorem l0_name (a : ByteArray) (hs : a.size ≤ 1000) (acc : List S29) (i : Nat) (h : begL (a.data.toList.drop i) = true) (hi : i < a.size) (v) (hv : Ans (fun k => newelref10_Split.l1 k a acc (i : Int) ((i + 2 : Nat) : Int)) v) : Ans (fun k => newelref10_Split.l0 k a acc (i : Int)) v := by
  refine Ans.succ hv fun k => ?_
  rw [newelref10_Split.l0, if_pos (by omega), begins_told a hs i hi, h, Option.bind_some, if_pos rfl, w2 i (by omega)]
theorem l0_text (a : ByteArray) (hs : a.size ≤ 1000) (acc : List S29) (i : Nat) (h : begL (a.data.toList.drop i) = false) (hi : i < a.size) (v) (hv : Ans (fun k => newelref10_Split.l2 k a acc (i : Int) (i : Int)) v) : Ans (fun k => newelref10_Split.l0 k a acc (i : Int)) v := by
  refine Ans.succ hv fun k => ?_
  rw [newelref10_Split.l0, if_pos (by omega), begins_told a hs i hi, h, Option.bind_some, if_neg (by decide)]
/-- A text, up to where no name begins. -/
theorem l2_text (a : ByteArray) (hs : a.size ≤ 1000) (acc : List S29) (ha : acc.length < 5864062014805) (i n : Nat) (hn : i + n ≤ a.size) (hb : ∀ j, j < n → begL (a.data.toList.drop (i + j)) = false) (he : i + n = a.size ∨ begL (a.data.toList.drop (i + n)) = true) (v)
    (hv : Ans (fun k => newelref10_Split.l0 k a (acc ++ [txt ((a.data.toList.drop i).take n)]) ((i + n : Nat) : Int)) v) : ∀ (d j : Nat), j + d = n → Ans (fun k => newelref10_Split.l2 k a acc (i : Int) ((i + j : Nat) : Int)) v := by
  have hx : a.extract ((i : Int)).toNat (((i + n : Nat) : Int)).toNat = tx ((a.data.toList.drop i).take n) := by
    apply ba_ext
    rw [ba_extract, tx_toList, Int.toNat_natCast, Int.toNat_natCast, List.drop_take]
    congr 1; omega
  intro d
  induction d with
  | zero =>
    intro j hj
    obtain rfl : j = n := by omega
    refine Ans.succ hv fun k => ?_
    rw [newelref10_Split.l2]
    by_cases hlt : ((i + j : Nat) : Int) < (a.size : Int)
    · rw [if_pos hlt, begins_told a hs (i + j) (by omega)]
      rcases he with he | he
      · omega
      · rw [he, Option.bind_some, if_pos rfl, if_pos (by omega), if_pos (by omega), if_pos (by omega), if_pos ha, hx]; rfl
    · rw [if_neg hlt, if_pos (by omega), if_pos (by omega), if_pos (by omega), if_pos ha, hx]; rfl
  | succ d ih =>
    intro j hj
    refine Ans.succ (ih (j + 1) (by omega)) fun k => ?_
    rw [newelref10_Split.l2, if_pos (by omega), begins_told a hs (i + j) (by omega), hb j (by omega), Option.bind_some, if_neg (by decide), w1 (i + j) (by omega)]
    rfl
/-- A name's letters, to the first sign that is none. -/
def stop (b : UInt8) : Bool := b == 36 || b == 123 || b == 125
theorem l1_name (a : ByteArray) (hs : a.size ≤ 1000) (acc : List S29) (ha : acc.length < 5864062014805) (i : Nat) (hi2 : i + 2 ≤ a.size) : ∀ (u m : List UInt8), a.data.toList.drop (i + 2) = m ++ u → (∀ x ∈ m, stop x = false) → ∀ v,
    (match u.dropWhile (fun b => !stop b) with
      | [] => v = ([], 17)
      | c :: r => if c = 125 ∧ (m ++ u.takeWhile (fun b => !stop b)) ≠ [] then Ans (fun k => newelref10_Split.l0 k a (acc ++ [nam (m ++ u.takeWhile (fun b => !stop b))]) ((i + 2 + (m ++ u.takeWhile (fun b => !stop b)).length + 1 : Nat) : Int)) v else v = ([], 17)) →
    Ans (fun k => newelref10_Split.l1 k a acc (i : Int) ((i + 2 + m.length : Nat) : Int)) v := by
  intro u
  induction u with
  | nil =>
    intro m hm hq v hv
    have hv : v = ([], 17) := hv
    subst hv
    have hl := congrArg List.length hm
    rw [List.length_drop, ← ba_size, List.append_nil] at hl
    refine Ans.succ (g := fun _ => some ([], 17)) (Ans.now fun _ => rfl) fun k => ?_
    by_cases h0 : m = []
    · subst h0
      simp at hl
      by_cases hlt : ((i + 2 : Nat) : Int) < (a.size : Int)
      · omega
      · rw [newelref10_Split.l1]
        simp only [List.length_nil, Nat.add_zero]
        rw [if_neg hlt, w2 i (by omega), if_pos rfl]
    · have hml : m.length ≠ 0 := fun h => h0 (List.eq_nil_of_length_eq_zero h)
      rw [newelref10_Split.l1, if_neg (by omega), w2 i (by omega), if_neg (by omega), if_pos (by omega)]
  | cons c u ih =>
    intro m hm hq v hv
    have hdm : a.data.toList.drop (i + 2 + m.length) = c :: u := by
      rw [← List.drop_drop, hm, List.drop_left]
    obtain ⟨hi, hc, _⟩ := at_drop a _ c u hdm
    have e36 : (c.toNat : Int) = 36 ↔ c = 36 := bt_is c 36 (by decide)
    have e123 : (c.toNat : Int) = 123 ↔ c = 123 := bt_is c 123 (by decide)
    have e125 : (c.toNat : Int) = 125 ↔ c = 125 := bt_is c 125 (by decide)
    by_cases hst : stop c = true
    · have hdw : (c :: u).dropWhile (fun b => !stop b) = c :: u := by rw [List.dropWhile_cons_of_neg (by simp [hst])]
      have htw : (c :: u).takeWhile (fun b => !stop b) = [] := by rw [List.takeWhile_cons_of_neg (by simp [hst])]
      rw [hdw, htw, List.append_nil] at hv
      simp only at hv
      by_cases h125 : c = 125
      · by_cases h0 : m = []
        · rw [if_neg (by simp [h0])] at hv
          subst hv
          refine Ans.succ (g := fun _ => some ([], 17)) (Ans.now fun _ => rfl) fun k => ?_
          rw [newelref10_Split.l1, if_pos (by omega), if_pos (by omega), hc, if_neg (by rw [e36, h125]; decide), if_neg (by rw [e123, h125]; decide), if_pos (e125.2 h125), w2 i (by omega), if_pos (by rw [h0]; rfl)]
        · rw [if_pos ⟨h125, h0⟩] at hv
          have hml : m.length ≠ 0 := fun h => h0 (List.eq_nil_of_length_eq_zero h)
          have hx : a.extract (((i + 2 : Nat) : Int)).toNat (((i + 2 + m.length : Nat) : Int)).toNat = tx m := by
            apply ba_ext
            rw [ba_extract, tx_toList, Int.toNat_natCast, Int.toNat_natCast, List.drop_take, hm, show i + 2 + m.length - (i + 2) = m.length from by omega, List.take_left]
          refine Ans.succ hv fun k => ?_
          rw [newelref10_Split.l1, if_pos (by omega), if_pos (by omega), hc, if_neg (by rw [e36, h125]; decide), if_neg (by rw [e123, h125]; decide), if_pos (e125.2 h125), w2 i (by omega), if_neg (by omega), if_neg (by omega), if_pos (by omega), if_pos (by omega), if_pos (by omega), if_pos ha, hx, w1 _ (by omega)]; rfl
      · rw [if_neg (fun h => h125 h.1)] at hv
        subst hv
        refine Ans.succ (g := fun _ => some ([], 17)) (Ans.now fun _ => rfl) fun k => ?_
        have hor : c = 36 ∨ c = 123 := by simpa [stop, h125] using hst
        rw [newelref10_Split.l1, if_pos (by omega), if_pos (by omega), hc, w2 i (by omega)]
        rcases hor with h | h
        · rw [if_pos (e36.2 h)]
          by_cases h2 : ((i + 2 + m.length : Nat) : Int) = ((i + 2 : Nat) : Int)
          · rw [if_pos h2]
          · rw [if_neg h2, if_neg (by omega), if_neg (by rw [e125, h]; decide)]
        · rw [if_neg (by rw [e36, h]; decide), if_pos (e123.2 h)]
          by_cases h2 : ((i + 2 + m.length : Nat) : Int) = ((i + 2 : Nat) : Int)
          · rw [if_pos h2]
          · rw [if_neg h2, if_neg (by omega), if_neg (by rw [e125, h]; decide)]
    · have hst := Bool.eq_false_iff.2 hst
      have hdw : (c :: u).dropWhile (fun b => !stop b) = u.dropWhile (fun b => !stop b) := by rw [List.dropWhile_cons_of_pos (by simp [hst])]
      have htw : (c :: u).takeWhile (fun b => !stop b) = c :: u.takeWhile (fun b => !stop b) := by rw [List.takeWhile_cons_of_pos (by simp [hst])]
      rw [hdw, htw, show m ++ c :: u.takeWhile (fun b => !stop b) = (m ++ [c]) ++ u.takeWhile (fun b => !stop b) from by simp] at hv
      have ih := ih (m ++ [c]) (by rw [hm]; simp) (by intro x hx; rcases List.mem_append.1 hx with h | h; exact hq x h; rw [List.mem_singleton] at h; rw [h]; exact hst) v hv
      refine Ans.succ ih fun k => ?_
      have h36 : c ≠ 36 := fun h => by rw [h] at hst; exact absurd hst (by decide)
      have h123 : c ≠ 123 := fun h => by rw [h] at hst; exact absurd hst (by decide)
      have h125 : c ≠ 125 := fun h => by rw [h] at hst; exact absurd hst (by decide)
      rw [newelref10_Split.l1, if_pos (by omega), if_pos (by omega), hc, if_neg (fun h => h36 (e36.1 h)), if_neg (fun h => h123 (e123.1 h)), if_neg (fun h => h125 (e125.1 h)), w1 _ (by omega)]
      simp only [List.length_append, List.length_singleton]; rfl
theorem cut_begs : ∀ (l : List UInt8), (Lib.index l [36, 123] = -1 → ∀ j, begL (l.drop j) = false) ∧ (∀ n : Nat, Lib.index l [36, 123] = (n : Int) → ∀ j, j < n → begL (l.drop j) = false)
  | [] => ⟨fun _ j => by simp [begL], fun n _ j _ => by simp [begL]⟩
  | b :: l => by
    obtain ⟨ih1, ih2⟩ := cut_begs l
    have hg := index_ge l [36, 123]
    rw [index_cons, pre_name]
    by_cases hb : (b == 36 && l.head? == some 123) = true
    · rw [if_pos hb]
      exact ⟨fun h => by omega, fun n h j hj => by omega⟩
    · rw [if_neg hb]
      have hb0 : begL (b :: l) = false := Bool.eq_false_iff.2 hb
      by_cases hi : (Lib.index l [36, 123] == -1) = true
      · rw [if_pos hi]
        have hi := beq_iff_eq.1 hi
        refine ⟨fun _ j => ?_, fun n h => by omega⟩
        cases j with
        | zero => exact hb0
        | succ j => exact ih1 hi j
      · rw [if_neg hi]
        refine ⟨fun h => ?_, fun n h j hj => ?_⟩
        · exact absurd (show Lib.index l [36, 123] = -2 by omega) (by omega)
        · cases j with
          | zero => exact hb0
          | succ j => exact ih2 (n - 1) (by omega) j (by omega)
theorem take_all (p : UInt8 → Bool) : ∀ (l : List UInt8), ∀ x ∈ l.takeWhile p, p x = true
  | [], x, h => absurd h (by simp)
  | b :: l, x, h => by
    by_cases hb : p b = true
    · rw [List.takeWhile_cons_of_pos hb] at h
      rcases List.mem_cons.1 h with h | h
      · rw [h]; exact hb
      · exact take_all p l x h
    · rw [List.takeWhile_cons_of_neg hb] at h; exact absurd h (by simp)
theorem cut_name (a : List UInt8) : (match a.dropWhile (fun b => !stop b) with
      | [] => ¬ ((Lib.cut a [125]).2.2 = true ∧ goodN (Lib.cut a [125]).1 = true)
      | c :: r => if c = 125 ∧ a.takeWhile (fun b => !stop b) ≠ [] then ((Lib.cut a [125]).2.2 = true ∧ goodN (Lib.cut a [125]).1 = true) ∧ (Lib.cut a [125]).1 = a.takeWhile (fun b => !stop b) ∧ (Lib.cut a [125]).2.1 = r else ¬ ((Lib.cut a [125]).2.2 = true ∧ goodN (Lib.cut a [125]).1 = true)) := by
  have hall : ∀ x ∈ a.takeWhile (fun b => !stop b), stop x = false := fun x hx => by
    have := take_all _ a x hx
    simpa using this
  have e : a = a.takeWhile (fun b => !stop b) ++ a.dropWhile (fun b => !stop b) := (List.takeWhile_append_dropWhile).symm
  have h125 : ∀ x, stop x = false → x ≠ 125 := fun x h q => by rw [q] at h; exact absurd h (by decide)
  generalize hm : a.takeWhile (fun b => !stop b) = m at *
  cases hd : a.dropWhile (fun b => !stop b) with
  | nil =>
    rw [hd, List.append_nil] at e
    simp only
    rw [e, cut_none m [] 125 (fun x hx => h125 x (hall x hx))]
    intro h; exact absurd (show false = true from h.1) (by decide)
  | cons c r =>
    rw [hd] at e
    have hc : stop c = true := by
      have := List.head?_dropWhile_not (fun b => !stop b) a
      rw [hd] at this
      simpa using this
    simp only
    by_cases hq : c = 125
    · have hcut : Lib.cut a [125] = (m, r, true) := by
        rw [e, hq]
        exact cut_at m r [] 125 (fun x hx => h125 x (hall x hx))
      rw [hcut]
      by_cases h0 : m = []
      · rw [if_neg (by simp [h0])]
        rw [h0]
        intro h; exact absurd (show goodN [] = true from h.2) (by decide)
      · rw [if_pos ⟨hq, h0⟩]
        refine ⟨⟨rfl, ?_⟩, rfl, rfl⟩
        unfold goodN
        have : m.isEmpty = false := by cases m with | nil => exact absurd rfl h0 | cons _ _ => rfl
        rw [this]
        simp only [Bool.not_false, Bool.true_and, List.all_eq_true]
        intro x hx
        have := hall x hx
        simp only [stop, Bool.or_eq_false_iff, beq_eq_false_iff_ne] at this
        simp [this.1.1, this.1.2]
    · rw [if_neg (fun h => hq h.1)]
      intro h
      rcases cut_spec a [125] with ⟨hc2, _⟩ | ⟨b, r2, hc2, he2, _⟩
      · rw [hc2] at h; exact absurd (show false = true from h.1) (by decide)
      · rw [hc2] at h
        have hg : goodN b = true := h.2
        have g1 : a[m.length]? = some c := by rw [e, List.getElem?_append_right (Nat.le_refl _), Nat.sub_self]; rfl
        have g2 : a[b.length]? = some 125 := by rw [he2, List.getElem?_append_right (Nat.le_refl _), Nat.sub_self]; rfl
        have hlt : m.length < b.length := by
          rcases Nat.lt_trichotomy m.length b.length with h | h | h
          · exact h
          · rw [h, g2] at g1; exact absurd (Option.some.inj g1).symm hq
          · rw [e, List.getElem?_append_left h] at g2
            exact absurd rfl (h125 _ (hall _ (List.mem_of_getElem? g2)))
        rw [he2, List.getElem?_append_left hlt] at g1
        have hcb := List.mem_of_getElem? g1
        unfold goodN at hg
        rw [Bool.and_eq_true, List.all_eq_true] at hg
        have hcc := hg.2 c hcb
        simp only [stop, Bool.or_eq_true, beq_iff_eq] at hc
        rcases hc with (hc | hc) | hc
        · rw [hc] at hcc; exact absurd hcc (by decide)
        · rw [hc] at hcc; exact absurd hcc (by decide)
        · exact hq hc
theorem both (a : ByteArray) (hs : a.size ≤ 1000) : ∀ (n : Nat) (rest : List UInt8) (acc : List S29) (i : Nat), rest.length ≤ n → a.data.toList.drop i = rest → i ≤ a.size → acc.length + 2 * rest.length + 4 < 5864062014805 →
    ∃ v, Ans (fun k => expr_Split.l0 k (tx rest) acc) v ∧ Ans (fun k => newelref10_Split.l0 k a acc (i : Int)) v := by
  intro n
  induction n with
  | zero =>
    intro rest acc i h hd hi ha
    obtain rfl := List.eq_nil_of_length_eq_zero (Nat.le_zero.1 h)
    have hz := congrArg List.length hd
    rw [List.length_drop, ← ba_size] at hz
    refine ⟨(acc, 0), ?_, l0_end a acc i (by simp at hz; omega)⟩
    refine Ans.succ2 (g := fun _ => some (acc, 0)) (Ans.now fun _ => rfl) fun k => ?_
    rw [split_step k [] acc (by decide) (by simp at ha; omega)]
    rfl
  | succ n ih =>
    intro rest acc i h hd hi ha
    have hz := congrArg List.length hd
    rw [List.length_drop, ← ba_size] at hz
    by_cases hr : rest = []
    · subst hr
      refine ⟨(acc, 0), ?_, l0_end a acc i (by simp at hz; omega)⟩
      refine Ans.succ2 (g := fun _ => some (acc, 0)) (Ans.now fun _ => rfl) fun k => ?_
      rw [split_step k [] acc (by decide) (by simp at ha; omega)]
      rfl
    have hrl : rest.length ≠ 0 := fun h => hr (List.eq_nil_of_length_eq_zero h)
    have step := fun k => split_step k rest acc (by omega) (by omega)
    rcases cut_spec rest [36, 123] with ⟨hc, hx⟩ | ⟨b, s, hc, he, hx⟩
    · have hb := (cut_begs rest).1 hx
      rw [hc] at step
      refine ⟨(acc ++ [txt rest], 0), ?_, ?_⟩
      · refine Ans.succ2 (g := fun _ => some (acc ++ [txt rest], 0)) (Ans.now fun _ => rfl) fun k => ?_
        rw [step]
        simp [more, hr]
      · have hb0 := hb 0
        rw [List.drop_zero] at hb0
        refine l0_text a hs acc i (by rw [hd]; exact hb0) (by omega) _ ?_
        refine l2_text a hs acc (by omega) i rest.length (by omega) (fun j _ => by rw [← List.drop_drop, hd]; exact hb j) (.inl (by omega)) _ ?_ rest.length 0 (by omega)
        rw [hd, List.take_length]
        exact l0_end a _ _ (by omega)
    · have hb := (cut_begs rest).2 b.length hx
      rw [hc] at step
      simp only [if_true] at step
      have hel := congrArg List.length he
      simp only [List.length_append, List.length_cons, List.length_nil] at hel
      have hml : (more acc b).length ≤ acc.length + 1 := by
        unfold more; split
        · omega
        · simp
      have hbeg : begL (a.data.toList.drop (i + b.length)) = true := by rw [← List.drop_drop, hd, he, List.drop_left]; rfl
      have hname : a.data.toList.drop (i + b.length + 2) = s := by
        rw [← List.drop_drop, ← List.drop_drop, hd, he, List.drop_left]; rfl
      -- the reference comes to the name
      have come : ∀ v, Ans (fun k => newelref10_Split.l1 k a (more acc b) ((i + b.length : Nat) : Int) ((i + b.length + 2 : Nat) : Int)) v → Ans (fun k => newelref10_Split.l0 k a acc (i : Int)) v := by
        intro v hv
        have hv0 := l0_name a hs (more acc b) (i + b.length) hbeg (by omega) v hv
        by_cases h0 : b = []
        · subst h0
          exact hv0
        · have hbl : b.length ≠ 0 := fun h => h0 (List.eq_nil_of_length_eq_zero h)
          have hb0 := hb 0 (by omega)
          rw [List.drop_zero] at hb0
          refine l0_text a hs acc i (by rw [hd]; exact hb0) (by omega) _ ?_
          refine l2_text a hs acc (by omega) i b.length (by omega) (fun j hj => by rw [← List.drop_drop, hd]; exact hb j hj) (.inr hbeg) _ ?_ b.length 0 (by omega)
          rw [hd, he, List.take_left]
          unfold more at hv0
          rw [if_neg h0] at hv0
          exact hv0
      have hcn := cut_name s
      have hl1 := l1_name a hs (more acc b) (by omega) (i + b.length) (by omega) s [] (by rw [hname]; rfl) (fun _ h => absurd h (by simp))
      simp only [List.nil_append, List.length_nil, Nat.add_zero] at hl1
      have bad : ¬ ((Lib.cut s [125]).2.2 = true ∧ goodN (Lib.cut s [125]).1 = true) → Ans (fun k => expr_Split.l0 k (tx rest) acc) ([], 17) := by
        intro hn
        refine Ans.succ2 (g := fun _ => some ([], 17)) (Ans.now fun _ => rfl) fun k => ?_
        rw [step, if_neg hn]
      cases hdw : s.dropWhile (fun b => !stop b) with
      | nil =>
        rw [hdw] at hcn hl1
        exact ⟨([], 17), bad hcn, come _ (hl1 _ rfl)⟩
      | cons c r =>
        rw [hdw] at hcn hl1
        simp only at hcn hl1
        by_cases hq : c = 125 ∧ s.takeWhile (fun b => !stop b) ≠ []
        · rw [if_pos hq] at hcn
          obtain ⟨hg, h1, h2⟩ := hcn
          have es : s = s.takeWhile (fun b => !stop b) ++ c :: r := by rw [← hdw]; exact (List.takeWhile_append_dropWhile).symm
          have esl := congrArg List.length es
          simp only [List.length_append, List.length_cons] at esl
          have hdr : a.data.toList.drop (i + b.length + 2 + (s.takeWhile (fun b => !stop b)).length + 1) = r := by
            generalize s.takeWhile (fun b => !stop b) = m at es
            rw [← List.drop_drop, ← List.drop_drop, hname, es, List.drop_left]
            rfl
          obtain ⟨v, hp, hf⟩ := ih r (more acc b ++ [nam (s.takeWhile (fun b => !stop b))]) (i + b.length + 2 + (s.takeWhile (fun b => !stop b)).length + 1) (by omega) hdr (by omega) (by rw [List.length_append]; simp only [List.length_singleton]; omega)
          refine ⟨v, ?_, come _ (hl1 _ (by rw [if_pos hq]; exact hf))⟩
          refine Ans.succ2 hp fun k => ?_
          rw [step, if_pos hg, h1, h2]
        · rw [if_neg hq] at hcn
          exact ⟨([], 17), bad hcn, come _ (hl1 _ (by rw [if_neg hq]))⟩
theorem room_sum (l : List S29) : Rd.sumOf (fun x_ => bulk29 x_) l = ExprJoin.room l := by
  induction l with
  | nil => rfl
  | cons p l ih =>
    have e : Rd.sumOf (fun x_ => bulk29 x_) (p :: l) = bulk29 p + Rd.sumOf (fun x_ => bulk29 x_) l := by simp [Rd.sumOf]
    have e2 : bulk29 p = p.f1.size + 3 := by unfold bulk29; omega
    rw [ExprJoin.room_cons, ← ih, e, e2]
theorem join_ref (l : List S29) (hl : ExprJoin.room l ≤ 1048576) : ∀ (d i : Nat), i + d = l.length → Ans (fun k => newelref10_Join.l0 k l (ExprJoin.joined (l.take i)) (i : Int)) (ExprJoin.joined l) := by
  intro d
  induction d with
  | zero =>
    intro i h
    refine Ans.succ (g := fun _ => some (ExprJoin.joined l)) (Ans.now fun _ => rfl) fun k => ?_
    rw [newelref10_Join.l0, if_neg (by omega), show i = l.length from by omega, List.take_length]
  | succ d ih =>
    intro i h
    have hi : i < l.length := by omega
    have hrl := ExprJoin.room_len l
    have hw : wrap64 ((i : Int) + 1) = ((i + 1 : Nat) : Int) := by unfold wrap64; omega
    have hr := ExprJoin.room_take l i hi
    have hj := ExprJoin.joined_size (l.take i)
    refine Ans.succ (ih (i + 1) (by omega)) fun k => ?_
    rw [newelref10_Join.l0, if_pos (by omega), if_pos (by omega), ExprJoin.rd_take l i hi]
    have e : ExprJoin.joined (l.take (i + 1)) = ExprJoin.joined (l.take i) ++ ExprJoin.piece l[i] := by
      rw [List.take_succ_eq_append_getElem hi, ExprJoin.joined_snoc]
    have s1 : (⟨#[36]⟩ : ByteArray).size = 1 := rfl
    have s2 : (⟨#[123]⟩ : ByteArray).size = 1 := rfl
    by_cases hf : l[i].f0 = true
    · rw [if_pos hf, if_pos (by omega), if_pos (by rw [ByteArray.size_append]; omega), if_pos (by rw [ByteArray.size_append, ByteArray.size_append]; omega), if_pos (by rw [ByteArray.size_append, ByteArray.size_append, ByteArray.size_append]; omega), hw]
      congr 1
      rw [e]
      unfold ExprJoin.piece
      rw [if_pos hf]
      apply ba_ext
      simp only [ba_append, List.append_assoc]
      rfl
    · rw [if_neg hf, if_pos (by omega), hw]
      congr 1
      rw [e]
      unfold ExprJoin.piece
      rw [if_neg hf]
theorem awake_ans : Ans (fun k => newellaw10_awake.f k) true := ⟨8, awake_ge⟩
theorem ExprTellsUpto : newellaw10_ExprTells.PureUpto := by
  intro a0 l1 h1 h2 h3
  suffices h : Ans (fun k => newellaw10_ExprTells.f k a0 l1) true by
    obtain ⟨K, h⟩ := h
    exact ⟨K, h K (Nat.le_refl _)⟩
  unfold newellaw10_ExprTells.f
  have shut : Ans (fun k => newellaw10_ExprTells.j0 k a0 l1 true) true := by
    refine Ans.succ (g := fun k => (newellaw10_awake.f k).bind fun t => some t) (Ans.bind awake_ans (Ans.now fun _ => rfl)) fun k => ?_
    rw [newellaw10_ExprTells.j0, if_pos rfl]
  by_cases c0 : (a0.size : Int) > 1000
  · simp only [if_pos c0]; exact shut
  simp only [if_neg c0]
  by_cases c1 : (l1.length : Int) > 50
  · simp only [decide_eq_true c1]; exact shut
  simp only [decide_eq_false c1]
  have hs : a0.size ≤ 1000 := by omega
  have hroom : ExprJoin.room l1 ≤ 1048576 := by rw [← room_sum]; omega
  have hsz := ba_size a0
  obtain ⟨⟨r, e⟩, hp, hf⟩ := both a0 hs a0.data.toList.length a0.data.toList [] 0 (Nat.le_refl _) (by rw [List.drop_zero]) (by omega) (by rw [← hsz]; simp only [List.length_nil]; omega)
  rw [tx_data] at hp
  have hrl : r.length ≤ 1000000 := by
    obtain ⟨r', e', h', hx⟩ := split_told a0 (by omega)
    have := Ans.one hp ⟨_, h'⟩
    injection this with q1 q2
    subst q1
    rcases hx with ⟨_, hx, _⟩ | ⟨_, hb, hp', _⟩
    · rw [hx]; exact Nat.zero_le _
    · have := ExprJoin.room_len r
      have h2 := room_bytes r hp'
      rw [hb, ← hsz] at h2
      omega
  have hj : expr_Join.f l1 = some (ExprJoin.joined l1) := by unfold expr_Join.f; rw [if_pos (by omega)]
  have hjr : Ans (fun k => newelref10_Join.f k l1) (ExprJoin.joined l1) := join_ref l1 hroom l1.length 0 (by omega)
  have hh : Ans (fun k => newelref10_Has.f k a0) (hasN a0.data.toList) := by
    have := has_ref a0 hs a0.size 0 (by omega)
    rwa [List.drop_zero] at this
  have ho : api_Piece_16.f l1 false (⟨#[55, 49]⟩ : ByteArray) = some l1 := by unfold api_Piece_16.f; rw [if_pos (by omega)]
  have hpl : Ans (fun k => api_Piece_17.f k r r) true := ⟨r.length + 1, fun k hk => plain_refl r k (by omega) (by omega)⟩
  have hk : Ans (fun k => api_Piece_22.f k l1 l1 false (⟨#[55, 49]⟩ : ByteArray)) true := ⟨l1.length + 1, fun k hk => by show api_Piece_22.f k l1 l1 false _ = _; unfold api_Piece_22.f; rw [if_pos rfl]; exact plain_refl l1 k (by omega) (by omega)⟩
  refine Ans.succ (g := fun k => (expr_Split.f k a0).bind fun bt152 => ((newelref10_Split.f k a0).bind fun bt156 => ((api_Piece_16.f l1 false (⟨#[55, 49]⟩ : ByteArray)).bind fun t160 => ((newellaw10_awake.f k).bind fun t163 => (if t163 = true then ((api_Piece_17.f k bt152.1 bt156.1).bind fun t164 => (if t164 = true then (if bt152.2 = bt156.2 then ((expr_Join.f t160).bind fun t165 => ((newelref10_Join.f k l1).bind fun t166 => (if t165.toList = t166.toList then ((expr_Has.f a0).bind fun t167 => ((newelref10_Has.f k a0).bind fun t168 => (if (t167 == t168) = true then ((api_Piece_22.f k t160 l1 false (⟨#[55, 49]⟩ : ByteArray)).bind fun t169 => (some t169)) else (some false)))) else (some false)))) else (some false)) else (some false))) else (some false)))))) ?_ fun k => by rw [newellaw10_ExprTells.j0, if_neg (by decide)]
  refine Ans.bind hp (Ans.bind hf ?_)
  simp only [ho, Option.bind_some]
  refine Ans.bind awake_ans ?_
  simp only [if_true]
  refine Ans.bind hpl ?_
  simp only [if_true, hj, Option.bind_some]
  refine Ans.bind hjr ?_
  simp only [if_true, has_told a0 (by omega), Option.bind_some]
  refine Ans.bind hh ?_
  simp only [beq_self_eq_true, if_true]
  exact Ans.bind hk (Ans.now fun _ => rfl)
end Go.Proofs.Ytmpdpfojiepdkaa.Pure
