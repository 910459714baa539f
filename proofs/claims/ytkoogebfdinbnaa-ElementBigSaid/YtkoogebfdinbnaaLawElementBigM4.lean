/- Texts put together: what functions of the program compute, and plain words about them. -/
import Derived.Test.YtkoogebfdinbnaaLawElementBigM1
import Derived.Test.YtkoogebfdinbnaaLawElementBigM2
import Derived.Test.YtkoogebfdinbnaaLawElementBigM3
import Derived.Test.YtkoogebfdinbnaaProg
import Derived.Test.YtkoogebfdinbnaaRows
import Derived.ChangeArms
import Derived.Deep.DeepHandedRow
import Derived.Shelf.Vars
import Derived.Below
import Derived.Deep.Draws
import Derived.Deep.AppendLies
import Derived.Maps.AppendAt
import Derived.OwnWalk
import Derived.Laws.BytesArg
import Derived.Laws.MakeOwn
import Derived.Laws.OwnMore
import Derived.Deep.OwnRows
import Derived.Tactics
import Derived.Lib.ConvBytes
import Derived.Laws.Slices
import Derived.WalkKit
import Derived.KernelRfl
import Derived.RowKit3
import Derived.Deep.LoopGhost
import Derived.Deep.QuietTactic
import Derived.BigQuiet
import Derived.WideLaws
import Derived.Deep.DeepCutAuto
import Derived.Deep.CutBlock
import Derived.Deep.RegionHeld3
import Derived.Laws.Rows
import Derived.Lib.AppendStr
import Derived.ArgAppend
import Derived.Laws.IdiomCopy
import Derived.OrdersHeld
import Derived.Laws.BitsLemmas
import Derived.RowKit

-- Printed by this session's wip/np.py over the kit's print program. Not trusted: Lean checks it.
namespace Go.Proofs.Ytkoogebfdinbnaa.Q
open Go.RowKit Go.Proofs.YtkoogebfdinbnaaW.PrintWords Go.Proofs.YtkoogebfdinbnaaW.PrintLast Go.Proofs.YtkoogebfdinbnaaW.Own Go.Proofs.YtkoogebfdinbnaaW.PrintMore
attribute [local go_sem] max2_int min2_int max_two min_two max_three min_three max_four min_four
set_option linter.unusedVariables false
set_option linter.unusedSimpArgs false

/-! ### newellaw03_ElementBig: function 7 -/
def newellaw03_ElementBig.l0 : Nat → Int → List (S40) → Int → Option (Bool)
 | 0, _, _, _ => none
 | k + 1, x0, x3, x4 => if x4 < x0 then (if x3.length < 1954687338268 then (newellaw03_ElementBig.l0 k x0 (x3 ++ [(⟨1, (⟨#[97]⟩ : ByteArray), (⟨#[]⟩ : ByteArray), ([] : List (S68)), true⟩ : S40)]) (wrap64 (x4 + 1))) else (none)) else (if x3.length < 1954687338268 then ((element_Tree.f (x3 ++ [(⟨2, (⟨#[114]⟩ : ByteArray), (⟨#[]⟩ : ByteArray), ([] : List (S68)), false⟩ : S40)])).bind fun bt276 => (if x0 > 2000 then ((newellaw03_awake.f k).bind fun t280 => (if t280 = true then (if bt276.2 = 3 then (some ((bt276.2 == 0) == ((bt276.1.length : Int) == x0))) else (some false)) else (some false))) else ((newellaw03_awake.f k).bind fun t281 => (if t281 = true then (if bt276.2 = 0 then (some (true == ((bt276.1.length : Int) == x0))) else (some false)) else (some false))))) else (none))
def newellaw03_ElementBig.f (k : Nat) (a0 : Int) : Option (Bool) := newellaw03_ElementBig.l0 k (wrap64 (1997 + (wrap64 (Int.tmod (IntKind.u64.wrap (a0)) 6)))) (([(⟨1, (⟨#[114]⟩ : ByteArray), (⟨#[]⟩ : ByteArray), ([] : List (S68)), false⟩ : S40)] : List (S40))) 1
theorem newellaw03_ElementBig.mono_l : ∀ k, (∀ y0 y1 y2, LeO (newellaw03_ElementBig.l0 k y0 y1 y2) (newellaw03_ElementBig.l0 (k + 1) y0 y1 y2))
 | 0 => fun _ _ _ r h => by simp [newellaw03_ElementBig.l0] at h
 | k + 1 => by
  have ih0 := newellaw03_ElementBig.mono_l k
  ·intro y0 y1 y2
   unfold newellaw03_ElementBig.l0
   repeat' first
   | (with_reducible exact ih0 _ _ _)
   | (with_reducible exact newellaw03_awake.mono _)
   | (with_reducible exact LeO.refl _)
   | (with_reducible exact LeO.none _)
   | (with_reducible refine LeO.ite ?_ ?_)
   | (with_reducible refine LeO.bind ?_ (fun _ => ?_))
   | exact ih0 _ _ _
   | exact newellaw03_awake.mono _
   | exact LeO.none _
   | refine LeO.ite ?_ ?_
   | refine LeO.bind ?_ (fun _ => ?_)
theorem newellaw03_ElementBig.mono : ∀ a0 k, LeO (newellaw03_ElementBig.f k a0) (newellaw03_ElementBig.f (k + 1) a0) := by
 intro a0 k
 have ih0 := newellaw03_ElementBig.mono_l k
 unfold newellaw03_ElementBig.f
 repeat' first
  | (with_reducible exact ih0 _ _ _)
  | (with_reducible exact newellaw03_awake.mono _)
  | (with_reducible exact LeO.refl _)
  | (with_reducible exact LeO.none _)
  | (with_reducible refine LeO.ite ?_ ?_)
  | (with_reducible refine LeO.bind ?_ (fun _ => ?_))
  | exact ih0 _ _ _
  | exact newellaw03_awake.mono _
  | exact LeO.none _
  | refine LeO.ite ?_ ?_
  | refine LeO.bind ?_ (fun _ => ?_)
set_option maxHeartbeats 8000000 in
set_option maxRecDepth 100000 in
theorem newellaw03_ElementBig.calls (k : Nat) (a0 : Int) (r : Bool) (w : World) (hG : Glob w) (h : newellaw03_ElementBig.f k a0 = some r) (hr_ : r = true) :
 Calls Try.prog 7 #[.int .i64 a0] w fun e w' => e = .returned (.bool r) ∧ Below w.heap.size w w' := by
 have hu40 := Try.underlying40
 have HG := Aside0.mk hG
 clear hG
 have HB := Aside0.mk (Below.refl w.heap.size w)
 have H : (newellaw03_ElementBig.l0 k (wrap64 (1997 + (wrap64 (Int.tmod (IntKind.u64.wrap (a0)) 6)))) (([(⟨1, (⟨#[114]⟩ : ByteArray), (⟨#[]⟩ : ByteArray), ([] : List (S68)), false⟩ : S40)] : List (S40))) 1) = some r := h
 clear h
 obtain ⟨y267, hy267⟩ : ∃ y_ : List (S40), y_ = (([(⟨1, (⟨#[114]⟩ : ByteArray), (⟨#[]⟩ : ByteArray), ([] : List (S68)), false⟩ : S40)] : List (S40))) := ⟨_, rfl⟩
 replace H : (newellaw03_ElementBig.l0 k (wrap64 (1997 + (wrap64 (Int.tmod (IntKind.u64.wrap (a0)) 6)))) y267 1) = some r := by first | (rw [hy267]; with_reducible exact H) | (have H2_ := (Option.bind_some _ _).symm.trans H; rw [hy267]; with_reducible exact H2_) | (have H2_ := (Option.bind_some _ _).symm.trans H; with_reducible exact H2_) | with_reducible exact H | (rw [hy267]; exact H) | exact H
 have Ny267 := Aside0.mk hy267
 clear hy267
 have H' := Aside0.mk H
 clear H
 go_enter Try.func7, Try.ntmps7
 go_wp2_with (first | ((with_reducible refine gate_dst (N := 14) rfl ?_); (try (refine gate_guard (by rfl) ?_; dsimp only)); refine Kd.S_lit k40 _ 40 ?hg (N := 14) ?hd (xs := ([(⟨1, (⟨#[114]⟩ : ByteArray), (⟨#[]⟩ : ByteArray), ([] : List (S68)), false⟩ : S40)] : List (S40))) (inner := [.int .i64 1, .string (⟨#[114]⟩ : ByteArray), .string (⟨#[]⟩ : ByteArray), .slice none 0 0, .bool false]) (ok := fun _ => True) (okp := fun _ => True) ?hr ?hp (fun _ hk => hk) trivial (Below.refl _ _) (Nat.le_refl _) (by simp) ?_; (case hd => rfl); (case hg => rfl); (case hr => first | (go_simp; done) | (go_simp; rfl)); (case hp => exact (Reps.c5 (show Kd.M k40 _ _ _ (⟨1, (⟨#[114]⟩ : ByteArray), (⟨#[]⟩ : ByteArray), ([] : List (S68)), false⟩ : S40) [.int .i64 1, .string (⟨#[114]⟩ : ByteArray), .string (⟨#[]⟩ : ByteArray), .slice none 0 0, .bool false] from (k40_mkM _ _ _ (⟨1, (⟨#[114]⟩ : ByteArray), (⟨#[]⟩ : ByteArray), ([] : List (S68)), false⟩ : S40) (Kd.R_nil _ _ _ _ _))) (Reps.none _ _))); intro v268 w2 ho3 hb hg_ hnew_; clear hg_ hnew_; (first | rw [← Ny267.out] at ho3 | (simp only [Int.reduceToNat] at ho3; rw [← Ny267.out] at ho3)); have n0_ := Aside0.mk (Kd.S_lower ho3 (below_size (by repeat (first | (with_reducible first | exact HB.out | apply below_alloc | apply pw_below_drewN | apply below_drew1) | exact HB.out)))); have n1_ := Aside0.mk (below_step (by repeat (first | (with_reducible first | exact HB.out | apply below_alloc | apply pw_below_drewN | apply below_drew1) | exact HB.out)) hb); clear HB; have HO269 := n0_; have HB := n1_; clear n0_ n1_; clear hb ho3))
 (try simp only [Act.put, List.setIfInBounds_toArray, List.set_cons_zero, List.set_cons_succ])
 go_loopg [3, 4] k (fun kq v3 v4 w' => ∃ (x3_1 : List (S40)) (x4_1 : Int), v4 = .int .i64 x4_1 ∧ Aside0 (newellaw03_ElementBig.l0 kq (wrap64 (1997 + (wrap64 (Int.tmod (IntKind.u64.wrap (a0)) 6)))) x3_1 x4_1 = some r) ∧ Aside0 (kq ≤ k) ∧ Aside0 (Kd.S k40 40 w' w.heap.size (fun _ => True) v3 x3_1) ∧ Aside0 (Below w.heap.size w w'))
 case atStart => exact ⟨(y267), (1), (by first | rfl | (simp; done) | (simp [*]; done) | (simp; exact isEmpty_bne _)), H', ⟨Nat.le_refl _⟩, ⟨by (with_reducible repeat (first | apply Kd.S_alloc | apply Kd.S_drewN | apply Kd.S_drew)); exact HO269.out⟩, ⟨by repeat (first | (with_reducible first | exact HB.out | apply below_alloc | apply pw_below_drewN | apply below_drew1) | exact HB.out)⟩⟩
 case round =>
  clear H'
  try clear p2
  obtain ⟨x3_1, x4_1, rfl, HA, HK1, HO_3, HB⟩ := hrel
  cases gk with
  | zero => exact absurd HA.out (by simp [newellaw03_ElementBig.l0])
  | succ k1 =>
   have H := HA.out
   clear HA
   simp only [newellaw03_ElementBig.l0] at H
   by_cases c4 : x4_1 < (wrap64 (1997 + (wrap64 (Int.tmod (IntKind.u64.wrap (a0)) 6))))
   ·rw [if_pos c4] at H
    have c4b0 : decide (x4_1 < (wrap64 (1997 + (wrap64 (Int.tmod (IntKind.u64.wrap (a0)) 6))))) = true := decide_eq_true c4
    clear c4
    by_cases c5 : x3_1.length < 1954687338268
    ·rw [if_pos c5] at H
     have LMc5 := Aside0.mk c5
     clear c5
     obtain ⟨y270, hy270⟩ : ∃ y_ : List (S40), y_ = (x3_1 ++ [(⟨1, (⟨#[97]⟩ : ByteArray), (⟨#[]⟩ : ByteArray), ([] : List (S68)), true⟩ : S40)]) := ⟨_, rfl⟩
     replace H : (newellaw03_ElementBig.l0 k1 (wrap64 (1997 + (wrap64 (Int.tmod (IntKind.u64.wrap (a0)) 6)))) y270 (wrap64 (x4_1 + 1))) = some r := by first | (rw [hy270]; with_reducible exact H) | (have H2_ := (Option.bind_some _ _).symm.trans H; rw [hy270]; with_reducible exact H2_) | (have H2_ := (Option.bind_some _ _).symm.trans H; with_reducible exact H2_) | with_reducible exact H | (rw [hy270]; exact H) | exact H
     have Ny270 := Aside0.mk hy270
     clear hy270
     have H' := Aside0.mk H
     clear H
     go_wp2_with (first | ((with_reducible refine gate_builtin (b := .append) (xs := #[.tmp 20, .tmp 22]) rfl ?_); (try (refine gate_guard (by rfl) ?_; dsimp only)); at_builtin; refine Kd.S_append k40 (w0 := w) w.heap.size rfl (.tmp 20) (.tmp 22) 41 40 (.agg #[(.int .i64 0), (.string ⟨#[]⟩), (.string ⟨#[]⟩), (.slice none 0 0), (.bool false)]) 72 rfl Try.underlying41 info40 rfl (by decide) (by omega) u3 x3_1 (⟨1, (⟨#[97]⟩ : ByteArray), (⟨#[]⟩ : ByteArray), ([] : List (S68)), true⟩ : S40) [.int .i64 1, .string (⟨#[97]⟩ : ByteArray), .string (⟨#[]⟩ : ByteArray), .slice none 0 0, .bool true] (fun _ => True) (fun _ => False) rfl rfl ?aP (fun k_ hk_ => hk_.elim) ?aF ?aO ?aB ?aS ?aL ?_; (case aP => exact k40_mkM _ _ _ (⟨1, (⟨#[97]⟩ : ByteArray), (⟨#[]⟩ : ByteArray), ([] : List (S68)), true⟩ : S40) (Kd.R_nil _ _ _ _ _)); (case aB => exact (by repeat (first | (with_reducible first | exact HB.out | apply below_alloc | apply pw_below_drewN | apply below_drew1) | exact HB.out))); (case aF => exact (fun _ _ => trivial)); (case aO => exact (by (with_reducible repeat (first | apply Kd.S_alloc | apply Kd.S_drewN | apply Kd.S_drew)); exact Kd.S_mono HO_3.out (fun k_ hk => ⟨trivial, fun e_ => e_⟩))); (case aS => exact (below_size (by repeat (first | (with_reducible first | exact HB.out | apply below_alloc | apply pw_below_drewN | apply below_drew1) | exact HB.out)))); (case aL => have := LMc5.out; omega); intro v271 w6 ho hb hg hat; rw [← Ny270.out] at ho; have n0_ := Aside0.mk (hb); have n1_ := Aside0.mk (ho); clear HB; clear HO_3; have HB := n0_; have HO272 := n1_; clear n0_ n1_; clear ho hb hg hat))
     go_roundg k1
     case measure => have := HK1.out; omega
     case rel => exact ⟨(y270), (wrap64 (x4_1 + 1)), (by first | rfl | (simp; done) | (simp [*]; done) | (simp; exact isEmpty_bne _)), H', ⟨by have := HK1.out; omega⟩, ⟨by (with_reducible repeat (first | apply Kd.S_alloc | apply Kd.S_drewN | apply Kd.S_drew)); exact HO272.out⟩, ⟨by repeat (first | (with_reducible first | exact HB.out | apply below_alloc | apply pw_below_drewN | apply below_drew1) | exact HB.out)⟩⟩
    ·rw [if_neg c5] at H
     exact absurd H (by simp)
   ·rw [if_neg c4] at H
    have c4b0 : decide (x4_1 < (wrap64 (1997 + (wrap64 (Int.tmod (IntKind.u64.wrap (a0)) 6))))) = false := decide_eq_false c4
    clear c4
    by_cases c7 : x3_1.length < 1954687338268
    ·rw [if_pos c7] at H
     have LMc7 := Aside0.mk c7
     clear c7
     obtain ⟨y273, hy273⟩ : ∃ y_ : List (S40), y_ = (x3_1 ++ [(⟨2, (⟨#[114]⟩ : ByteArray), (⟨#[]⟩ : ByteArray), ([] : List (S68)), false⟩ : S40)]) := ⟨_, rfl⟩
     replace H : ((element_Tree.f y273).bind fun bt276 => (if (wrap64 (1997 + (wrap64 (Int.tmod (IntKind.u64.wrap (a0)) 6)))) > 2000 then ((newellaw03_awake.f k1).bind fun t280 => (if t280 = true then (if bt276.2 = 3 then (some ((bt276.2 == 0) == ((bt276.1.length : Int) == (wrap64 (1997 + (wrap64 (Int.tmod (IntKind.u64.wrap (a0)) 6))))))) else (some false)) else (some false))) else ((newellaw03_awake.f k1).bind fun t281 => (if t281 = true then (if bt276.2 = 0 then (some (true == ((bt276.1.length : Int) == (wrap64 (1997 + (wrap64 (Int.tmod (IntKind.u64.wrap (a0)) 6))))))) else (some false)) else (some false))))) = some r := by first | (rw [hy273]; with_reducible exact H) | (have H2_ := (Option.bind_some _ _).symm.trans H; rw [hy273]; with_reducible exact H2_) | (have H2_ := (Option.bind_some _ _).symm.trans H; with_reducible exact H2_) | with_reducible exact H | (rw [hy273]; exact H) | exact H
     have Ny273 := Aside0.mk hy273
     clear hy273
     replace H := Option.bind_eq_some_iff.mp H
     obtain ⟨⟨t276, t277⟩, A80, H⟩ := H
     replace H : (if (wrap64 (1997 + (wrap64 (Int.tmod (IntKind.u64.wrap (a0)) 6)))) > 2000 then ((newellaw03_awake.f k1).bind fun t280 => (if t280 = true then (if t277 = 3 then (some ((t277 == 0) == ((t276.length : Int) == (wrap64 (1997 + (wrap64 (Int.tmod (IntKind.u64.wrap (a0)) 6))))))) else (some false)) else (some false))) else ((newellaw03_awake.f k1).bind fun t281 => (if t281 = true then (if t277 = 0 then (some (true == ((t276.length : Int) == (wrap64 (1997 + (wrap64 (Int.tmod (IntKind.u64.wrap (a0)) 6))))))) else (some false)) else (some false)))) = some r := H
     have A8 := Aside0.mk A80
     clear A80
     by_cases c9 : (wrap64 (1997 + (wrap64 (Int.tmod (IntKind.u64.wrap (a0)) 6)))) > 2000
     ·rw [if_pos c9] at H
      have c9b0 : decide (2000 < (wrap64 (1997 + (wrap64 (Int.tmod (IntKind.u64.wrap (a0)) 6))))) = true := decide_eq_true c9
      clear c9
      replace H := Option.bind_eq_some_iff.mp H
      obtain ⟨t280, A100, H⟩ := H
      replace H : (if t280 = true then (if t277 = 3 then (some ((t277 == 0) == ((t276.length : Int) == (wrap64 (1997 + (wrap64 (Int.tmod (IntKind.u64.wrap (a0)) 6))))))) else (some false)) else (some false)) = some r := H
      have A10 := Aside0.mk A100
      clear A100
      by_cases c11 : t280 = true
      ·subst c11
       have H1 : (if t277 = 3 then (some ((t277 == 0) == ((t276.length : Int) == (wrap64 (1997 + (wrap64 (Int.tmod (IntKind.u64.wrap (a0)) 6))))))) else (some false)) = some r := by rw [if_pos rfl] at H; exact H
       clear H
       have H := H1
       clear H1
       by_cases c12 : t277 = 3
       ·rw [if_pos c12] at H
        have c12b0 : (t277 == 3) = true := beq_iff_eq.mpr c12
        have c12b1 : (t277 != 3) = false := bne_eq_false_iff_eq.mpr c12
        clear c12
        obtain rfl := Option.some.inj H
        go_wp2_with (first | ((with_reducible refine gate_builtin (b := .append) (xs := #[.tmp 24, .tmp 26]) rfl ?_); (try (refine gate_guard (by rfl) ?_; dsimp only)); at_builtin; refine Kd.S_append k40 (w0 := w) w.heap.size rfl (.tmp 24) (.tmp 26) 41 40 (.agg #[(.int .i64 0), (.string ⟨#[]⟩), (.string ⟨#[]⟩), (.slice none 0 0), (.bool false)]) 72 rfl Try.underlying41 info40 rfl (by decide) (by omega) u3 x3_1 (⟨2, (⟨#[114]⟩ : ByteArray), (⟨#[]⟩ : ByteArray), ([] : List (S68)), false⟩ : S40) [.int .i64 2, .string (⟨#[114]⟩ : ByteArray), .string (⟨#[]⟩ : ByteArray), .slice none 0 0, .bool false] (fun _ => True) (fun _ => False) rfl rfl ?aP (fun k_ hk_ => hk_.elim) ?aF ?aO ?aB ?aS ?aL ?_; (case aP => exact k40_mkM _ _ _ (⟨2, (⟨#[114]⟩ : ByteArray), (⟨#[]⟩ : ByteArray), ([] : List (S68)), false⟩ : S40) (Kd.R_nil _ _ _ _ _)); (case aB => exact (by repeat (first | (with_reducible first | exact HB.out | apply below_alloc | apply pw_below_drewN | apply below_drew1) | exact HB.out))); (case aF => exact (fun _ _ => trivial)); (case aO => exact (by (with_reducible repeat (first | apply Kd.S_alloc | apply Kd.S_drewN | apply Kd.S_drew)); exact Kd.S_mono HO_3.out (fun k_ hk => ⟨trivial, fun e_ => e_⟩))); (case aS => exact (below_size (by repeat (first | (with_reducible first | exact HB.out | apply below_alloc | apply pw_below_drewN | apply below_drew1) | exact HB.out)))); (case aL => have := LMc7.out; omega); intro v274 w13 ho hb hg hat; rw [← Ny273.out] at ho; have n0_ := Aside0.mk (hb); have n1_ := Aside0.mk (ho); clear HB; clear HO_3; have HB := n0_; have HO275 := n1_; clear n0_ n1_; clear ho hb hg hat; obtain ⟨Ao14, co14, eo14⟩ := Kd.S_slice HO275.out; subst eo14) | ((with_reducible refine gate_callee (f := 13) rfl ?_); refine goesL_ (some 30) rfl rfl Try.func13 (by kernel_rfl) rfl #[.slice Ao14 y273.length co14] rfl (by (try simp only [List.map_toArray, List.map_cons, List.map_nil]); first | done | rfl | (simp only [List.length_drop, List.length_take]; rfl)) ?_; (with_reducible refine (element_Tree.calls _ _ y273 t276 t277 _ ?side1 ?side2 ?side3 A8.out).mono ?_); (case side1 => repeat (first | exact (Kd.S_reads' HO275.out).2.2 | (with_reducible refine Kd.C_alloc ?_ _) | (with_reducible refine Kd.C_drewN ?_ _) | (with_reducible refine Kd.C_drew ?_))); (case side2 => exact (Kd.S_reads' HO275.out).2.1); (case side3 => exact Glob.step HG.out (by repeat (first | (with_reducible first | exact HB.out | apply below_alloc | apply pw_below_drewN | apply below_drew1) | exact HB.out))); rintro e w15 ⟨v278, rfl, ho0, hb⟩; refine ⟨_, rfl, ?_⟩; have n0_ := Aside0.mk (Kd.S_below (by (with_reducible repeat (first | apply Kd.S_alloc | apply Kd.S_drewN | apply Kd.S_drew)); exact HO275.out) hb); have n1_ := Aside0.mk (Kd.S_lower ho0 (below_size (by repeat (first | (with_reducible first | exact HB.out | apply below_alloc | apply pw_below_drewN | apply below_drew1) | exact HB.out)))); have n2_ := Aside0.mk (below_step (by repeat (first | (with_reducible first | exact HB.out | apply below_alloc | apply pw_below_drewN | apply below_drew1) | exact HB.out)) hb); clear HO275; clear HB; have HO275 := n0_; have HO279 := n1_; have HB := n2_; clear n0_ n1_ n2_; (try clear hb); (try clear hb2); (try clear hk); (try clear hi); (try clear ho0)) | ((with_reducible refine gate_callee (f := 8) rfl ?_); refine goesL_ (some 35) rfl rfl Try.func8 (by kernel_rfl) rfl #[] rfl (by (try simp only [List.map_toArray, List.map_cons, List.map_nil]); first | done | rfl | (simp only [List.length_drop, List.length_take]; rfl)) ?_; (with_reducible refine (newellaw03_awake.calls k1  true _ ?side1 A10.out).mono ?_); (case side1 => exact Glob.step HG.out (by repeat (first | (with_reducible first | exact HB.out | apply below_alloc | apply pw_below_drewN | apply below_drew1) | exact HB.out))); rintro e w16 ⟨rfl, hb⟩; refine ⟨_, rfl, ?_⟩; have n0_ := Aside0.mk (Kd.S_below (by (with_reducible repeat (first | apply Kd.S_alloc | apply Kd.S_drewN | apply Kd.S_drew)); exact HO275.out) hb); have n1_ := Aside0.mk (Kd.S_below (by (with_reducible repeat (first | apply Kd.S_alloc | apply Kd.S_drewN | apply Kd.S_drew)); exact HO279.out) hb); have n2_ := Aside0.mk (below_step (by repeat (first | (with_reducible first | exact HB.out | apply below_alloc | apply pw_below_drewN | apply below_drew1) | exact HB.out)) hb); clear HO275; clear HO279; clear HB; have HO275 := n0_; have HO279 := n1_; have HB := n2_; clear n0_ n1_ n2_; (try clear hb); (try clear hb2); (try clear hk); (try clear hi); obtain ⟨Ao17, co17, eo17⟩ := Kd.S_slice HO279.out; subst eo17))
        go_ret
        exact ⟨by first | rfl | (simp [errW_none, errW_some] <;> rfl) | (simp [*, errW_none, errW_some] <;> rfl), by repeat (first | (with_reducible first | exact HB.out | apply below_alloc | apply pw_below_drewN | apply below_drew1) | exact HB.out)⟩
       ·rw [if_neg c12] at H
        have c12b0 : (t277 == 3) = false := beq_eq_false_iff_ne.mpr c12
        have c12b1 : (t277 != 3) = true := bne_iff_ne.mpr c12
        exfalso
        obtain rfl := Option.some.inj H
        exact absurd hr_ (by decide)
      ·replace c11 := Bool.eq_false_iff.mpr c11
       subst c11
       have H1 : (some false) = some r := by rw [if_neg (show ¬ (false = true) by decide)] at H; exact H
       clear H
       have H := H1
       clear H1
       exfalso
       obtain rfl := Option.some.inj H
       exact absurd hr_ (by decide)
     ·rw [if_neg c9] at H
      have c9b0 : decide (2000 < (wrap64 (1997 + (wrap64 (Int.tmod (IntKind.u64.wrap (a0)) 6))))) = false := decide_eq_false c9
      clear c9
      replace H := Option.bind_eq_some_iff.mp H
      obtain ⟨t281, A180, H⟩ := H
      replace H : (if t281 = true then (if t277 = 0 then (some (true == ((t276.length : Int) == (wrap64 (1997 + (wrap64 (Int.tmod (IntKind.u64.wrap (a0)) 6))))))) else (some false)) else (some false)) = some r := H
      have A18 := Aside0.mk A180
      clear A180
      by_cases c19 : t281 = true
      ·subst c19
       have H1 : (if t277 = 0 then (some (true == ((t276.length : Int) == (wrap64 (1997 + (wrap64 (Int.tmod (IntKind.u64.wrap (a0)) 6))))))) else (some false)) = some r := by rw [if_pos rfl] at H; exact H
       clear H
       have H := H1
       clear H1
       by_cases c20 : t277 = 0
       ·rw [if_pos c20] at H
        have c20b0 : (t277 == 0) = true := beq_iff_eq.mpr c20
        have c20b1 : (t277 != 0) = false := bne_eq_false_iff_eq.mpr c20
        clear c20
        obtain rfl := Option.some.inj H
        go_wp2_with (first | ((with_reducible refine gate_builtin (b := .append) (xs := #[.tmp 24, .tmp 26]) rfl ?_); (try (refine gate_guard (by rfl) ?_; dsimp only)); at_builtin; refine Kd.S_append k40 (w0 := w) w.heap.size rfl (.tmp 24) (.tmp 26) 41 40 (.agg #[(.int .i64 0), (.string ⟨#[]⟩), (.string ⟨#[]⟩), (.slice none 0 0), (.bool false)]) 72 rfl Try.underlying41 info40 rfl (by decide) (by omega) u3 x3_1 (⟨2, (⟨#[114]⟩ : ByteArray), (⟨#[]⟩ : ByteArray), ([] : List (S68)), false⟩ : S40) [.int .i64 2, .string (⟨#[114]⟩ : ByteArray), .string (⟨#[]⟩ : ByteArray), .slice none 0 0, .bool false] (fun _ => True) (fun _ => False) rfl rfl ?aP (fun k_ hk_ => hk_.elim) ?aF ?aO ?aB ?aS ?aL ?_; (case aP => exact k40_mkM _ _ _ (⟨2, (⟨#[114]⟩ : ByteArray), (⟨#[]⟩ : ByteArray), ([] : List (S68)), false⟩ : S40) (Kd.R_nil _ _ _ _ _)); (case aB => exact (by repeat (first | (with_reducible first | exact HB.out | apply below_alloc | apply pw_below_drewN | apply below_drew1) | exact HB.out))); (case aF => exact (fun _ _ => trivial)); (case aO => exact (by (with_reducible repeat (first | apply Kd.S_alloc | apply Kd.S_drewN | apply Kd.S_drew)); exact Kd.S_mono HO_3.out (fun k_ hk => ⟨trivial, fun e_ => e_⟩))); (case aS => exact (below_size (by repeat (first | (with_reducible first | exact HB.out | apply below_alloc | apply pw_below_drewN | apply below_drew1) | exact HB.out)))); (case aL => have := LMc7.out; omega); intro v274 w21 ho hb hg hat; rw [← Ny273.out] at ho; have n0_ := Aside0.mk (hb); have n1_ := Aside0.mk (ho); clear HB; clear HO_3; have HB := n0_; have HO275 := n1_; clear n0_ n1_; clear ho hb hg hat; obtain ⟨Ao22, co22, eo22⟩ := Kd.S_slice HO275.out; subst eo22) | ((with_reducible refine gate_callee (f := 13) rfl ?_); refine goesL_ (some 30) rfl rfl Try.func13 (by kernel_rfl) rfl #[.slice Ao22 y273.length co22] rfl (by (try simp only [List.map_toArray, List.map_cons, List.map_nil]); first | done | rfl | (simp only [List.length_drop, List.length_take]; rfl)) ?_; (with_reducible refine (element_Tree.calls _ _ y273 t276 t277 _ ?side1 ?side2 ?side3 A8.out).mono ?_); (case side1 => repeat (first | exact (Kd.S_reads' HO275.out).2.2 | (with_reducible refine Kd.C_alloc ?_ _) | (with_reducible refine Kd.C_drewN ?_ _) | (with_reducible refine Kd.C_drew ?_))); (case side2 => exact (Kd.S_reads' HO275.out).2.1); (case side3 => exact Glob.step HG.out (by repeat (first | (with_reducible first | exact HB.out | apply below_alloc | apply pw_below_drewN | apply below_drew1) | exact HB.out))); rintro e w23 ⟨v278, rfl, ho0, hb⟩; refine ⟨_, rfl, ?_⟩; have n0_ := Aside0.mk (Kd.S_below (by (with_reducible repeat (first | apply Kd.S_alloc | apply Kd.S_drewN | apply Kd.S_drew)); exact HO275.out) hb); have n1_ := Aside0.mk (Kd.S_lower ho0 (below_size (by repeat (first | (with_reducible first | exact HB.out | apply below_alloc | apply pw_below_drewN | apply below_drew1) | exact HB.out)))); have n2_ := Aside0.mk (below_step (by repeat (first | (with_reducible first | exact HB.out | apply below_alloc | apply pw_below_drewN | apply below_drew1) | exact HB.out)) hb); clear HO275; clear HB; have HO275 := n0_; have HO279 := n1_; have HB := n2_; clear n0_ n1_ n2_; (try clear hb); (try clear hb2); (try clear hk); (try clear hi); (try clear ho0)) | ((with_reducible refine gate_callee (f := 8) rfl ?_); refine goesL_ (some 35) rfl rfl Try.func8 (by kernel_rfl) rfl #[] rfl (by (try simp only [List.map_toArray, List.map_cons, List.map_nil]); first | done | rfl | (simp only [List.length_drop, List.length_take]; rfl)) ?_; (with_reducible refine (newellaw03_awake.calls k1  true _ ?side1 A18.out).mono ?_); (case side1 => exact Glob.step HG.out (by repeat (first | (with_reducible first | exact HB.out | apply below_alloc | apply pw_below_drewN | apply below_drew1) | exact HB.out))); rintro e w24 ⟨rfl, hb⟩; refine ⟨_, rfl, ?_⟩; have n0_ := Aside0.mk (Kd.S_below (by (with_reducible repeat (first | apply Kd.S_alloc | apply Kd.S_drewN | apply Kd.S_drew)); exact HO275.out) hb); have n1_ := Aside0.mk (Kd.S_below (by (with_reducible repeat (first | apply Kd.S_alloc | apply Kd.S_drewN | apply Kd.S_drew)); exact HO279.out) hb); have n2_ := Aside0.mk (below_step (by repeat (first | (with_reducible first | exact HB.out | apply below_alloc | apply pw_below_drewN | apply below_drew1) | exact HB.out)) hb); clear HO275; clear HO279; clear HB; have HO275 := n0_; have HO279 := n1_; have HB := n2_; clear n0_ n1_ n2_; (try clear hb); (try clear hb2); (try clear hk); (try clear hi); obtain ⟨Ao25, co25, eo25⟩ := Kd.S_slice HO279.out; subst eo25))
        go_ret
        exact ⟨by first | rfl | (simp [errW_none, errW_some] <;> rfl) | (simp [*, errW_none, errW_some] <;> rfl), by repeat (first | (with_reducible first | exact HB.out | apply below_alloc | apply pw_below_drewN | apply below_drew1) | exact HB.out)⟩
       ·rw [if_neg c20] at H
        have c20b0 : (t277 == 0) = false := beq_eq_false_iff_ne.mpr c20
        have c20b1 : (t277 != 0) = true := bne_iff_ne.mpr c20
        exfalso
        obtain rfl := Option.some.inj H
        exact absurd hr_ (by decide)
      ·replace c19 := Bool.eq_false_iff.mpr c19
       subst c19
       have H1 : (some false) = some r := by rw [if_neg (show ¬ (false = true) by decide)] at H; exact H
       clear H
       have H := H1
       clear H1
       exfalso
       obtain rfl := Option.some.inj H
       exact absurd hr_ (by decide)
    ·rw [if_neg c7] at H
     exact absurd H (by simp)

end Go.Proofs.Ytkoogebfdinbnaa.Q

namespace Go.Proofs.Ytkoogebfdinbnaa.Q
open Go.RowKit Go.Proofs.YtkoogebfdinbnaaW.PrintWords Go.Proofs.YtkoogebfdinbnaaW.PrintLast Go.Proofs.YtkoogebfdinbnaaW.Own Go.Proofs.YtkoogebfdinbnaaW.PrintMore
set_option linter.unusedVariables false
set_option linter.unusedSimpArgs false
namespace Rd
open Go Go.RowKit
def Opens {α : Type} (t : TypeId) (d : Kd α) (wf : α → Prop) (bulk : α → Nat) : Prop :=
  Try.prog.cellsOf t = d.sz ∧ ∀ (H : Type) (enc : TypeId × Value → H) (W : World) (fuel : Nat) (cs : List Value) (dd : DataW H) (ps : List MemPlace),
    DataW.trod enc Try.prog W 0 (fun _ => true) true fuel t cs = some (dd, ps) → ∃ x, d.K W x cs ∧ wf x ∧ bulk x ≤ Rows.uptoBulk dd
def OpensF {β : Type} (fs : List Field) (off : Nat) (d : Kd β) (wf : β → Prop) (bulk : β → Nat) : Prop :=
  ∀ (H : Type) (enc : TypeId × Value → H) (W : World) (n : Nat) (cs : List Value) (xs : List (DataW H × List MemPlace)), xs.length = fs.length →
    (∀ (i : Nat) (f : Field), fs[i]? = some f → DataW.trod enc Try.prog W 0 (fun _ => true) true n f.type ((cs.drop f.offset).take (Try.prog.cellsOf f.type)) = xs[i]?) → cs.length = off + d.sz →
    ∃ x, d.K W x (cs.drop off) ∧ wf x ∧ bulk x ≤ Rows.uptoBulkAll (xs.map (·.1))
theorem OpensF.cons {α β : Type} {f : Field} {fs : List Field} {off off' : Nat} {a : Kd α} {b : Kd β} {wf : α → Prop} {bulk : α → Nat} {wf' : β → Prop} {bulk' : β → Nat} (ho : f.offset = off) (ho' : off' = off + a.sz) (h : Opens f.type a wf bulk) (hr : OpensF fs off' b wf' bulk') :
    OpensF (f :: fs) off (Kd.pair a b) (fun x => wf x.1 ∧ wf' x.2) (fun x => bulk x.1 + bulk' x.2) := by
  intro H enc W n cs xs hl ht hc
  subst ho'
  obtain ⟨hsz, hop⟩ := h
  obtain ⟨x0, xs', rfl⟩ : ∃ x0 xs', xs = x0 :: xs' := by
    match xs, hl with
    | x0 :: xs', _ => exact ⟨x0, xs', rfl⟩
  have h0 := ht 0 f rfl
  rw [ho, hsz] at h0
  obtain ⟨x, hk, hw, hb⟩ := hop H enc W n _ _ _ h0
  have hc' : cs.length = off + a.sz + b.sz := by
    have e : (Kd.pair a b).sz = a.sz + b.sz := rfl
    rw [e] at hc
    omega
  obtain ⟨y, hk', hw', hb'⟩ := hr H enc W n cs xs' (by simpa using hl) (fun i g hg => by have := ht (i + 1) g (by simpa using hg); simpa using this) hc'
  refine ⟨(x, y), ⟨(cs.drop off).take a.sz, cs.drop (off + a.sz), ?_, hk, hk'⟩, ⟨hw, hw'⟩, ?_⟩
  · rw [← List.drop_drop, List.take_append_drop]
  · simp only [List.map_cons, Rows.uptoBulkAll]
    omega
theorem glob {W : World} (h : W.ShapedOpen Try.prog) : Glob W :=
  cell_of_shapedOpen_int (g := 0) (t := 3) (zero := #[.int .i64 0]) (k := .i64) h (of_decide_eq_true (by kernel_rfl)) (by kernel_rfl) rfl (by kernel_rfl) (by kernel_rfl) Try.underlying3
end Rd
end Go.Proofs.Ytkoogebfdinbnaa.Q

-- Printed by this session's wip/np.py over the kit's print program. Not trusted: Lean checks it.
namespace Go.Proofs.Ytkoogebfdinbnaa.Q
open Go.RowKit Go.Proofs.YtkoogebfdinbnaaW.PrintWords Go.Proofs.YtkoogebfdinbnaaW.PrintLast Go.Proofs.YtkoogebfdinbnaaW.Own Go.Proofs.YtkoogebfdinbnaaW.PrintMore
set_option linter.unusedVariables false
set_option linter.unusedSimpArgs false

/-- The pure statement of newellaw03_ElementBig. -/
def newellaw03_ElementBig.Pure : Prop := ∀ (a0 : Int), ((Lit.int .i64 a0).wf = true) → ∃ k, newellaw03_ElementBig.f k a0 = some true
end Go.Proofs.Ytkoogebfdinbnaa.Q

namespace Go.Proofs.Ytkoogebfdinbnaa.Pure
open Go Go.RowKit Go.Proofs.Ytkoogebfdinbnaa.Q Go.Proofs.YtkoogebfdinbnaaW.PrintWords Go.Proofs.YtkoogebfdinbnaaW.PrintLast Go.Proofs.YtkoogebfdinbnaaW.Own Go.Proofs.YtkoogebfdinbnaaW.PrintMore
set_option linter.unusedSimpArgs false
set_option linter.unusedVariables false
def Ans {α : Type} (f : Nat → Option α) (v : α) : Prop := ∃ K, ∀ k, K ≤ k → f k = some v
theorem Ans.now {α : Type} {f : Nat → Option α} {v : α} (h : ∀ k, f k = some v) : Ans f v := ⟨0, fun k _ => h k⟩
theorem Ans.succ {α : Type} {f g : Nat → Option α} {v : α} (h : Ans g v) (e : ∀ k, f (k + 1) = g k) : Ans f v := by
  obtain ⟨K, h⟩ := h
  refine ⟨K + 1, fun k hk => ?_⟩
  obtain ⟨j, rfl⟩ : ∃ j, k = j + 1 := ⟨k - 1, by omega⟩
  rw [e, h j (by omega)]
theorem Ans.bind {α β : Type} {f : Nat → Option α} {g : Nat → α → Option β} {v : α} {u : β} (h : Ans f v) (h2 : Ans (fun k => g k v) u) : Ans (fun k => (f k).bind (g k)) u := by
  obtain ⟨K, h⟩ := h
  obtain ⟨K2, h2⟩ := h2
  exact ⟨max K K2, fun k hk => by show (f k).bind (g k) = _; rw [h k (by omega), Option.bind_some]; exact h2 k (by omega)⟩
theorem Ans.there {α : Type} {f : Nat → Option α} {v : α} (h : Ans f v) : ∃ k, f k = some v := ⟨h.choose, h.choose_spec _ (Nat.le_refl _)⟩
theorem awake_6 : newellaw03_awake.f 6 = some true := by kernel_rfl
theorem awake_ge (k : Nat) (h : 6 ≤ k) : newellaw03_awake.f k = some true := by
  obtain ⟨j, rfl⟩ := Nat.exists_eq_add_of_le h
  clear h
  induction j with
  | zero => exact awake_6
  | succ j ih => exact newellaw03_awake.mono _ _ ih
theorem awake_ans : Ans (fun k => newellaw03_awake.f k) true := ⟨6, awake_ge⟩
theorem w1 (i : Nat) (h : i < 1000000000) : wrap64 ((i : Int) + 1) = ((i + 1 : Nat) : Int) := by unfold wrap64; omega
theorem mod_nat (a : Int) (m : Nat) (hm : 0 < m) (hm2 : m < 1000) : ∃ n : Nat, n < m ∧ Int.tmod (IntKind.u64.wrap a) (m : Int) = (n : Int) := by
  have h0 : 0 ≤ IntKind.u64.wrap a := by rw [IntKind.wrap_u64]; omega
  have h1 := Int.tmod_nonneg (m : Int) h0
  have h2 := Int.tmod_lt_of_pos (IntKind.u64.wrap a) (show (0 : Int) < (m : Int) by omega)
  obtain ⟨n, hn⟩ := Int.eq_ofNat_of_zero_le h1
  exact ⟨n, by omega, hn⟩
end Go.Proofs.Ytkoogebfdinbnaa.Pure

/- The plain law of ElementBig, about the functions that the walks compute. -/
namespace Go.Proofs.Ytkoogebfdinbnaa.Pure
open Go Go.RowKit Go.Proofs.Ytkoogebfdinbnaa.Q Go.Proofs.YtkoogebfdinbnaaW.PrintWords Go.Proofs.YtkoogebfdinbnaaW.PrintLast Go.Proofs.YtkoogebfdinbnaaW.Own Go.Proofs.YtkoogebfdinbnaaW.PrintMore
set_option linter.unusedSimpArgs false
set_option linter.unusedVariables false
def tokA : S40 := ⟨1, (⟨#[97]⟩ : ByteArray), (⟨#[]⟩ : ByteArray), ([] : List (S68)), true⟩
def tokR : S40 := ⟨1, (⟨#[114]⟩ : ByteArray), (⟨#[]⟩ : ByteArray), ([] : List (S68)), false⟩
def tokE : S40 := ⟨2, (⟨#[114]⟩ : ByteArray), (⟨#[]⟩ : ByteArray), ([] : List (S68)), false⟩
def ndR : S29 := ⟨-1, (⟨#[114]⟩ : ByteArray), El.nul, []⟩
def ndA : S29 := ⟨0, (⟨#[97]⟩ : ByteArray), El.nul, []⟩
theorem a_ne : ¬ tokA.f1 = El.nul := by decide
theorem r_ne : (⟨#[114]⟩ : ByteArray) ≠ El.nul := by decide
theorem take_a (l : List S29) : El.take l [0] tokA = if l.length < 2000 then .ok (l ++ [ndA], [0]) else .error 3 := by
  unfold El.take
  rw [if_neg (by decide), if_neg (by decide), if_pos (show tokA.f0 = 1 from rfl)]
  unfold El.begin_
  rw [if_neg a_ne, if_neg (by simp), if_neg (by decide)]
  unfold El.put
  by_cases h : l.length < 2000
  · rw [if_pos h, if_pos h]; rfl
  · rw [if_neg h, if_neg h]
theorem all_a : ∀ (m : Nat) (l : List S29), 0 < m → l.length ≤ 2000 → El.all l [0] (List.replicate m tokA ++ [tokE]) = if l.length + m ≤ 2000 then El.all (l ++ List.replicate m ndA) [0] [tokE] else .error 3 := by
  intro m
  induction m with
  | zero => intro l h; omega
  | succ m ih =>
    intro l _ hl
    rw [List.replicate_succ, List.cons_append, El.all, take_a]
    by_cases h : l.length < 2000
    · rw [if_pos h]
      simp only
      by_cases hm : m = 0
      · subst hm
        rw [if_pos (by omega)]
        rfl
      · rw [ih (l ++ [ndA]) (by omega) (by rw [List.length_append, List.length_singleton]; omega), List.length_append, List.length_singleton, List.append_assoc]
        by_cases h2 : l.length + 1 + m ≤ 2000
        · rw [if_pos h2, if_pos (by omega)]; rfl
        · rw [if_neg h2, if_neg (by omega)]
    · rw [if_neg h, if_neg (by omega)]
theorem tree_big (m : Nat) (hm : 0 < m) (hm2 : m ≤ 3000) : El.tree (tokR :: (List.replicate m tokA ++ [tokE])) = if 1 + m ≤ 2000 then (ndR :: List.replicate m ndA, 0) else ([], 3) := by
  unfold El.tree
  rw [El.all, show El.take [] [] tokR = .ok ([ndR], [0]) from rfl]
  simp only
  rw [all_a m [ndR] hm (by simp), List.length_singleton]
  by_cases h : 1 + m ≤ 2000
  · rw [if_pos h, if_pos h, El.all]
    have e : El.take ([ndR] ++ List.replicate m ndA) [0] tokE = .ok ([ndR] ++ List.replicate m ndA, []) := by
      unfold El.take
      rw [if_neg (by decide), if_neg (by decide), if_neg (by decide), if_pos (show tokE.f0 = 2 from rfl)]
      unfold El.end_
      rw [if_neg (by decide), if_pos (by rfl)]
      rfl
    rw [e]
    simp [El.all]
  · rw [if_neg h, if_neg h]
theorem fits_big (m : Nat) (hm2 : m ≤ 3000) : El.fits (tokR :: (List.replicate m tokA ++ [tokE])) = true := by
  unfold El.fits
  rw [Bool.and_eq_true, Bool.and_eq_true]
  refine ⟨⟨decide_eq_true ?_, ?_⟩, decide_eq_true ?_⟩
  · have e1 : tokR.f2.size = 0 := rfl
    have e2 : tokA.f2.size = 0 := rfl
    have e3 : tokE.f2.size = 0 := rfl
    simp [e1, e2, e3]
  · rw [List.all_eq_true]
    intro x hx
    rcases List.mem_cons.1 hx with h | h
    · rw [h]; rfl
    · rcases List.mem_append.1 h with h | h
      · rw [List.eq_of_mem_replicate h]; rfl
      · rw [List.mem_singleton] at h; rw [h]; rfl
  · simp; omega
theorem loop_big (x0 : Nat) (h0 : x0 ≤ 3000) : ∀ (d : Nat) (x3 : List S40) (i : Nat), i + d = x0 → x3.length ≤ i → Ans (fun k => newellaw03_ElementBig.l0 k (x0 : Int) (x3 ++ List.replicate d tokA) (x0 : Int)) true → Ans (fun k => newellaw03_ElementBig.l0 k (x0 : Int) x3 (i : Int)) true := by
  intro d
  induction d with
  | zero =>
    intro x3 i h _ ha
    obtain rfl : i = x0 := by omega
    simpa using ha
  | succ d ih =>
    intro x3 i h hl ha
    have := ih (x3 ++ [tokA]) (i + 1) (by omega) (by rw [List.length_append, List.length_singleton]; omega) (by rw [List.append_assoc]; exact ha)
    refine Ans.succ this fun k => ?_
    rw [newellaw03_ElementBig.l0, if_pos (by omega), if_pos (by omega), w1 i (by omega)]
    rfl
theorem ElementBig : newellaw03_ElementBig.Pure := by
  intro a0 _
  apply Ans.there
  unfold newellaw03_ElementBig.f
  obtain ⟨n, hn, e⟩ := mod_nat a0 6 (by decide) (by decide)
  have ew : wrap64 (1997 + wrap64 (Int.tmod (IntKind.u64.wrap a0) 6)) = ((1997 + n : Nat) : Int) := by
    rw [show (6 : Int) = ((6 : Nat) : Int) from rfl, e]
    unfold wrap64; omega
  rw [ew]
  refine loop_big (1997 + n) (by omega) (1996 + n) [tokR] 1 (by omega) (by simp) ?_
  have ef := fits_big (1996 + n) (by omega)
  have et := tree_big (1996 + n) (by omega) (by omega)
  have eT : element_Tree.f ([tokR] ++ List.replicate (1996 + n) tokA ++ [tokE]) = some (if 1 + (1996 + n) ≤ 2000 then (ndR :: List.replicate (1996 + n) ndA, (0 : Int)) else ([], 3)) := by
    unfold element_Tree.f
    rw [List.append_assoc, List.singleton_append, if_pos ef, et]
  have eT : element_Tree.f ([tokR] ++ List.replicate (1996 + n) tokA ++ [(⟨2, (⟨#[114]⟩ : ByteArray), (⟨#[]⟩ : ByteArray), ([] : List (S68)), false⟩ : S40)]) = some (if 1 + (1996 + n) ≤ 2000 then (ndR :: List.replicate (1996 + n) ndA, (0 : Int)) else ([], 3)) := eT
  by_cases h : 1 + (1996 + n) ≤ 2000
  · rw [if_pos h] at eT
    refine Ans.succ (g := fun k => (newellaw03_awake.f k).bind fun t281 => (if t281 = true then some true else some false)) (Ans.bind awake_ans (Ans.now fun _ => by rw [if_pos rfl])) fun k => ?_
    rw [newellaw03_ElementBig.l0, if_neg (by omega), if_pos (by simp; omega), eT, Option.bind_some, if_neg (by omega)]
    congr 1
    funext t
    split
    · rw [if_pos rfl]
      congr 1
      simp
      omega
    · rfl
  · rw [if_neg h] at eT
    refine Ans.succ (g := fun k => (newellaw03_awake.f k).bind fun t281 => (if t281 = true then some true else some false)) (Ans.bind awake_ans (Ans.now fun _ => by rw [if_pos rfl])) fun k => ?_
    rw [newellaw03_ElementBig.l0, if_neg (by omega), if_pos (by simp; omega), eT, Option.bind_some, if_pos (by omega)]
    congr 1
    funext t
    split
    · rw [if_pos rfl]
      congr 1
      simp
      omega
    · rfl
end Go.Proofs.Ytkoogebfdinbnaa.Pure
