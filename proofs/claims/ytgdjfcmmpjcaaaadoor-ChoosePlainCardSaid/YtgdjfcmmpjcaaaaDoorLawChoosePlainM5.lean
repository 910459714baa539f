/- Texts put together: what functions of the program compute, and plain words about them. -/
import Derived.Test.YtgdjfcmmpjcaaaaDoorLawChoosePlainM1
import Derived.Test.YtgdjfcmmpjcaaaaDoorLawChoosePlainM4

-- Printed by this session's wip/np.py over the kit's print program. Not trusted: Lean checks it.
namespace Go.Proofs.YtgdjfcmmpjcaaaaDoor.Q
open Go.RowKit Go.Proofs.YtgdjfcmmpjcaaaaDoorW.PrintWords Go.Proofs.YtgdjfcmmpjcaaaaDoorW.PrintLast Go.Proofs.YtgdjfcmmpjcaaaaDoorW.Own Go.Proofs.YtgdjfcmmpjcaaaaDoorW.PrintMore
attribute [local go_sem] max2_int min2_int max_two min_two max_three min_three max_four min_four
set_option linter.unusedVariables false
set_option linter.unusedSimpArgs false

/-! ### span_Is: function 86 -/
def span_Is.f (a0 : ByteArray) : Option (Bool) := (strings_HasPrefix.f a0 (⟨#[91]⟩ : ByteArray)).bind fun t604 => (if t604 = true then (some true) else ((strings_HasPrefix.f a0 (⟨#[40]⟩ : ByteArray)).bind fun t605 => (some t605)))
set_option maxHeartbeats 8000000 in
set_option maxRecDepth 100000 in
theorem span_Is.calls (a0 : ByteArray) (r : Bool) (w : World) (hG : Glob w) (h : span_Is.f a0 = some r) :
 Calls Tryd.prog 86 #[.string a0] w fun e w' => e = .returned (.bool r) ∧ Drawn0 w w' := by
 have HG := Aside0.mk hG
 clear hG
 have H : ((strings_HasPrefix.f a0 (⟨#[91]⟩ : ByteArray)).bind fun t604 => (if t604 = true then (some true) else ((strings_HasPrefix.f a0 (⟨#[40]⟩ : ByteArray)).bind fun t605 => (some t605)))) = some r := h
 clear h
 replace H := Option.bind_eq_some_iff.mp H
 obtain ⟨t604, A20, H⟩ := H
 replace H : (if t604 = true then (some true) else ((strings_HasPrefix.f a0 (⟨#[40]⟩ : ByteArray)).bind fun t605 => (some t605))) = some r := H
 have A2 := Aside0.mk A20
 clear A20
 by_cases c3 : t604 = true
 ·subst c3
  have H1 : (some true) = some r := by rw [if_pos rfl] at H; exact H
  clear H
  have H := H1
  clear H1
  obtain rfl := Option.some.inj H
  go_enter Tryd.func86, Tryd.ntmps86
  go_wp2_with (first | ((with_reducible refine gate_callee (f := 118) rfl ?_); refine goesL_ (some 4) rfl rfl Tryd.func118 (by kernel_rfl) rfl #[.string a0, .string (⟨#[91]⟩ : ByteArray)] rfl (by (try simp only [List.map_toArray, List.map_cons, List.map_nil]); first | done | rfl | (simp only [List.length_drop, List.length_take]; rfl)) ?_; (with_reducible refine (strings_HasPrefix.calls a0 (⟨#[91]⟩ : ByteArray) true _ ?side1 A2.out).mono ?_); (case side1 => exact Glob.drawn HG.out (by repeat (first | exact Drawn0.refl _ | apply Drawn0.step))); rintro e w' ⟨rfl, ⟨nd, rfl⟩⟩; refine ⟨_, rfl, ?_⟩))
  go_ret
  exact ⟨by first | rfl | (simp; done) | (simp [*]; done), by repeat (first | exact Drawn0.refl _ | apply Drawn0.step)⟩
 ·replace c3 := Bool.eq_false_iff.mpr c3
  subst c3
  have H1 : ((strings_HasPrefix.f a0 (⟨#[40]⟩ : ByteArray)).bind fun t605 => (some t605)) = some r := by rw [if_neg (show ¬ (false = true) by decide)] at H; exact H
  clear H
  have H := H1
  clear H1
  replace H := Option.bind_eq_some_iff.mp H
  obtain ⟨t605, A40, H⟩ := H
  replace H : (some t605) = some r := H
  have A4 := Aside0.mk A40
  clear A40
  obtain rfl := Option.some.inj H
  go_enter Tryd.func86, Tryd.ntmps86
  go_wp2_with (first | ((with_reducible refine gate_callee (f := 118) rfl ?_); refine goesL_ (some 4) rfl rfl Tryd.func118 (by kernel_rfl) rfl #[.string a0, .string (⟨#[91]⟩ : ByteArray)] rfl (by (try simp only [List.map_toArray, List.map_cons, List.map_nil]); first | done | rfl | (simp only [List.length_drop, List.length_take]; rfl)) ?_; (with_reducible refine (strings_HasPrefix.calls a0 (⟨#[91]⟩ : ByteArray) false _ ?side1 A2.out).mono ?_); (case side1 => exact Glob.drawn HG.out (by repeat (first | exact Drawn0.refl _ | apply Drawn0.step))); rintro e w' ⟨rfl, ⟨nd, rfl⟩⟩; refine ⟨_, rfl, ?_⟩) | (go_at_call 118; (with_reducible refine (strings_HasPrefix.calls a0 (⟨#[40]⟩ : ByteArray) t605 _ ?side1 A4.out).mono ?_); (case side1 => exact Glob.drawn HG.out (by repeat (first | exact Drawn0.refl _ | apply Drawn0.step))); rintro e w' ⟨rfl, ⟨nd, rfl⟩⟩))
  go_ret
  exact ⟨by first | rfl | (simp; done) | (simp [*]; done), by repeat (first | exact Drawn0.refl _ | apply Drawn0.step)⟩

end Go.Proofs.YtgdjfcmmpjcaaaaDoor.Q

-- Printed by this session's wip/np.py over the kit's print program. Not trusted: Lean checks it.
namespace Go.Proofs.YtgdjfcmmpjcaaaaDoor.Q
open Go.RowKit Go.Proofs.YtgdjfcmmpjcaaaaDoorW.PrintWords Go.Proofs.YtgdjfcmmpjcaaaaDoorW.PrintLast Go.Proofs.YtgdjfcmmpjcaaaaDoorW.Own Go.Proofs.YtgdjfcmmpjcaaaaDoorW.PrintMore
attribute [local go_sem] max2_int min2_int max_two min_two max_three min_three max_four min_four
set_option linter.unusedVariables false
set_option linter.unusedSimpArgs false

/-! ### span_one: function 92 -/
def span_one.j0 : Nat → ByteArray → Int → ByteArray → ByteArray → Bool → ByteArray → ByteArray → Bool → Bool → Option (ByteArray × ByteArray × Bool × Bool × ByteArray × Bool)
 | 0, _, _, _, _, _, _, _, _, _ => none
 | k + 1, x0, x5, x7, x8, x9, x615000, x615001, x615002, x615003 => (strings_Trim.f x7 (⟨#[32]⟩ : ByteArray)).bind fun t618 => ((strings_Trim.f x8 (⟨#[32]⟩ : ByteArray)).bind fun t619 => (if x9 = true then (if 0 ≤ (wrap64 (x5 + 1)) then (if (wrap64 (x5 + 1)) ≤ (x0.size : Int) then ((span_may.f k t618 t619 x615002 x615003).bind fun t620 => (some (t618, t619, x615002, x615003, x0.extract ((wrap64 (x5 + 1)) : Int).toNat x0.size, t620))) else (none)) else (none)) else (if x615002 = true then (if x615003 = true then (if 0 ≤ (wrap64 (x5 + 1)) then (if (wrap64 (x5 + 1)) ≤ (x0.size : Int) then ((span_may.f k t618 t619 x615002 x615003).bind fun t621 => (some (t618, t619, x615002, x615003, x0.extract ((wrap64 (x5 + 1)) : Int).toNat x0.size, t621))) else (none)) else (none)) else (some ((⟨#[]⟩ : ByteArray), (⟨#[]⟩ : ByteArray), false, false, (⟨#[]⟩ : ByteArray), false))) else (some ((⟨#[]⟩ : ByteArray), (⟨#[]⟩ : ByteArray), false, false, (⟨#[]⟩ : ByteArray), false)))))
def span_one.f (k : Nat) (a0 : ByteArray) : Option (ByteArray × ByteArray × Bool × Bool × ByteArray × Bool) := (span_Is.f a0).bind fun t612 => (if t612 = true then ((strings_IndexAny.f a0 (⟨#[93, 41]⟩ : ByteArray)).bind fun t613 => (if t613 < 0 then (some ((⟨#[]⟩ : ByteArray), (⟨#[]⟩ : ByteArray), false, false, (⟨#[]⟩ : ByteArray), false)) else (if 0 < (a0.size : Int) then (if 0 ≤ t613 then (if t613 < (a0.size : Int) then (if 1 ≤ t613 then (if t613 ≤ (a0.size : Int) then ((strings_Cut.f (a0.extract 1 (t613 : Int).toNat) (⟨#[44]⟩ : ByteArray)).bind fun bt615 => (if bt615.2.2 = true then (span_one.j0 k a0 t613 bt615.1 bt615.2.1 bt615.2.2 (⟨#[]⟩ : ByteArray) (⟨#[]⟩ : ByteArray) ((bt a0 0) == 91) ((bt a0 t613) == 93)) else (span_one.j0 k a0 t613 bt615.1 bt615.1 bt615.2.2 (⟨#[]⟩ : ByteArray) (⟨#[]⟩ : ByteArray) ((bt a0 0) == 91) ((bt a0 t613) == 93)))) else (none)) else (none)) else (none)) else (none)) else (none)))) else (some ((⟨#[]⟩ : ByteArray), (⟨#[]⟩ : ByteArray), false, false, (⟨#[]⟩ : ByteArray), false)))
theorem span_one.mono_l : ∀ k, (∀ y0 y1 y2 y3 y4 y5 y6 y7 y8, LeO (span_one.j0 k y0 y1 y2 y3 y4 y5 y6 y7 y8) (span_one.j0 (k + 1) y0 y1 y2 y3 y4 y5 y6 y7 y8))
 | 0 => fun _ _ _ _ _ _ _ _ _ r h => by simp [span_one.j0] at h
 | k + 1 => by
  have ih0 := span_one.mono_l k
  ·intro y0 y1 y2 y3 y4 y5 y6 y7 y8
   unfold span_one.j0
   repeat' first
   | (with_reducible exact ih0 _ _ _ _ _ _ _ _ _)
   | (with_reducible exact span_may.mono _ _ _ _ _)
   | (with_reducible exact LeO.refl _)
   | (with_reducible exact LeO.none _)
   | (with_reducible refine LeO.ite ?_ ?_)
   | (with_reducible refine LeO.bind ?_ (fun _ => ?_))
   | exact ih0 _ _ _ _ _ _ _ _ _
   | exact span_may.mono _ _ _ _ _
   | exact LeO.none _
   | refine LeO.ite ?_ ?_
   | refine LeO.bind ?_ (fun _ => ?_)
theorem span_one.mono : ∀ a0 k, LeO (span_one.f k a0) (span_one.f (k + 1) a0) := by
 intro a0 k
 have ih0 := span_one.mono_l k
 unfold span_one.f
 repeat' first
  | (with_reducible exact ih0 _ _ _ _ _ _ _ _ _)
  | (with_reducible exact span_may.mono _ _ _ _ _)
  | (with_reducible exact LeO.refl _)
  | (with_reducible exact LeO.none _)
  | (with_reducible refine LeO.ite ?_ ?_)
  | (with_reducible refine LeO.bind ?_ (fun _ => ?_))
  | exact ih0 _ _ _ _ _ _ _ _ _
  | exact span_may.mono _ _ _ _ _
  | exact LeO.none _
  | refine LeO.ite ?_ ?_
  | refine LeO.bind ?_ (fun _ => ?_)
def span_one.T6 : Bool × List (List Nat × List Nat) := (true, [([], []), ([0], [0]), ([1], [1]), ([], []), ([], []), ([3, 4], [3, 4]), ([5], [5]), ([2, 6], [2, 6]), ([], []), ([8, 7, 0, 1, 2, 3, 4, 5, 6, 7, 8], [7, 8])])
def span_one.B6 : List Nat := [0, 1, 3, 0, 0, 24, 56, 127, 0, 511]
theorem span_one.tab6 : rtab .any (opsOf Tryd.f92 6) = span_one.T6 := by kernel_rfl
theorem span_one.bits6 : waitsOk span_one.T6.2 span_one.B6 = true := by kernel_rfl
def span_one.T13 : Bool × List (List Nat × List Nat) := (true, [([], []), ([], []), ([], []), ([2], [2]), ([1, 3], [1, 3]), ([], []), ([5], [5]), ([0, 6, 0], [0]), ([4, 7, 0, 1, 2, 3, 4, 7], [4]), ([6, 8, 0, 1, 2, 3, 4, 5, 6, 7, 8], [6])])
def span_one.B13 : List Nat := [0, 0, 0, 4, 14, 0, 32, 97, 255, 511]
theorem span_one.tab13 : rtab .any (opsOf Tryd.f92 13) = span_one.T13 := by kernel_rfl
theorem span_one.bits13 : waitsOk span_one.T13.2 span_one.B13 = true := by kernel_rfl
set_option maxHeartbeats 8000000 in
set_option maxRecDepth 100000 in
theorem span_one.calls (k : Nat) (a0 : ByteArray) (r1 : ByteArray) (r2 : ByteArray) (r3 : Bool) (r4 : Bool) (r5 : ByteArray) (r6 : Bool) (w : World) (hG : Glob w) (h : span_one.f k a0 = some (r1, r2, r3, r4, r5, r6)) :
 Calls Tryd.prog 92 #[.string a0] w fun e w' => e = .returned (.tuple #[.agg #[.string r1, .string r2, .bool r3, .bool r4], .string r5, .bool r6]) ∧ Below w.heap.size w w' := by
 have hu58 := Tryd.underlying58
 have HG := Aside0.mk hG
 clear hG
 have HB := Aside0.mk (Below.refl w.heap.size w)
 have H : ((span_Is.f a0).bind fun t612 => (if t612 = true then ((strings_IndexAny.f a0 (⟨#[93, 41]⟩ : ByteArray)).bind fun t613 => (if t613 < 0 then (some ((⟨#[]⟩ : ByteArray), (⟨#[]⟩ : ByteArray), false, false, (⟨#[]⟩ : ByteArray), false)) else (if 0 < (a0.size : Int) then (if 0 ≤ t613 then (if t613 < (a0.size : Int) then (if 1 ≤ t613 then (if t613 ≤ (a0.size : Int) then ((strings_Cut.f (a0.extract 1 (t613 : Int).toNat) (⟨#[44]⟩ : ByteArray)).bind fun bt615 => (if bt615.2.2 = true then (span_one.j0 k a0 t613 bt615.1 bt615.2.1 bt615.2.2 (⟨#[]⟩ : ByteArray) (⟨#[]⟩ : ByteArray) ((bt a0 0) == 91) ((bt a0 t613) == 93)) else (span_one.j0 k a0 t613 bt615.1 bt615.1 bt615.2.2 (⟨#[]⟩ : ByteArray) (⟨#[]⟩ : ByteArray) ((bt a0 0) == 91) ((bt a0 t613) == 93)))) else (none)) else (none)) else (none)) else (none)) else (none)))) else (some ((⟨#[]⟩ : ByteArray), (⟨#[]⟩ : ByteArray), false, false, (⟨#[]⟩ : ByteArray), false)))) = some (r1, r2, r3, r4, r5, r6) := h
 clear h
 replace H := Option.bind_eq_some_iff.mp H
 obtain ⟨t612, A20, H⟩ := H
 replace H : (if t612 = true then ((strings_IndexAny.f a0 (⟨#[93, 41]⟩ : ByteArray)).bind fun t613 => (if t613 < 0 then (some ((⟨#[]⟩ : ByteArray), (⟨#[]⟩ : ByteArray), false, false, (⟨#[]⟩ : ByteArray), false)) else (if 0 < (a0.size : Int) then (if 0 ≤ t613 then (if t613 < (a0.size : Int) then (if 1 ≤ t613 then (if t613 ≤ (a0.size : Int) then ((strings_Cut.f (a0.extract 1 (t613 : Int).toNat) (⟨#[44]⟩ : ByteArray)).bind fun bt615 => (if bt615.2.2 = true then (span_one.j0 k a0 t613 bt615.1 bt615.2.1 bt615.2.2 (⟨#[]⟩ : ByteArray) (⟨#[]⟩ : ByteArray) ((bt a0 0) == 91) ((bt a0 t613) == 93)) else (span_one.j0 k a0 t613 bt615.1 bt615.1 bt615.2.2 (⟨#[]⟩ : ByteArray) (⟨#[]⟩ : ByteArray) ((bt a0 0) == 91) ((bt a0 t613) == 93)))) else (none)) else (none)) else (none)) else (none)) else (none)))) else (some ((⟨#[]⟩ : ByteArray), (⟨#[]⟩ : ByteArray), false, false, (⟨#[]⟩ : ByteArray), false))) = some (r1, r2, r3, r4, r5, r6) := H
 have A2 := Aside0.mk A20
 clear A20
 by_cases c3 : t612 = true
 ·subst c3
  have H1 : ((strings_IndexAny.f a0 (⟨#[93, 41]⟩ : ByteArray)).bind fun t613 => (if t613 < 0 then (some ((⟨#[]⟩ : ByteArray), (⟨#[]⟩ : ByteArray), false, false, (⟨#[]⟩ : ByteArray), false)) else (if 0 < (a0.size : Int) then (if 0 ≤ t613 then (if t613 < (a0.size : Int) then (if 1 ≤ t613 then (if t613 ≤ (a0.size : Int) then ((strings_Cut.f (a0.extract 1 (t613 : Int).toNat) (⟨#[44]⟩ : ByteArray)).bind fun bt615 => (if bt615.2.2 = true then (span_one.j0 k a0 t613 bt615.1 bt615.2.1 bt615.2.2 (⟨#[]⟩ : ByteArray) (⟨#[]⟩ : ByteArray) ((bt a0 0) == 91) ((bt a0 t613) == 93)) else (span_one.j0 k a0 t613 bt615.1 bt615.1 bt615.2.2 (⟨#[]⟩ : ByteArray) (⟨#[]⟩ : ByteArray) ((bt a0 0) == 91) ((bt a0 t613) == 93)))) else (none)) else (none)) else (none)) else (none)) else (none)))) = some (r1, r2, r3, r4, r5, r6) := by rw [if_pos rfl] at H; exact H
  clear H
  have H := H1
  clear H1
  replace H := Option.bind_eq_some_iff.mp H
  obtain ⟨t613, A40, H⟩ := H
  replace H : (if t613 < 0 then (some ((⟨#[]⟩ : ByteArray), (⟨#[]⟩ : ByteArray), false, false, (⟨#[]⟩ : ByteArray), false)) else (if 0 < (a0.size : Int) then (if 0 ≤ t613 then (if t613 < (a0.size : Int) then (if 1 ≤ t613 then (if t613 ≤ (a0.size : Int) then ((strings_Cut.f (a0.extract 1 (t613 : Int).toNat) (⟨#[44]⟩ : ByteArray)).bind fun bt615 => (if bt615.2.2 = true then (span_one.j0 k a0 t613 bt615.1 bt615.2.1 bt615.2.2 (⟨#[]⟩ : ByteArray) (⟨#[]⟩ : ByteArray) ((bt a0 0) == 91) ((bt a0 t613) == 93)) else (span_one.j0 k a0 t613 bt615.1 bt615.1 bt615.2.2 (⟨#[]⟩ : ByteArray) (⟨#[]⟩ : ByteArray) ((bt a0 0) == 91) ((bt a0 t613) == 93)))) else (none)) else (none)) else (none)) else (none)) else (none))) = some (r1, r2, r3, r4, r5, r6) := H
  have A4 := Aside0.mk A40
  clear A40
  by_cases c5 : t613 < 0
  ·rw [if_pos c5] at H
   have c5b0 : decide (t613 < 0) = true := decide_eq_true c5
   clear c5
   simp only [Option.some.injEq, Prod.mk.injEq] at H
   obtain ⟨rfl, rfl, rfl, rfl, rfl, rfl⟩ := H
   go_enter Tryd.func92, Tryd.ntmps92
   go_wp2_with (first | ((with_reducible refine gate_dst (N := 2) rfl ?_); refine box_event ?hg (N := 2) ?hd (cs := #[.string (⟨#[]⟩ : ByteArray), .string (⟨#[]⟩ : ByteArray), .bool false, .bool false]) (t := 58) ?hr ?_; (case hd => rfl); (case hg => rfl); (case hr => first | (go_simp; done) | (go_simp; rfl)); intro gb611 hg w6 hbox hb; have n0_ := Aside0.mk (below_step (by repeat (first | (with_reducible first | exact HB.out | apply below_alloc | apply pw_below_drewN | apply below_drew1) | exact HB.out)) hb); have n1_ := Aside0.mk (hbox); have n2_ := Aside0.mk ((by rw [hg]; exact (below_size (by repeat (first | (with_reducible first | exact HB.out | apply below_alloc | apply pw_below_drewN | apply below_drew1) | exact HB.out))) : w.heap.size ≤ gb611)); have n3_ := Aside0.mk ((by rw [hg]; exact (below_size (by repeat (first | (with_reducible first | exact HB.out | apply below_alloc | apply pw_below_drewN | apply below_drew1) | exact HB.out))) : w.heap.size ≤ gb611)); clear HB; have HB := n0_; have BK611 := n1_; have GW611 := n2_; have GE611 := n3_; clear n0_ n1_ n2_ n3_; clear hb hbox hg) | ((with_reducible refine gate_callee (f := 86) rfl ?_); refine goesL_ (some 11) rfl rfl Tryd.func86 (by kernel_rfl) rfl #[.string a0] rfl (by (try simp only [List.map_toArray, List.map_cons, List.map_nil]); first | done | rfl | (simp only [List.length_drop, List.length_take]; rfl) | (rw [show ((bt a0 t613) == 93) = true by assumption]; rfl) | (rw [show ((bt a0 t613) == 93) = true by assumption, show ((bt a0 0) == 91) = true by assumption]; rfl)) ?_; (with_reducible refine (span_Is.calls a0 true _ ?side1 A2.out).mono ?_); (case side1 => exact Glob.step HG.out (by repeat (first | (with_reducible first | exact HB.out | apply below_alloc | apply pw_below_drewN | apply below_drew1 | refine below_set ?_ GE611.out) | exact HB.out))); rintro e w' ⟨rfl, ⟨nd, rfl⟩⟩; refine ⟨_, rfl, ?_⟩; (try ((try simp only [World.drewN_drewN]); (first | generalize hq_ : World.drewN w6 _ = w6 | (rw [drewN_self w6]; generalize hq_ : World.drewN w6 _ = w6)); have n0_ : Aside0 (w6.heap[gb611]? = some (.cells #[.string (⟨#[]⟩ : ByteArray), .string (⟨#[]⟩ : ByteArray), .bool false, .bool false] 58 (0, 0))) := ⟨by rw [← hq_]; exact (by (with_reducible repeat (first | refine blk_drewN ?_ _ | refine blk_drew ?_ | refine blk_alloc ?_ _)); exact BK611.out)⟩; have n1_ : Aside0 (Below w.heap.size w w6) := ⟨by rw [← hq_]; exact (by repeat (first | (with_reducible first | exact HB.out | apply below_alloc | apply pw_below_drewN | apply below_drew1 | refine below_set ?_ GE611.out) | exact HB.out))⟩; clear BK611 HB hq_; have BK611 := n0_; have HB := n1_; clear n0_ n1_))) | ((with_reducible refine gate_callee (f := 123) rfl ?_); refine goesL_ (some 15) rfl rfl Tryd.func123 (by kernel_rfl) rfl #[.string a0, .string (⟨#[93, 41]⟩ : ByteArray)] rfl (by (try simp only [List.map_toArray, List.map_cons, List.map_nil]); first | done | rfl | (simp only [List.length_drop, List.length_take]; rfl) | (rw [show ((bt a0 t613) == 93) = true by assumption]; rfl) | (rw [show ((bt a0 t613) == 93) = true by assumption, show ((bt a0 0) == 91) = true by assumption]; rfl)) ?_; (with_reducible refine (strings_IndexAny.calls a0 (⟨#[93, 41]⟩ : ByteArray) t613 _ ?side1 A4.out).mono ?_); (case side1 => exact Glob.step HG.out (by repeat (first | (with_reducible first | exact HB.out | apply below_alloc | apply pw_below_drewN | apply below_drew1 | refine below_set ?_ GE611.out) | exact HB.out))); rintro e w7 ⟨rfl, hb⟩; refine ⟨_, rfl, ?_⟩; have n0_ := Aside0.mk (blk_below (g := gb611) (o := .cells #[.string (⟨#[]⟩ : ByteArray), .string (⟨#[]⟩ : ByteArray), .bool false, .bool false] 58 (0, 0)) (by (with_reducible repeat (first | refine blk_drewN ?_ _ | refine blk_drew ?_ | refine blk_alloc ?_ _)); exact BK611.out) hb); have n1_ := Aside0.mk (below_step (by repeat (first | (with_reducible first | exact HB.out | apply below_alloc | apply pw_below_drewN | apply below_drew1 | refine below_set ?_ GE611.out) | exact HB.out)) hb); clear BK611; clear HB; have BK611 := n0_; have HB := n1_; clear n0_ n1_; (try clear hb); (try clear hb2); (try clear hk); (try clear hi); have hcz8_0 : w7.cell? ⟨gb611, 0, none⟩ = some (.string (⟨#[]⟩ : ByteArray)) := (blk_cell BK611.out 0).trans rfl; have hcz8_1 : w7.cell? ⟨gb611, 1, none⟩ = some (.string (⟨#[]⟩ : ByteArray)) := (blk_cell BK611.out 1).trans rfl; have hcz8_2 : w7.cell? ⟨gb611, 2, none⟩ = some (.bool false) := (blk_cell BK611.out 2).trans rfl; have hcz8_3 : w7.cell? ⟨gb611, 3, none⟩ = some (.bool false) := (blk_cell BK611.out 3).trans rfl; have hfz8_0 := blk_frozen BK611.out 0; have hfz8_1 := blk_frozen BK611.out 1; have hfz8_2 := blk_frozen BK611.out 2; have hfz8_3 := blk_frozen BK611.out 3))
   refine bodyPost_ret (results_ctt rfl _ _ gb611 58 #[.string (⟨#[]⟩ : ByteArray), .string (⟨#[]⟩ : ByteArray), .bool false, .bool false] (0, 0) _ rfl (by (with_reducible repeat (first | refine blk_drewN ?_ _ | refine blk_drew ?_ | refine blk_alloc ?_ _)); refine blk_put (cs := #[.string (⟨#[]⟩ : ByteArray), .string (⟨#[]⟩ : ByteArray), .bool false, .bool false]) ?_ 3 _ rfl; (with_reducible repeat (first | refine blk_drewN ?_ _ | refine blk_drew ?_ | refine blk_alloc ?_ _)); refine blk_put (cs := #[.string (⟨#[]⟩ : ByteArray), .string (⟨#[]⟩ : ByteArray), .bool false, .bool false]) ?_ 2 _ rfl; (with_reducible repeat (first | refine blk_drewN ?_ _ | refine blk_drew ?_ | refine blk_alloc ?_ _)); refine blk_put (cs := #[.string (⟨#[]⟩ : ByteArray), .string (⟨#[]⟩ : ByteArray), .bool false, .bool false]) ?_ 1 _ rfl; (with_reducible repeat (first | refine blk_drewN ?_ _ | refine blk_drew ?_ | refine blk_alloc ?_ _)); refine blk_put (cs := #[.string (⟨#[]⟩ : ByteArray), .string (⟨#[]⟩ : ByteArray), .bool false, .bool false]) ?_ 0 _ rfl; (with_reducible repeat (first | refine blk_drewN ?_ _ | refine blk_drew ?_ | refine blk_alloc ?_ _)); exact BK611.out) Tryd.underlying58 rfl (by kernel_rfl)) rfl ?_
   exact ⟨by first | rfl | (simp [errW_none, errW_some] <;> rfl) | (simp [*, errW_none, errW_some] <;> rfl), by repeat (first | (with_reducible first | exact HB.out | apply below_alloc | apply pw_below_drewN | apply below_drew1 | refine below_set ?_ GE611.out) | exact HB.out)⟩
  ·rw [if_neg c5] at H
   have c5b0 : decide (t613 < 0) = false := decide_eq_false c5
   clear c5
   by_cases c9 : 0 < (a0.size : Int)
   ·rw [if_pos c9] at H
    have c9b0 : decide (0 < (a0.size : Int)) = true := decide_eq_true c9
    have c9b1 : decide (0 < a0.size) = true := decide_eq_true (by omega)
    clear c9
    by_cases c11 : 0 ≤ t613
    ·rw [if_pos c11] at H
     have c11b0 : decide (0 ≤ t613) = true := decide_eq_true c11
     clear c11
     by_cases c12 : t613 < (a0.size : Int)
     ·rw [if_pos c12] at H
      have c12b0 : decide (t613 < (a0.size : Int)) = true := decide_eq_true c12
      clear c12
      by_cases c14 : 1 ≤ t613
      ·rw [if_pos c14] at H
       have c14b0 := eq_true c14
       have c14b1 : decide (1 ≤ t613) = true := decide_eq_true c14
       clear c14
       by_cases c15 : t613 ≤ (a0.size : Int)
       ·rw [if_pos c15] at H
        have c15b0 := eq_true c15
        have c15b1 : decide (t613 ≤ (a0.size : Int)) = true := decide_eq_true c15
        clear c15
        replace H := Option.bind_eq_some_iff.mp H
        obtain ⟨⟨t615, t616, t617⟩, A160, H⟩ := H
        replace H : (if t617 = true then (span_one.j0 k a0 t613 t615 t616 t617 (⟨#[]⟩ : ByteArray) (⟨#[]⟩ : ByteArray) ((bt a0 0) == 91) ((bt a0 t613) == 93)) else (span_one.j0 k a0 t613 t615 t615 t617 (⟨#[]⟩ : ByteArray) (⟨#[]⟩ : ByteArray) ((bt a0 0) == 91) ((bt a0 t613) == 93))) = some (r1, r2, r3, r4, r5, r6) := H
        have A16 := Aside0.mk A160
        clear A160
        have HC17 := Aside0.mk H
        clear H
        go_enter Tryd.func92, Tryd.ntmps92
        try go_wp2_with (first | ((with_reducible refine gate_dst (N := 2) rfl ?_); refine box_event ?hg (N := 2) ?hd (cs := #[.string (⟨#[]⟩ : ByteArray), .string (⟨#[]⟩ : ByteArray), .bool false, .bool false]) (t := 58) ?hr ?_; (case hd => rfl); (case hg => rfl); (case hr => first | (go_simp; done) | (go_simp; rfl)); intro gb611 hg w18 hbox hb; have n0_ := Aside0.mk (below_step (by repeat (first | (with_reducible first | exact HB.out | apply below_alloc | apply pw_below_drewN | apply below_drew1) | exact HB.out)) hb); have n1_ := Aside0.mk (hbox); have n2_ := Aside0.mk ((by rw [hg]; exact (below_size (by repeat (first | (with_reducible first | exact HB.out | apply below_alloc | apply pw_below_drewN | apply below_drew1) | exact HB.out))) : w.heap.size ≤ gb611)); have n3_ := Aside0.mk ((by rw [hg]; exact (below_size (by repeat (first | (with_reducible first | exact HB.out | apply below_alloc | apply pw_below_drewN | apply below_drew1) | exact HB.out))) : w.heap.size ≤ gb611)); clear HB; have HB := n0_; have BK611 := n1_; have GW611 := n2_; have GE611 := n3_; clear n0_ n1_ n2_ n3_; clear hb hbox hg) | ((with_reducible refine gate_callee (f := 86) rfl ?_); refine goesL_ (some 11) rfl rfl Tryd.func86 (by kernel_rfl) rfl #[.string a0] rfl (by (try simp only [List.map_toArray, List.map_cons, List.map_nil]); first | done | rfl | (simp only [List.length_drop, List.length_take]; rfl) | (rw [show ((bt a0 t613) == 93) = true by assumption]; rfl) | (rw [show ((bt a0 t613) == 93) = true by assumption, show ((bt a0 0) == 91) = true by assumption]; rfl)) ?_; (with_reducible refine (span_Is.calls a0 true _ ?side1 A2.out).mono ?_); (case side1 => exact Glob.step HG.out (by repeat (first | (with_reducible first | exact HB.out | apply below_alloc | apply pw_below_drewN | apply below_drew1 | refine below_set ?_ GE611.out) | exact HB.out))); rintro e w' ⟨rfl, ⟨nd, rfl⟩⟩; refine ⟨_, rfl, ?_⟩; (try ((try simp only [World.drewN_drewN]); (first | generalize hq_ : World.drewN w18 _ = w18 | (rw [drewN_self w18]; generalize hq_ : World.drewN w18 _ = w18)); have n0_ : Aside0 (w18.heap[gb611]? = some (.cells #[.string (⟨#[]⟩ : ByteArray), .string (⟨#[]⟩ : ByteArray), .bool false, .bool false] 58 (0, 0))) := ⟨by rw [← hq_]; exact (by (with_reducible repeat (first | refine blk_drewN ?_ _ | refine blk_drew ?_ | refine blk_alloc ?_ _)); exact BK611.out)⟩; have n1_ : Aside0 (Below w.heap.size w w18) := ⟨by rw [← hq_]; exact (by repeat (first | (with_reducible first | exact HB.out | apply below_alloc | apply pw_below_drewN | apply below_drew1 | refine below_set ?_ GE611.out) | exact HB.out))⟩; clear BK611 HB hq_; have BK611 := n0_; have HB := n1_; clear n0_ n1_))) | ((with_reducible refine gate_callee (f := 123) rfl ?_); refine goesL_ (some 15) rfl rfl Tryd.func123 (by kernel_rfl) rfl #[.string a0, .string (⟨#[93, 41]⟩ : ByteArray)] rfl (by (try simp only [List.map_toArray, List.map_cons, List.map_nil]); first | done | rfl | (simp only [List.length_drop, List.length_take]; rfl) | (rw [show ((bt a0 t613) == 93) = true by assumption]; rfl) | (rw [show ((bt a0 t613) == 93) = true by assumption, show ((bt a0 0) == 91) = true by assumption]; rfl)) ?_; (with_reducible refine (strings_IndexAny.calls a0 (⟨#[93, 41]⟩ : ByteArray) t613 _ ?side1 A4.out).mono ?_); (case side1 => exact Glob.step HG.out (by repeat (first | (with_reducible first | exact HB.out | apply below_alloc | apply pw_below_drewN | apply below_drew1 | refine below_set ?_ GE611.out) | exact HB.out))); rintro e w19 ⟨rfl, hb⟩; refine ⟨_, rfl, ?_⟩; have n0_ := Aside0.mk (blk_below (g := gb611) (o := .cells #[.string (⟨#[]⟩ : ByteArray), .string (⟨#[]⟩ : ByteArray), .bool false, .bool false] 58 (0, 0)) (by (with_reducible repeat (first | refine blk_drewN ?_ _ | refine blk_drew ?_ | refine blk_alloc ?_ _)); exact BK611.out) hb); have n1_ := Aside0.mk (below_step (by repeat (first | (with_reducible first | exact HB.out | apply below_alloc | apply pw_below_drewN | apply below_drew1 | refine below_set ?_ GE611.out) | exact HB.out)) hb); clear BK611; clear HB; have BK611 := n0_; have HB := n1_; clear n0_ n1_; (try clear hb); (try clear hb2); (try clear hk); (try clear hi)))
        have n0_ := Aside0.mk (blk_drew BK611.out)
        have n1_ := Aside0.mk (below_drew1 HB.out)
        clear BK611
        clear HB
        have BK611 := n0_
        have HB := n1_
        clear n0_ n1_
        have p10 : 0 ≤ (0 : Int) := (by omega)
        have q10 : 0 < a0.size := (by have : (0 : Int) < (a0.size : Int) := of_decide_eq_true (by first | (with_reducible assumption) | assumption); omega)
        have hx10 : ∀ h : 0 < a0.size, ((a0[0]'h).toNat : Int) = bt a0 0 := bt_at a0 0
        clear p10
        have qi10 : (0 < (a0.size : Int)) = True := eq_true (of_decide_eq_true (by first | (with_reducible assumption) | assumption))
        replace q10 := eq_true q10
        have p13 : 0 ≤ (t613 : Int) := of_decide_eq_true (by first | (with_reducible assumption) | assumption)
        have q13 : t613 < (a0.size : Int) := of_decide_eq_true (by first | (with_reducible assumption) | assumption)
        have hx13 := bt_at a0 t613
        replace p13 := eq_true p13
        replace q13 := eq_true q13
        refine start_ (n := 10) (S := fun w' => True) (ds := []) #[false, false, false, false, false, false, false, false, false, false] (by kernel_rfl) rfl rfl trivial (fun hHeld => ?_); refine with_tabW span_one.tab6 span_one.bits6 (fun HT_ HW_ => ?_)
        generalize w19.drew = w20 at BK611 HB hHeld ⊢
        refine pure_ (i := 0) (N := some 19) (v := ?_) (a' := ?_) #[true, false, false, false, false, false, false, false, false, false] rfl rfl (any_of HT_.out (by kernel_rfl)) (fun _ _ _ h => h) (Or.inl ⟨by rfl, ?_⟩) ?_ ?_
        rotate_left
        ·intro w'
         go_simp
         with_reducible rfl
        rotate_left
        ·simp only [Act.put, List.setIfInBounds_toArray, List.set_cons_zero, List.set_cons_succ, i64_w, i32_w]
         rfl
        refine pure_ (i := 3) (N := some 22) (v := ?_) (a' := ?_) #[true, false, false, true, false, false, false, false, false, false] rfl rfl (any_of HT_.out (by kernel_rfl)) (fun _ _ _ h => h) (Or.inl ⟨by rfl, ?_⟩) ?_ ?_
        rotate_left
        ·intro w'
         go_simp
         with_reducible rfl
        rotate_left
        ·simp only [Act.put, List.setIfInBounds_toArray, List.set_cons_zero, List.set_cons_succ, i64_w, i32_w]
         rfl
        refine pure_ (i := 4) (N := some 23) (v := ?_) (a' := ?_) #[true, false, false, true, true, false, false, false, false, false] rfl rfl (any_of HT_.out (by kernel_rfl)) (fun _ _ _ h => h) (Or.inl ⟨by rfl, ?_⟩) ?_ ?_
        rotate_left
        ·intro w'
         go_simp
         with_reducible rfl
        rotate_left
        ·simp only [Act.put, List.setIfInBounds_toArray, List.set_cons_zero, List.set_cons_succ, i64_w, i32_w]
         rfl
        refine take_ (i := 1) (N := some 20) (v := ?_) (a' := ?_) #[true, true, false, true, true, false, false, false, false, false] rfl rfl (take_ofW HT_.out HW_.out (by kernel_rfl)) (fun _ _ _ h => h) (Or.inl ⟨by rfl, ?_⟩) hHeld ?_ ?_
        rotate_left
        ·intro w' _
         go_simp
         with_reducible rfl
        rotate_left
        ·simp only [Act.put, List.setIfInBounds_toArray, List.set_cons_zero, List.set_cons_succ, i64_w, i32_w]
         rfl
        refine pure_ (i := 2) (N := some 21) (v := ?_) (a' := ?_) #[true, true, true, true, true, false, false, false, false, false] rfl rfl (any_of HT_.out (by kernel_rfl)) (fun _ _ _ h => h) (Or.inl ⟨by rfl, ?_⟩) ?_ ?_
        rotate_left
        ·intro w'
         go_simp
         with_reducible rfl
        rotate_left
        ·simp only [Act.put, List.setIfInBounds_toArray, List.set_cons_zero, List.set_cons_succ, i64_w, i32_w]
         rfl
        refine take_ (i := 5) (N := some 24) (v := ?_) (a' := ?_) #[true, true, true, true, true, true, false, false, false, false] rfl rfl (take_ofW HT_.out HW_.out (by kernel_rfl)) (fun _ _ _ h => h) (Or.inl ⟨by rfl, ?_⟩) hHeld ?_ ?_
        rotate_left
        ·intro w' _
         go_simp
         with_reducible rfl
        rotate_left
        ·simp only [Act.put, List.setIfInBounds_toArray, List.set_cons_zero, List.set_cons_succ, i64_w, i32_w]
         rfl
        refine pure_ (i := 6) (N := some 25) (v := ?_) (a' := ?_) #[true, true, true, true, true, true, true, false, false, false] rfl rfl (any_of HT_.out (by kernel_rfl)) (fun _ _ _ h => h) (Or.inl ⟨by rfl, ?_⟩) ?_ ?_
        rotate_left
        ·intro w'
         go_simp
         with_reducible rfl
        rotate_left
        ·simp only [Act.put, List.setIfInBounds_toArray, List.set_cons_zero, List.set_cons_succ, i64_w, i32_w]
         rfl
        refine pure_ (i := 7) (N := some 26) (v := ?_) (a' := ?_) #[true, true, true, true, true, true, true, true, false, false] rfl rfl (any_of HT_.out (by kernel_rfl)) (fun _ _ _ h => h) (Or.inl ⟨by rfl, ?_⟩) ?_ ?_
        rotate_left
        ·intro w'
         go_simp
         with_reducible rfl
        rotate_left
        ·simp only [Act.put, List.setIfInBounds_toArray, List.set_cons_zero, List.set_cons_succ, i64_w, i32_w]
         rfl
        refine one_ (i := 8) (N := some 6) #[true, true, true, true, true, true, true, true, true, false] rfl rfl (one_of HT_.out (by kernel_rfl)) (by decide) (fun K hK => ?_)
        refine box_step ?hg (N := 6) ?hd (cs := #[.string (⟨#[]⟩ : ByteArray), .string (⟨#[]⟩ : ByteArray), .bool false, .bool false]) (t := 58) ?hr ?_; (case hd => rfl); (case hg => rfl); (case hr => first | (go_simp; done) | (go_simp; rfl))
        intro gb614 hg w21 hbox hb
        have n0_ := Aside0.mk (blk_below (g := gb611) (o := .cells #[.string (⟨#[]⟩ : ByteArray), .string (⟨#[]⟩ : ByteArray), .bool false, .bool false] 58 (0, 0)) (by (with_reducible repeat (first | refine blk_drewN ?_ _ | refine blk_drew ?_ | refine blk_alloc ?_ _)); exact BK611.out) hb)
        have n1_ := Aside0.mk (below_step (by repeat (first | (with_reducible first | exact HB.out | apply below_alloc | apply pw_below_drewN | apply below_drew1 | refine below_set ?_ GE611.out) | exact HB.out)) hb)
        have n2_ := Aside0.mk (hbox)
        have n3_ := Aside0.mk ((by rw [hg]; exact (below_size (by repeat (first | (with_reducible first | exact HB.out | apply below_alloc | apply pw_below_drewN | apply below_drew1 | refine below_set ?_ GE611.out) | exact HB.out))) : w.heap.size ≤ gb614))
        have n4_ := Aside0.mk ((by rw [hg]; exact (below_size (by repeat (first | (with_reducible first | exact HB.out | apply below_alloc | apply pw_below_drewN | apply below_drew1 | refine below_set ?_ GE611.out) | exact HB.out))) : w.heap.size ≤ gb614))
        have n5_ := Aside0.mk ((by rw [hg]; exact Nat.ne_of_lt (blk_lt (g := gb611) (o := .cells #[.string (⟨#[]⟩ : ByteArray), .string (⟨#[]⟩ : ByteArray), .bool false, .bool false] 58 (0, 0)) (by (with_reducible repeat (first | refine blk_drewN ?_ _ | refine blk_drew ?_ | refine blk_alloc ?_ _)); exact BK611.out)) : gb611 ≠ gb614))
        have n6_ := Aside0.mk ((by rw [hg]; exact Nat.ne_of_gt (blk_lt (g := gb611) (o := .cells #[.string (⟨#[]⟩ : ByteArray), .string (⟨#[]⟩ : ByteArray), .bool false, .bool false] 58 (0, 0)) (by (with_reducible repeat (first | refine blk_drewN ?_ _ | refine blk_drew ?_ | refine blk_alloc ?_ _)); exact BK611.out)) : gb614 ≠ gb611))
        clear BK611
        clear HB
        have BK611 := n0_
        have HB := n1_
        have BK614 := n2_
        have GW614 := n3_
        have GE614 := n4_
        have NB611_614 := n5_
        have NB614_611 := n6_
        clear n0_ n1_ n2_ n3_ n4_ n5_ n6_
        clear hb hbox hg
        refine hK.out _ _ trivial (fun hHeld => ?_)
        clear hK K
        refine norm_ (a' := ?_) ?_ ?_
        rotate_left
        ·show Act.put _ (some 6) _ = _
         simp only [Act.put, List.setIfInBounds_toArray, List.set_cons_zero, List.set_cons_succ, i64_w, i32_w]
         rfl
        refine one_ (i := 9) (N := none) #[true, true, true, true, true, true, true, true, true, true] rfl rfl (one_of HT_.out (by kernel_rfl)) (by decide) (fun K hK => ?_)
        have hs22 : w21.cell? ⟨gb614, 0, none⟩ = some (.string (⟨#[]⟩ : ByteArray)) := (blk_cell BK614.out 0).trans rfl
        have hfs22 := blk_frozen BK614.out 0
        have hns22_0 := NB611_614.out
        have hms22_0 := NB614_611.out
        have hs23 : w21.cell? ⟨gb614, 1, none⟩ = some (.string (⟨#[]⟩ : ByteArray)) := (blk_cell BK614.out 1).trans rfl
        have hfs23 := blk_frozen BK614.out 1
        have hns23_0 := NB611_614.out
        have hms23_0 := NB614_611.out
        have hs24 : w21.cell? ⟨gb614, 2, none⟩ = some (.bool false) := (blk_cell BK614.out 2).trans rfl
        have hfs24 := blk_frozen BK614.out 2
        have hns24_0 := NB611_614.out
        have hms24_0 := NB614_611.out
        have hs25 : w21.cell? ⟨gb614, 3, none⟩ = some (.bool false) := (blk_cell BK614.out 3).trans rfl
        have hfs25 := blk_frozen BK614.out 3
        have hns25_0 := NB611_614.out
        have hms25_0 := NB614_611.out
        refine skip_ (w1 := ?_) (by rfl) rfl ?_ ?_
        rotate_left
        ·go_simp
         rfl
        refine hK.out _ _ trivial (fun hHeld => ?_)
        clear hK K
        refine done_ (done_of HT_.out (by kernel_rfl)) ?_
        go_upto_if 36 with (first | ((with_reducible refine gate_callee (f := 124) rfl ?_); refine goesL_ (some 31) rfl rfl Tryd.func124 (by kernel_rfl) rfl #[.string (a0.extract 1 (t613 : Int).toNat), .string (⟨#[44]⟩ : ByteArray)] rfl (by (try simp only [List.map_toArray, List.map_cons, List.map_nil]); first | done | rfl | (simp only [List.length_drop, List.length_take]; rfl) | (rw [show ((bt a0 t613) == 93) = true by assumption]; rfl) | (rw [show ((bt a0 t613) == 93) = true by assumption, show ((bt a0 0) == 91) = true by assumption]; rfl)) ?_; (with_reducible refine (strings_Cut.calls (a0.extract 1 (t613 : Int).toNat) (⟨#[44]⟩ : ByteArray) t615 t616 t617 _ ?side1 A16.out).mono ?_); (case side1 => exact Glob.step HG.out (by repeat (first | (with_reducible first | exact HB.out | apply below_alloc | apply pw_below_drewN | apply below_drew1 | refine below_set ?_ GE611.out | refine below_set ?_ GE614.out) | exact HB.out))); rintro e w' ⟨rfl, ⟨nd, rfl⟩⟩; refine ⟨_, rfl, ?_⟩))
        (try simp only [Act.put, List.setIfInBounds_toArray, List.set_cons_zero, List.set_cons_succ])
        go_cut [8] (fun v8 wc => ∃ (kq : Nat) (x8_16 : ByteArray), v8 = .string x8_16 ∧ Aside0 (span_one.j0 kq a0 t613 t615 x8_16 t617 (⟨#[]⟩ : ByteArray) (⟨#[]⟩ : ByteArray) ((bt a0 0) == 91) ((bt a0 t613) == 93) = some (r1, r2, r3, r4, r5, r6)) ∧ Aside0 (kq ≤ k) ∧ Aside0 (wc.heap[gb611]? = some (.cells #[.string (⟨#[]⟩ : ByteArray), .string (⟨#[]⟩ : ByteArray), .bool false, .bool false] 58 (0, 0))) ∧ Aside0 (wc.heap[gb614]? = some (.cells #[.string (⟨#[]⟩ : ByteArray), .string (⟨#[]⟩ : ByteArray), .bool ((bt a0 0) == 91), .bool ((bt a0 t613) == 93)] 58 (0, 0))) ∧ Aside0 (Below w.heap.size w wc))
        case first =>
         have H := HC17.out
         clear HC17
         by_cases c26 : t617 = true
         ·subst c26
          have H1 : (span_one.j0 k a0 t613 t615 t616 true (⟨#[]⟩ : ByteArray) (⟨#[]⟩ : ByteArray) ((bt a0 0) == 91) ((bt a0 t613) == 93)) = some (r1, r2, r3, r4, r5, r6) := by rw [if_pos rfl] at H; exact H
          clear H
          have H := H1
          clear H1
          have H' := Aside0.mk H
          clear H
          go_wp2
          go_meet
          case rel => exact ⟨_, (t616), (by first | rfl | (simp; done) | (simp [*]; done) | (simp; exact isEmpty_bne _)), H', ⟨by first | omega | exact Nat.le_refl _⟩, ⟨by (with_reducible repeat (first | refine blk_drewN ?_ _ | refine blk_drew ?_ | refine blk_alloc ?_ _)); refine blk_far ?_ NB611_614.out _; (with_reducible repeat (first | refine blk_drewN ?_ _ | refine blk_drew ?_ | refine blk_alloc ?_ _)); refine blk_far ?_ NB611_614.out _; (with_reducible repeat (first | refine blk_drewN ?_ _ | refine blk_drew ?_ | refine blk_alloc ?_ _)); refine blk_far ?_ NB611_614.out _; (with_reducible repeat (first | refine blk_drewN ?_ _ | refine blk_drew ?_ | refine blk_alloc ?_ _)); refine blk_far ?_ NB611_614.out _; (with_reducible repeat (first | refine blk_drewN ?_ _ | refine blk_drew ?_ | refine blk_alloc ?_ _)); exact BK611.out⟩, ⟨by (with_reducible repeat (first | refine blk_drewN ?_ _ | refine blk_drew ?_ | refine blk_alloc ?_ _)); refine blk_put (cs := #[.string (⟨#[]⟩ : ByteArray), .string (⟨#[]⟩ : ByteArray), .bool ((bt a0 0) == 91), .bool false]) ?_ 3 _ rfl; (with_reducible repeat (first | refine blk_drewN ?_ _ | refine blk_drew ?_ | refine blk_alloc ?_ _)); refine blk_put (cs := #[.string (⟨#[]⟩ : ByteArray), .string (⟨#[]⟩ : ByteArray), .bool false, .bool false]) ?_ 2 _ rfl; (with_reducible repeat (first | refine blk_drewN ?_ _ | refine blk_drew ?_ | refine blk_alloc ?_ _)); refine blk_put (cs := #[.string (⟨#[]⟩ : ByteArray), .string (⟨#[]⟩ : ByteArray), .bool false, .bool false]) ?_ 1 _ rfl; (with_reducible repeat (first | refine blk_drewN ?_ _ | refine blk_drew ?_ | refine blk_alloc ?_ _)); refine blk_put (cs := #[.string (⟨#[]⟩ : ByteArray), .string (⟨#[]⟩ : ByteArray), .bool false, .bool false]) ?_ 0 _ rfl; (with_reducible repeat (first | refine blk_drewN ?_ _ | refine blk_drew ?_ | refine blk_alloc ?_ _)); exact BK614.out⟩, ⟨by repeat (first | (with_reducible first | exact HB.out | apply below_alloc | apply pw_below_drewN | apply below_drew1 | refine below_set ?_ GE611.out | refine below_set ?_ GE614.out) | exact HB.out)⟩⟩
         ·replace c26 := Bool.eq_false_iff.mpr c26
          subst c26
          have H1 : (span_one.j0 k a0 t613 t615 t615 false (⟨#[]⟩ : ByteArray) (⟨#[]⟩ : ByteArray) ((bt a0 0) == 91) ((bt a0 t613) == 93)) = some (r1, r2, r3, r4, r5, r6) := by rw [if_neg (show ¬ (false = true) by decide)] at H; exact H
          clear H
          have H := H1
          clear H1
          have H' := Aside0.mk H
          clear H
          go_wp2
          go_meet
          case rel => exact ⟨_, (t615), (by first | rfl | (simp; done) | (simp [*]; done) | (simp; exact isEmpty_bne _)), H', ⟨by first | omega | exact Nat.le_refl _⟩, ⟨by (with_reducible repeat (first | refine blk_drewN ?_ _ | refine blk_drew ?_ | refine blk_alloc ?_ _)); refine blk_far ?_ NB611_614.out _; (with_reducible repeat (first | refine blk_drewN ?_ _ | refine blk_drew ?_ | refine blk_alloc ?_ _)); refine blk_far ?_ NB611_614.out _; (with_reducible repeat (first | refine blk_drewN ?_ _ | refine blk_drew ?_ | refine blk_alloc ?_ _)); refine blk_far ?_ NB611_614.out _; (with_reducible repeat (first | refine blk_drewN ?_ _ | refine blk_drew ?_ | refine blk_alloc ?_ _)); refine blk_far ?_ NB611_614.out _; (with_reducible repeat (first | refine blk_drewN ?_ _ | refine blk_drew ?_ | refine blk_alloc ?_ _)); exact BK611.out⟩, ⟨by (with_reducible repeat (first | refine blk_drewN ?_ _ | refine blk_drew ?_ | refine blk_alloc ?_ _)); refine blk_put (cs := #[.string (⟨#[]⟩ : ByteArray), .string (⟨#[]⟩ : ByteArray), .bool ((bt a0 0) == 91), .bool false]) ?_ 3 _ rfl; (with_reducible repeat (first | refine blk_drewN ?_ _ | refine blk_drew ?_ | refine blk_alloc ?_ _)); refine blk_put (cs := #[.string (⟨#[]⟩ : ByteArray), .string (⟨#[]⟩ : ByteArray), .bool false, .bool false]) ?_ 2 _ rfl; (with_reducible repeat (first | refine blk_drewN ?_ _ | refine blk_drew ?_ | refine blk_alloc ?_ _)); refine blk_put (cs := #[.string (⟨#[]⟩ : ByteArray), .string (⟨#[]⟩ : ByteArray), .bool false, .bool false]) ?_ 1 _ rfl; (with_reducible repeat (first | refine blk_drewN ?_ _ | refine blk_drew ?_ | refine blk_alloc ?_ _)); refine blk_put (cs := #[.string (⟨#[]⟩ : ByteArray), .string (⟨#[]⟩ : ByteArray), .bool false, .bool false]) ?_ 0 _ rfl; (with_reducible repeat (first | refine blk_drewN ?_ _ | refine blk_drew ?_ | refine blk_alloc ?_ _)); exact BK614.out⟩, ⟨by repeat (first | (with_reducible first | exact HB.out | apply below_alloc | apply pw_below_drewN | apply below_drew1 | refine below_set ?_ GE611.out | refine below_set ?_ GE614.out) | exact HB.out)⟩⟩
        case rest =>
         clear HC17
         try clear c1
         try clear p1
         try clear q1
         try clear hx1
         try clear qi1
         try clear c2
         try clear p2
         try clear c3
         try clear c5
         try clear c5b0
         try clear c8
         try clear c9
         try clear c9b0
         try clear c9b1
         try clear p10
         try clear q10
         try clear hx10
         try clear qi10
         try clear c11
         try clear c11b0
         try clear c12
         try clear c12b0
         try clear p13
         try clear q13
         try clear hx13
         try clear c14
         try clear c14b0
         try clear c14b1
         try clear c15
         try clear c15b0
         try clear c15b1
         try clear c26
         try clear hcz8_0
         try clear hcz8_1
         try clear hcz8_2
         try clear hcz8_3
         try clear hfz8_0
         try clear hfz8_1
         try clear hfz8_2
         try clear hfz8_3
         try clear p10
         try clear p13
         try clear q10
         try clear q13
         obtain ⟨kq, x8_16, rfl, HA, HJ16, BK611, BK614, HB⟩ := hcut
         cases kq with
         | zero => exact absurd HA.out (by simp [span_one.j0])
         | succ kj16 =>
          have H := HA.out
          clear HA
          simp only [span_one.j0] at H
          (try simp only [toList_lit] at H)
          replace H := Option.bind_eq_some_iff.mp H
          obtain ⟨t618, A270, H⟩ := H
          replace H : ((strings_Trim.f x8_16 (⟨#[32]⟩ : ByteArray)).bind fun t619 => (if t617 = true then (if 0 ≤ (wrap64 (t613 + 1)) then (if (wrap64 (t613 + 1)) ≤ (a0.size : Int) then ((span_may.f kj16 t618 t619 ((bt a0 0) == 91) ((bt a0 t613) == 93)).bind fun t620 => (some (t618, t619, ((bt a0 0) == 91), ((bt a0 t613) == 93), a0.extract ((wrap64 (t613 + 1)) : Int).toNat a0.size, t620))) else (none)) else (none)) else (if ((bt a0 0) == 91) = true then (if ((bt a0 t613) == 93) = true then (if 0 ≤ (wrap64 (t613 + 1)) then (if (wrap64 (t613 + 1)) ≤ (a0.size : Int) then ((span_may.f kj16 t618 t619 ((bt a0 0) == 91) ((bt a0 t613) == 93)).bind fun t621 => (some (t618, t619, ((bt a0 0) == 91), ((bt a0 t613) == 93), a0.extract ((wrap64 (t613 + 1)) : Int).toNat a0.size, t621))) else (none)) else (none)) else (some ((⟨#[]⟩ : ByteArray), (⟨#[]⟩ : ByteArray), false, false, (⟨#[]⟩ : ByteArray), false))) else (some ((⟨#[]⟩ : ByteArray), (⟨#[]⟩ : ByteArray), false, false, (⟨#[]⟩ : ByteArray), false))))) = some (r1, r2, r3, r4, r5, r6) := H
          have A27 := Aside0.mk A270
          clear A270
          replace H := Option.bind_eq_some_iff.mp H
          obtain ⟨t619, A280, H⟩ := H
          replace H : (if t617 = true then (if 0 ≤ (wrap64 (t613 + 1)) then (if (wrap64 (t613 + 1)) ≤ (a0.size : Int) then ((span_may.f kj16 t618 t619 ((bt a0 0) == 91) ((bt a0 t613) == 93)).bind fun t620 => (some (t618, t619, ((bt a0 0) == 91), ((bt a0 t613) == 93), a0.extract ((wrap64 (t613 + 1)) : Int).toNat a0.size, t620))) else (none)) else (none)) else (if ((bt a0 0) == 91) = true then (if ((bt a0 t613) == 93) = true then (if 0 ≤ (wrap64 (t613 + 1)) then (if (wrap64 (t613 + 1)) ≤ (a0.size : Int) then ((span_may.f kj16 t618 t619 ((bt a0 0) == 91) ((bt a0 t613) == 93)).bind fun t621 => (some (t618, t619, ((bt a0 0) == 91), ((bt a0 t613) == 93), a0.extract ((wrap64 (t613 + 1)) : Int).toNat a0.size, t621))) else (none)) else (none)) else (some ((⟨#[]⟩ : ByteArray), (⟨#[]⟩ : ByteArray), false, false, (⟨#[]⟩ : ByteArray), false))) else (some ((⟨#[]⟩ : ByteArray), (⟨#[]⟩ : ByteArray), false, false, (⟨#[]⟩ : ByteArray), false)))) = some (r1, r2, r3, r4, r5, r6) := H
          have A28 := Aside0.mk A280
          clear A280
          by_cases c29 : t617 = true
          ·subst c29
           have H1 : (if 0 ≤ (wrap64 (t613 + 1)) then (if (wrap64 (t613 + 1)) ≤ (a0.size : Int) then ((span_may.f kj16 t618 t619 ((bt a0 0) == 91) ((bt a0 t613) == 93)).bind fun t620 => (some (t618, t619, ((bt a0 0) == 91), ((bt a0 t613) == 93), a0.extract ((wrap64 (t613 + 1)) : Int).toNat a0.size, t620))) else (none)) else (none)) = some (r1, r2, r3, r4, r5, r6) := by rw [if_pos rfl] at H; exact H
           clear H
           have H := H1
           clear H1
           obtain ⟨ji30, hji30⟩ : ∃ j_ : Int, (wrap64 (t613 + 1)) = j_ := ⟨_, rfl⟩
           replace H : (if 0 ≤ (ji30) then (if (ji30) ≤ (a0.size : Int) then ((span_may.f kj16 t618 t619 ((bt a0 0) == 91) ((bt a0 t613) == 93)).bind fun t620 => (some (t618, t619, ((bt a0 0) == 91), ((bt a0 t613) == 93), a0.extract ((ji30) : Int).toNat a0.size, t620))) else (none)) else (none)) = some (r1, r2, r3, r4, r5, r6) := by first | (rw [hji30] at H; exact H) | (simp only [hji30] at H ⊢; exact H)
           (try rw [hji30] at A27)
           (try rw [hji30] at A28)
           have hji30w : (IntKind.i64.wrap (t613 + 1)) = ji30 := (i64_w _).trans hji30
           by_cases c31 : 0 ≤ (ji30)
           ·rw [if_pos c31] at H
            have c31b0 := eq_true c31
            have c31b1 : decide (0 ≤ (ji30)) = true := decide_eq_true c31
            clear c31
            by_cases c32 : (ji30) ≤ (a0.size : Int)
            ·rw [if_pos c32] at H
             have c32b0 := eq_true c32
             have c32b1 : decide ((ji30) ≤ (a0.size : Int)) = true := decide_eq_true c32
             clear c32
             replace H := Option.bind_eq_some_iff.mp H
             obtain ⟨t620, A330, H⟩ := H
             replace H : (some (t618, t619, ((bt a0 0) == 91), ((bt a0 t613) == 93), a0.extract ((ji30) : Int).toNat a0.size, t620)) = some (r1, r2, r3, r4, r5, r6) := H
             have A33 := Aside0.mk A330
             clear A330
             simp only [Option.some.injEq, Prod.mk.injEq] at H
             obtain ⟨rfl, rfl, rfl, rfl, rfl, rfl⟩ := H
             try go_wp2_with (first | ((with_reducible refine gate_callee (f := 125) rfl ?_); refine goesL_ (some 39) rfl rfl Tryd.func125 (by kernel_rfl) rfl #[.string t615, .string (⟨#[32]⟩ : ByteArray)] rfl (by (try simp only [List.map_toArray, List.map_cons, List.map_nil]); first | done | rfl | (simp only [List.length_drop, List.length_take]; rfl) | (rw [show ((bt a0 t613) == 93) = true by assumption]; rfl) | (rw [show ((bt a0 t613) == 93) = true by assumption, show ((bt a0 0) == 91) = true by assumption]; rfl)) ?_; (with_reducible refine (strings_Trim.calls t615 (⟨#[32]⟩ : ByteArray) t618 _ ?side1 A27.out).mono ?_); (case side1 => exact Glob.step HG.out (by repeat (first | (with_reducible first | exact HB.out | apply below_alloc | apply pw_below_drewN | apply below_drew1 | refine below_set ?_ GE611.out | refine below_set ?_ GE614.out) | exact HB.out))); rintro e w' ⟨rfl, ⟨nd, rfl⟩⟩; refine ⟨_, rfl, ?_⟩; (try (rw [drewN_self wc]; generalize hq_ : World.drewN wc _ = wc; have n0_ : Aside0 (wc.heap[gb611]? = some (.cells #[.string (⟨#[]⟩ : ByteArray), .string (⟨#[]⟩ : ByteArray), .bool false, .bool false] 58 (0, 0))) := ⟨by rw [← hq_]; exact (by (with_reducible repeat (first | refine blk_drewN ?_ _ | refine blk_drew ?_ | refine blk_alloc ?_ _)); exact BK611.out)⟩; have n1_ : Aside0 (wc.heap[gb614]? = some (.cells #[.string (⟨#[]⟩ : ByteArray), .string (⟨#[]⟩ : ByteArray), .bool ((bt a0 0) == 91), .bool ((bt a0 t613) == 93)] 58 (0, 0))) := ⟨by rw [← hq_]; exact (by (with_reducible repeat (first | refine blk_drewN ?_ _ | refine blk_drew ?_ | refine blk_alloc ?_ _)); exact BK614.out)⟩; have n2_ : Aside0 (Below w.heap.size w wc) := ⟨by rw [← hq_]; exact (by repeat (first | (with_reducible first | exact HB.out | apply below_alloc | apply pw_below_drewN | apply below_drew1 | refine below_set ?_ GE611.out | refine below_set ?_ GE614.out) | exact HB.out))⟩; clear BK611 BK614 HB hq_; have BK611 := n0_; have BK614 := n1_; have HB := n2_; clear n0_ n1_ n2_))) | ((with_reducible refine gate_callee (f := 125) rfl ?_); refine goesL_ (some 41) rfl rfl Tryd.func125 (by kernel_rfl) rfl #[.string x8_16, .string (⟨#[32]⟩ : ByteArray)] rfl (by (try simp only [List.map_toArray, List.map_cons, List.map_nil]); first | done | rfl | (simp only [List.length_drop, List.length_take]; rfl) | (rw [show ((bt a0 t613) == 93) = true by assumption]; rfl) | (rw [show ((bt a0 t613) == 93) = true by assumption, show ((bt a0 0) == 91) = true by assumption]; rfl)) ?_; (with_reducible refine (strings_Trim.calls x8_16 (⟨#[32]⟩ : ByteArray) t619 _ ?side1 A28.out).mono ?_); (case side1 => exact Glob.step HG.out (by repeat (first | (with_reducible first | exact HB.out | apply below_alloc | apply pw_below_drewN | apply below_drew1 | refine below_set ?_ GE611.out | refine below_set ?_ GE614.out) | exact HB.out))); rintro e w' ⟨rfl, ⟨nd, rfl⟩⟩; refine ⟨_, rfl, ?_⟩; (try (rw [drewN_self wc]; generalize hq_ : World.drewN wc _ = wc; have n0_ : Aside0 (wc.heap[gb611]? = some (.cells #[.string (⟨#[]⟩ : ByteArray), .string (⟨#[]⟩ : ByteArray), .bool false, .bool false] 58 (0, 0))) := ⟨by rw [← hq_]; exact (by (with_reducible repeat (first | refine blk_drewN ?_ _ | refine blk_drew ?_ | refine blk_alloc ?_ _)); exact BK611.out)⟩; have n1_ : Aside0 (wc.heap[gb614]? = some (.cells #[.string (⟨#[]⟩ : ByteArray), .string (⟨#[]⟩ : ByteArray), .bool ((bt a0 0) == 91), .bool ((bt a0 t613) == 93)] 58 (0, 0))) := ⟨by rw [← hq_]; exact (by (with_reducible repeat (first | refine blk_drewN ?_ _ | refine blk_drew ?_ | refine blk_alloc ?_ _)); exact BK614.out)⟩; have n2_ : Aside0 (Below w.heap.size w wc) := ⟨by rw [← hq_]; exact (by repeat (first | (with_reducible first | exact HB.out | apply below_alloc | apply pw_below_drewN | apply below_drew1 | refine below_set ?_ GE611.out | refine below_set ?_ GE614.out) | exact HB.out))⟩; clear BK611 BK614 HB hq_; have BK611 := n0_; have BK614 := n1_; have HB := n2_; clear n0_ n1_ n2_)); have hnb34 := NB614_611.out; have hnc34 := NB611_614.out; have hcz35_0 : wc.cell? ⟨gb614, 0, none⟩ = some (.string (⟨#[]⟩ : ByteArray)) := (blk_cell BK614.out 0).trans rfl; have hcz35_1 : wc.cell? ⟨gb614, 1, none⟩ = some (.string (⟨#[]⟩ : ByteArray)) := (blk_cell BK614.out 1).trans rfl; have hcz35_2 : wc.cell? ⟨gb614, 2, none⟩ = some (.bool ((bt a0 0) == 91)) := (blk_cell BK614.out 2).trans rfl; have hcz35_3 : wc.cell? ⟨gb614, 3, none⟩ = some (.bool ((bt a0 t613) == 93)) := (blk_cell BK614.out 3).trans rfl; have hfz35_0 := blk_frozen BK614.out 0; have hfz35_1 := blk_frozen BK614.out 1; have hfz35_2 := blk_frozen BK614.out 2; have hfz35_3 := blk_frozen BK614.out 3))
             have n0_ : Aside0 (((wc.setCell ⟨gb614, 0, none⟩ (.string t618)).setCell ⟨gb614, 1, none⟩ (.string t619)).heap[gb611]? = some (.cells #[.string (⟨#[]⟩ : ByteArray), .string (⟨#[]⟩ : ByteArray), .bool false, .bool false] 58 (0, 0))) := ⟨by (with_reducible repeat (first | refine blk_drewN ?_ _ | refine blk_drew ?_ | refine blk_alloc ?_ _)); refine blk_far ?_ NB611_614.out _; (with_reducible repeat (first | refine blk_drewN ?_ _ | refine blk_drew ?_ | refine blk_alloc ?_ _)); refine blk_far ?_ NB611_614.out _; (with_reducible repeat (first | refine blk_drewN ?_ _ | refine blk_drew ?_ | refine blk_alloc ?_ _)); exact BK611.out⟩
             have n1_ : Aside0 (((wc.setCell ⟨gb614, 0, none⟩ (.string t618)).setCell ⟨gb614, 1, none⟩ (.string t619)).heap[gb614]? = some (.cells #[.string t618, .string t619, .bool ((bt a0 0) == 91), .bool ((bt a0 t613) == 93)] 58 (0, 0))) := ⟨by (with_reducible repeat (first | refine blk_drewN ?_ _ | refine blk_drew ?_ | refine blk_alloc ?_ _)); refine blk_put (cs := #[.string t618, .string (⟨#[]⟩ : ByteArray), .bool ((bt a0 0) == 91), .bool ((bt a0 t613) == 93)]) ?_ 1 _ rfl; (with_reducible repeat (first | refine blk_drewN ?_ _ | refine blk_drew ?_ | refine blk_alloc ?_ _)); refine blk_put (cs := #[.string (⟨#[]⟩ : ByteArray), .string (⟨#[]⟩ : ByteArray), .bool ((bt a0 0) == 91), .bool ((bt a0 t613) == 93)]) ?_ 0 _ rfl; (with_reducible repeat (first | refine blk_drewN ?_ _ | refine blk_drew ?_ | refine blk_alloc ?_ _)); exact BK614.out⟩
             have n2_ : Aside0 (Below w.heap.size w ((wc.setCell ⟨gb614, 0, none⟩ (.string t618)).setCell ⟨gb614, 1, none⟩ (.string t619))) := ⟨by repeat (first | (with_reducible first | exact HB.out | apply below_alloc | apply pw_below_drewN | apply below_drew1 | refine below_set ?_ GE611.out | refine below_set ?_ GE614.out) | exact HB.out)⟩
             (try clear BK611)
             (try clear BK614)
             (try clear HB)
             generalize ((wc.setCell ⟨gb614, 0, none⟩ (.string t618)).setCell ⟨gb614, 1, none⟩ (.string t619)) = w36 at n0_ n1_ n2_ ⊢
             have BK611 := n0_
             have BK614 := n1_
             have HB := n2_
             clear n0_ n1_ n2_
             have n0_ := Aside0.mk (blk_drew BK611.out)
             have n1_ := Aside0.mk (blk_drew BK614.out)
             have n2_ := Aside0.mk (below_drew1 HB.out)
             clear BK611
             clear BK614
             clear HB
             have BK611 := n0_
             have BK614 := n1_
             have HB := n2_
             clear n0_ n1_ n2_
             refine start_ (n := 10) (S := fun w' => w'.cell? ⟨gb614, 0, none⟩ = some (.string t618) ∧ w'.cell? ⟨gb614, 1, none⟩ = some (.string t619) ∧ w'.cell? ⟨gb614, 2, none⟩ = some (.bool ((bt a0 0) == 91)) ∧ w'.cell? ⟨gb614, 3, none⟩ = some (.bool ((bt a0 t613) == 93))) (ds := []) #[false, false, false, false, false, false, false, false, false, false] (by kernel_rfl) rfl rfl ⟨(blk_cell BK614.out 0).trans rfl, (blk_cell BK614.out 1).trans rfl, (blk_cell BK614.out 2).trans rfl, (blk_cell BK614.out 3).trans rfl⟩ (fun hHeld => ?_); refine with_tabW span_one.tab13 span_one.bits13 (fun HT_ HW_ => ?_)
             generalize w36.drew = w37 at BK611 BK614 HB hHeld ⊢
             refine pure_ (i := 1) (N := some 58) (v := ?_) (a' := ?_) #[false, true, false, false, false, false, false, false, false, false] rfl rfl (any_of HT_.out (by kernel_rfl)) (fun _ _ _ h => h) (Or.inl ⟨by rfl, ?_⟩) ?_ ?_
             rotate_left
             ·intro w'
              go_simp
              with_reducible rfl
             rotate_left
             ·simp only [Act.put, List.setIfInBounds_toArray, List.set_cons_zero, List.set_cons_succ, i64_w, i32_w]
              rfl
             refine pure_ (i := 2) (N := some 59) (v := ?_) (a' := ?_) #[false, true, true, false, false, false, false, false, false, false] rfl rfl (any_of HT_.out (by kernel_rfl)) (fun _ _ _ h => h) (Or.inl ⟨by rfl, ?_⟩) ?_ ?_
             rotate_left
             ·intro w'
              go_simp
              with_reducible rfl
             rotate_left
             ·simp only [Act.put, List.setIfInBounds_toArray, List.set_cons_zero, List.set_cons_succ, i64_w, i32_w]
              rfl
             refine pure_ (i := 3) (N := some 60) (v := ?_) (a' := ?_) #[false, true, true, true, false, false, false, false, false, false] rfl rfl (any_of HT_.out (by kernel_rfl)) (fun _ _ _ h => h) (Or.inl ⟨by rfl, ?_⟩) ?_ ?_
             rotate_left
             ·intro w'
              go_simp
              with_reducible rfl
             rotate_left
             ·simp only [Act.put, List.setIfInBounds_toArray, List.set_cons_zero, List.set_cons_succ, i64_w, i32_w]
              rfl
             refine pure_ (i := 4) (N := some 61) (v := ?_) (a' := ?_) #[false, true, true, true, true, false, false, false, false, false] rfl rfl (any_of HT_.out (by kernel_rfl)) (fun _ _ _ h => h) (Or.inl ⟨by rfl, ?_⟩) ?_ ?_
             rotate_left
             ·intro w'
              go_simp
              with_reducible rfl
             rotate_left
             ·simp only [Act.put, List.setIfInBounds_toArray, List.set_cons_zero, List.set_cons_succ, i64_w, i32_w]
              rfl
             refine take_ (i := 0) (N := some 57) (v := ?_) (a' := ?_) #[true, true, true, true, true, false, false, false, false, false] rfl rfl (take_ofW HT_.out HW_.out (by kernel_rfl)) (fun _ _ _ h => h) (Or.inl ⟨by rfl, ?_⟩) hHeld ?_ ?_
             rotate_left
             ·rintro w' ⟨s0, s1, s2, s3⟩
              go_simp
              with_reducible rfl
             rotate_left
             ·simp only [Act.put, List.setIfInBounds_toArray, List.set_cons_zero, List.set_cons_succ, i64_w, i32_w]
              rfl
             refine take_ (i := 5) (N := some 62) (v := ?_) (a' := ?_) #[true, true, true, true, true, true, false, false, false, false] rfl rfl (take_ofW HT_.out HW_.out (by kernel_rfl)) (fun _ _ _ h => h) (Or.inl ⟨by rfl, ?_⟩) hHeld ?_ ?_
             rotate_left
             ·rintro w' ⟨s0, s1, s2, s3⟩
              go_simp
              with_reducible rfl
             rotate_left
             ·simp only [Act.put, List.setIfInBounds_toArray, List.set_cons_zero, List.set_cons_succ, i64_w, i32_w]
              rfl
             refine one_ (i := 6) (N := some 63) #[true, true, true, true, true, true, true, false, false, false] rfl rfl (one_of HT_.out (by kernel_rfl)) (by decide) (fun K hK => ?_)
             refine goes_ Tryd.func126 (by kernel_rfl) rfl #[.agg #[.string t618, .string t619, .bool ((bt a0 0) == 91), .bool ((bt a0 t613) == 93)]] (by rfl) rfl rfl (by (try simp only [List.map_toArray, List.map_cons, List.map_nil]); first | done | rfl | (simp only [List.length_drop, List.length_take]; rfl) | (rw [show ((bt a0 t613) == 93) = true by assumption]; rfl) | (rw [show ((bt a0 t613) == 93) = true by assumption, show ((bt a0 0) == 91) = true by assumption]; rfl)) ?_
             with_reducible refine (span_may.calls kj16 t618 t619 ((bt a0 0) == 91) ((bt a0 t613) == 93) t620 _ ?side1 A33.out).mono ?_
             (case side1 => exact Glob.step HG.out (by repeat (first | (with_reducible first | exact HB.out | apply below_alloc | apply pw_below_drewN | apply below_drew1 | refine below_set ?_ GE611.out | refine below_set ?_ GE614.out) | exact HB.out)))
             rintro e w38 ⟨rfl, hb⟩
             refine ⟨_, rfl, ?_⟩
             have n0_ := Aside0.mk (blk_below (g := gb611) (o := .cells #[.string (⟨#[]⟩ : ByteArray), .string (⟨#[]⟩ : ByteArray), .bool false, .bool false] 58 (0, 0)) (by (with_reducible repeat (first | refine blk_drewN ?_ _ | refine blk_drew ?_ | refine blk_alloc ?_ _)); exact BK611.out) hb)
             have n1_ := Aside0.mk (blk_below (g := gb614) (o := .cells #[.string t618, .string t619, .bool ((bt a0 0) == 91), .bool ((bt a0 t613) == 93)] 58 (0, 0)) (by (with_reducible repeat (first | refine blk_drewN ?_ _ | refine blk_drew ?_ | refine blk_alloc ?_ _)); exact BK614.out) hb)
             have n2_ := Aside0.mk (below_step (by repeat (first | (with_reducible first | exact HB.out | apply below_alloc | apply pw_below_drewN | apply below_drew1 | refine below_set ?_ GE611.out | refine below_set ?_ GE614.out) | exact HB.out)) hb)
             clear BK611
             clear BK614
             clear HB
             have BK611 := n0_
             have BK614 := n1_
             have HB := n2_
             clear n0_ n1_ n2_
             (try clear hb)
             (try clear hb2)
             (try clear hk)
             (try clear hi)
             refine hK.out _ _ ⟨(blk_cell BK614.out 0).trans rfl, (blk_cell BK614.out 1).trans rfl, (blk_cell BK614.out 2).trans rfl, (blk_cell BK614.out 3).trans rfl⟩ (fun hHeld => ?_)
             clear hK K
             refine norm_ (a' := ?_) ?_ ?_
             rotate_left
             ·show Act.put _ (some 63) _ = _
              simp only [Act.put, List.setIfInBounds_toArray, List.set_cons_zero, List.set_cons_succ, i64_w, i32_w]
              rfl
             refine one_ (i := 7) (N := none) #[true, true, true, true, true, true, true, true, false, false] rfl rfl (one_of HT_.out (by kernel_rfl)) (by decide) (fun K hK => ?_)
             have hs39 : w38.cell? ⟨gb611, 0, none⟩ = some (.string (⟨#[]⟩ : ByteArray)) := (blk_cell BK611.out 0).trans rfl
             have hfs39 := blk_frozen BK611.out 0
             have hns39_1 := NB614_611.out
             have hms39_1 := NB611_614.out
             have hs40 : w38.cell? ⟨gb611, 1, none⟩ = some (.string (⟨#[]⟩ : ByteArray)) := (blk_cell BK611.out 1).trans rfl
             have hfs40 := blk_frozen BK611.out 1
             have hns40_1 := NB614_611.out
             have hms40_1 := NB611_614.out
             have hs41 : w38.cell? ⟨gb611, 2, none⟩ = some (.bool false) := (blk_cell BK611.out 2).trans rfl
             have hfs41 := blk_frozen BK611.out 2
             have hns41_1 := NB614_611.out
             have hms41_1 := NB611_614.out
             have hs42 : w38.cell? ⟨gb611, 3, none⟩ = some (.bool false) := (blk_cell BK611.out 3).trans rfl
             have hfs42 := blk_frozen BK611.out 3
             have hns42_1 := NB614_611.out
             have hms42_1 := NB611_614.out
             refine skip_ (w1 := ?_) (by rfl) rfl ?_ ?_
             rotate_left
             ·go_simp
              rfl
             refine hK.out _ _ ⟨((cell_far (p := ⟨gb611, _, none⟩) NB614_611.out _).trans (((cell_far (p := ⟨gb611, _, none⟩) NB614_611.out _).trans (((cell_far (p := ⟨gb611, _, none⟩) NB614_611.out _).trans (((cell_far (p := ⟨gb611, _, none⟩) NB614_611.out _).trans (hHeld.1)))))))), ((cell_far (p := ⟨gb611, _, none⟩) NB614_611.out _).trans (((cell_far (p := ⟨gb611, _, none⟩) NB614_611.out _).trans (((cell_far (p := ⟨gb611, _, none⟩) NB614_611.out _).trans (((cell_far (p := ⟨gb611, _, none⟩) NB614_611.out _).trans (hHeld.2.1)))))))), ((cell_far (p := ⟨gb611, _, none⟩) NB614_611.out _).trans (((cell_far (p := ⟨gb611, _, none⟩) NB614_611.out _).trans (((cell_far (p := ⟨gb611, _, none⟩) NB614_611.out _).trans (((cell_far (p := ⟨gb611, _, none⟩) NB614_611.out _).trans (hHeld.2.2.1)))))))), ((cell_far (p := ⟨gb611, _, none⟩) NB614_611.out _).trans (((cell_far (p := ⟨gb611, _, none⟩) NB614_611.out _).trans (((cell_far (p := ⟨gb611, _, none⟩) NB614_611.out _).trans (((cell_far (p := ⟨gb611, _, none⟩) NB614_611.out _).trans (hHeld.2.2.2))))))))⟩ (fun hHeld => ?_)
             clear hK K
             refine pure_ (i := 8) (N := some 3) (v := ?_) (a' := ?_) #[true, true, true, true, true, true, true, true, true, false] rfl rfl (any_of HT_.out (by kernel_rfl)) (fun _ _ _ h => h) (Or.inl ⟨by rfl, ?_⟩) ?_ ?_
             rotate_left
             ·intro w'
              go_simp
              with_reducible rfl
             rotate_left
             ·simp only [Act.put, List.setIfInBounds_toArray, List.set_cons_zero, List.set_cons_succ, i64_w, i32_w]
              rfl
             refine pure_ (i := 9) (N := some 4) (v := ?_) (a' := ?_) #[true, true, true, true, true, true, true, true, true, true] rfl rfl (any_of HT_.out (by kernel_rfl)) (fun _ _ _ h => h) (Or.inl ⟨by rfl, ?_⟩) ?_ ?_
             rotate_left
             ·intro w'
              go_simp
              with_reducible rfl
             rotate_left
             ·simp only [Act.put, List.setIfInBounds_toArray, List.set_cons_zero, List.set_cons_succ, i64_w, i32_w]
              rfl
             refine done_ (done_of HT_.out (by kernel_rfl)) ?_
             try go_wp2
             first | (refine bodyPost_ret (results_ctt rfl _ _ gb611 58 #[.string t618, .string t619, .bool ((bt a0 0) == 91), .bool ((bt a0 t613) == 93)] (0, 0) _ rfl (by (with_reducible repeat (first | refine blk_drewN ?_ _ | refine blk_drew ?_ | refine blk_alloc ?_ _)); refine blk_put (cs := #[.string t618, .string t619, .bool ((bt a0 0) == 91), .bool false]) ?_ 3 _ rfl; (with_reducible repeat (first | refine blk_drewN ?_ _ | refine blk_drew ?_ | refine blk_alloc ?_ _)); refine blk_put (cs := #[.string t618, .string t619, .bool false, .bool false]) ?_ 2 _ rfl; (with_reducible repeat (first | refine blk_drewN ?_ _ | refine blk_drew ?_ | refine blk_alloc ?_ _)); refine blk_put (cs := #[.string t618, .string (⟨#[]⟩ : ByteArray), .bool false, .bool false]) ?_ 1 _ rfl; (with_reducible repeat (first | refine blk_drewN ?_ _ | refine blk_drew ?_ | refine blk_alloc ?_ _)); refine blk_put (cs := #[.string (⟨#[]⟩ : ByteArray), .string (⟨#[]⟩ : ByteArray), .bool false, .bool false]) ?_ 0 _ rfl; (with_reducible repeat (first | refine blk_drewN ?_ _ | refine blk_drew ?_ | refine blk_alloc ?_ _)); exact BK611.out) Tryd.underlying58 rfl (by kernel_rfl)) rfl ?_) | (refine bodyPost_ret (results_ctt rfl _ _ gb611 58 #[.string t618, .string t619, .bool true, .bool true] (0, 0) _ rfl (by (with_reducible repeat (first | refine blk_drewN ?_ _ | refine blk_drew ?_ | refine blk_alloc ?_ _)); refine blk_put (cs := #[.string t618, .string t619, .bool true, .bool false]) ?_ 3 _ rfl; (with_reducible repeat (first | refine blk_drewN ?_ _ | refine blk_drew ?_ | refine blk_alloc ?_ _)); refine blk_put (cs := #[.string t618, .string t619, .bool false, .bool false]) ?_ 2 _ rfl; (with_reducible repeat (first | refine blk_drewN ?_ _ | refine blk_drew ?_ | refine blk_alloc ?_ _)); refine blk_put (cs := #[.string t618, .string (⟨#[]⟩ : ByteArray), .bool false, .bool false]) ?_ 1 _ rfl; (with_reducible repeat (first | refine blk_drewN ?_ _ | refine blk_drew ?_ | refine blk_alloc ?_ _)); refine blk_put (cs := #[.string (⟨#[]⟩ : ByteArray), .string (⟨#[]⟩ : ByteArray), .bool false, .bool false]) ?_ 0 _ rfl; (with_reducible repeat (first | refine blk_drewN ?_ _ | refine blk_drew ?_ | refine blk_alloc ?_ _)); exact BK611.out) Tryd.underlying58 rfl (by kernel_rfl)) rfl ?_) | (refine bodyPost_ret (results_ctt rfl _ _ gb611 58 #[.string t618, .string t619, .bool true, .bool ((bt a0 t613) == 93)] (0, 0) _ rfl (by (with_reducible repeat (first | refine blk_drewN ?_ _ | refine blk_drew ?_ | refine blk_alloc ?_ _)); refine blk_put (cs := #[.string t618, .string t619, .bool true, .bool false]) ?_ 3 _ rfl; (with_reducible repeat (first | refine blk_drewN ?_ _ | refine blk_drew ?_ | refine blk_alloc ?_ _)); refine blk_put (cs := #[.string t618, .string t619, .bool false, .bool false]) ?_ 2 _ rfl; (with_reducible repeat (first | refine blk_drewN ?_ _ | refine blk_drew ?_ | refine blk_alloc ?_ _)); refine blk_put (cs := #[.string t618, .string (⟨#[]⟩ : ByteArray), .bool false, .bool false]) ?_ 1 _ rfl; (with_reducible repeat (first | refine blk_drewN ?_ _ | refine blk_drew ?_ | refine blk_alloc ?_ _)); refine blk_put (cs := #[.string (⟨#[]⟩ : ByteArray), .string (⟨#[]⟩ : ByteArray), .bool false, .bool false]) ?_ 0 _ rfl; (with_reducible repeat (first | refine blk_drewN ?_ _ | refine blk_drew ?_ | refine blk_alloc ?_ _)); exact BK611.out) Tryd.underlying58 rfl (by kernel_rfl)) rfl ?_) | (refine bodyPost_ret (results_ctt rfl _ _ gb611 58 #[.string t618, .string t619, .bool ((bt a0 0) == 91), .bool true] (0, 0) _ rfl (by (with_reducible repeat (first | refine blk_drewN ?_ _ | refine blk_drew ?_ | refine blk_alloc ?_ _)); refine blk_put (cs := #[.string t618, .string t619, .bool ((bt a0 0) == 91), .bool false]) ?_ 3 _ rfl; (with_reducible repeat (first | refine blk_drewN ?_ _ | refine blk_drew ?_ | refine blk_alloc ?_ _)); refine blk_put (cs := #[.string t618, .string t619, .bool false, .bool false]) ?_ 2 _ rfl; (with_reducible repeat (first | refine blk_drewN ?_ _ | refine blk_drew ?_ | refine blk_alloc ?_ _)); refine blk_put (cs := #[.string t618, .string (⟨#[]⟩ : ByteArray), .bool false, .bool false]) ?_ 1 _ rfl; (with_reducible repeat (first | refine blk_drewN ?_ _ | refine blk_drew ?_ | refine blk_alloc ?_ _)); refine blk_put (cs := #[.string (⟨#[]⟩ : ByteArray), .string (⟨#[]⟩ : ByteArray), .bool false, .bool false]) ?_ 0 _ rfl; (with_reducible repeat (first | refine blk_drewN ?_ _ | refine blk_drew ?_ | refine blk_alloc ?_ _)); exact BK611.out) Tryd.underlying58 rfl (by kernel_rfl)) rfl ?_)
             exact ⟨by first | rfl | (simp [errW_none, errW_some] <;> rfl) | (simp only [← hji30]; first | rfl | (simp [errW_none, errW_some] <;> rfl)) | (simp [*, errW_none, errW_some] <;> rfl), by repeat (first | (with_reducible first | exact HB.out | apply below_alloc | apply pw_below_drewN | apply below_drew1 | refine below_set ?_ GE611.out | refine below_set ?_ GE614.out) | exact HB.out)⟩
            ·rw [if_neg c32] at H
             exact absurd H (by simp)
           ·rw [if_neg c31] at H
            exact absurd H (by simp)
          ·replace c29 := Bool.eq_false_iff.mpr c29
           subst c29
           have H1 : (if ((bt a0 0) == 91) = true then (if ((bt a0 t613) == 93) = true then (if 0 ≤ (wrap64 (t613 + 1)) then (if (wrap64 (t613 + 1)) ≤ (a0.size : Int) then ((span_may.f kj16 t618 t619 ((bt a0 0) == 91) ((bt a0 t613) == 93)).bind fun t621 => (some (t618, t619, ((bt a0 0) == 91), ((bt a0 t613) == 93), a0.extract ((wrap64 (t613 + 1)) : Int).toNat a0.size, t621))) else (none)) else (none)) else (some ((⟨#[]⟩ : ByteArray), (⟨#[]⟩ : ByteArray), false, false, (⟨#[]⟩ : ByteArray), false))) else (some ((⟨#[]⟩ : ByteArray), (⟨#[]⟩ : ByteArray), false, false, (⟨#[]⟩ : ByteArray), false))) = some (r1, r2, r3, r4, r5, r6) := by rw [if_neg (show ¬ (false = true) by decide)] at H; exact H
           clear H
           have H := H1
           clear H1
           by_cases c43 : ((bt a0 0) == 91) = true
           ·rw [if_pos c43] at H
            have c43b0 : ((bt a0 0) == 91) = true := c43
            (try (have c43b1 : decide ((bt a0 0) = 91) = true := by simpa using c43))
            (try (have c43b2 : ((bt a0 0) == 91) = true := by simpa using c43))
            clear c43
            by_cases c44 : ((bt a0 t613) == 93) = true
            ·rw [if_pos c44] at H
             have c44b0 : ((bt a0 t613) == 93) = true := c44
             (try (have c44b1 : decide ((bt a0 t613) = 93) = true := by simpa using c44))
             (try (have c44b2 : ((bt a0 t613) == 93) = true := by simpa using c44))
             clear c44
             obtain ⟨ji45, hji45⟩ : ∃ j_ : Int, (wrap64 (t613 + 1)) = j_ := ⟨_, rfl⟩
             replace H : (if 0 ≤ (ji45) then (if (ji45) ≤ (a0.size : Int) then ((span_may.f kj16 t618 t619 ((bt a0 0) == 91) ((bt a0 t613) == 93)).bind fun t621 => (some (t618, t619, ((bt a0 0) == 91), ((bt a0 t613) == 93), a0.extract ((ji45) : Int).toNat a0.size, t621))) else (none)) else (none)) = some (r1, r2, r3, r4, r5, r6) := by first | (rw [hji45] at H; exact H) | (simp only [hji45] at H ⊢; exact H)
             (try rw [hji45] at A27)
             (try rw [hji45] at A28)
             have hji45w : (IntKind.i64.wrap (t613 + 1)) = ji45 := (i64_w _).trans hji45
             by_cases c46 : 0 ≤ (ji45)
             ·rw [if_pos c46] at H
              have c46b0 := eq_true c46
              have c46b1 : decide (0 ≤ (ji45)) = true := decide_eq_true c46
              clear c46
              by_cases c47 : (ji45) ≤ (a0.size : Int)
              ·rw [if_pos c47] at H
               have c47b0 := eq_true c47
               have c47b1 : decide ((ji45) ≤ (a0.size : Int)) = true := decide_eq_true c47
               clear c47
               replace H := Option.bind_eq_some_iff.mp H
               obtain ⟨t621, A480, H⟩ := H
               replace H : (some (t618, t619, ((bt a0 0) == 91), ((bt a0 t613) == 93), a0.extract ((ji45) : Int).toNat a0.size, t621)) = some (r1, r2, r3, r4, r5, r6) := H
               have A48 := Aside0.mk A480
               clear A480
               simp only [Option.some.injEq, Prod.mk.injEq] at H
               obtain ⟨rfl, rfl, rfl, rfl, rfl, rfl⟩ := H
               try go_wp2_with (first | ((with_reducible refine gate_callee (f := 125) rfl ?_); refine goesL_ (some 39) rfl rfl Tryd.func125 (by kernel_rfl) rfl #[.string t615, .string (⟨#[32]⟩ : ByteArray)] rfl (by (try simp only [List.map_toArray, List.map_cons, List.map_nil]); first | done | rfl | (simp only [List.length_drop, List.length_take]; rfl) | (rw [show ((bt a0 t613) == 93) = true by assumption]; rfl) | (rw [show ((bt a0 t613) == 93) = true by assumption, show ((bt a0 0) == 91) = true by assumption]; rfl)) ?_; (with_reducible refine (strings_Trim.calls t615 (⟨#[32]⟩ : ByteArray) t618 _ ?side1 A27.out).mono ?_); (case side1 => exact Glob.step HG.out (by repeat (first | (with_reducible first | exact HB.out | apply below_alloc | apply pw_below_drewN | apply below_drew1 | refine below_set ?_ GE611.out | refine below_set ?_ GE614.out) | exact HB.out))); rintro e w' ⟨rfl, ⟨nd, rfl⟩⟩; refine ⟨_, rfl, ?_⟩; (try (rw [drewN_self wc]; generalize hq_ : World.drewN wc _ = wc; have n0_ : Aside0 (wc.heap[gb611]? = some (.cells #[.string (⟨#[]⟩ : ByteArray), .string (⟨#[]⟩ : ByteArray), .bool false, .bool false] 58 (0, 0))) := ⟨by rw [← hq_]; exact (by (with_reducible repeat (first | refine blk_drewN ?_ _ | refine blk_drew ?_ | refine blk_alloc ?_ _)); exact BK611.out)⟩; have n1_ : Aside0 (wc.heap[gb614]? = some (.cells #[.string (⟨#[]⟩ : ByteArray), .string (⟨#[]⟩ : ByteArray), .bool ((bt a0 0) == 91), .bool ((bt a0 t613) == 93)] 58 (0, 0))) := ⟨by rw [← hq_]; exact (by (with_reducible repeat (first | refine blk_drewN ?_ _ | refine blk_drew ?_ | refine blk_alloc ?_ _)); exact BK614.out)⟩; have n2_ : Aside0 (Below w.heap.size w wc) := ⟨by rw [← hq_]; exact (by repeat (first | (with_reducible first | exact HB.out | apply below_alloc | apply pw_below_drewN | apply below_drew1 | refine below_set ?_ GE611.out | refine below_set ?_ GE614.out) | exact HB.out))⟩; clear BK611 BK614 HB hq_; have BK611 := n0_; have BK614 := n1_; have HB := n2_; clear n0_ n1_ n2_))) | ((with_reducible refine gate_callee (f := 125) rfl ?_); refine goesL_ (some 41) rfl rfl Tryd.func125 (by kernel_rfl) rfl #[.string x8_16, .string (⟨#[32]⟩ : ByteArray)] rfl (by (try simp only [List.map_toArray, List.map_cons, List.map_nil]); first | done | rfl | (simp only [List.length_drop, List.length_take]; rfl) | (rw [show ((bt a0 t613) == 93) = true by assumption]; rfl) | (rw [show ((bt a0 t613) == 93) = true by assumption, show ((bt a0 0) == 91) = true by assumption]; rfl)) ?_; (with_reducible refine (strings_Trim.calls x8_16 (⟨#[32]⟩ : ByteArray) t619 _ ?side1 A28.out).mono ?_); (case side1 => exact Glob.step HG.out (by repeat (first | (with_reducible first | exact HB.out | apply below_alloc | apply pw_below_drewN | apply below_drew1 | refine below_set ?_ GE611.out | refine below_set ?_ GE614.out) | exact HB.out))); rintro e w' ⟨rfl, ⟨nd, rfl⟩⟩; refine ⟨_, rfl, ?_⟩; (try (rw [drewN_self wc]; generalize hq_ : World.drewN wc _ = wc; have n0_ : Aside0 (wc.heap[gb611]? = some (.cells #[.string (⟨#[]⟩ : ByteArray), .string (⟨#[]⟩ : ByteArray), .bool false, .bool false] 58 (0, 0))) := ⟨by rw [← hq_]; exact (by (with_reducible repeat (first | refine blk_drewN ?_ _ | refine blk_drew ?_ | refine blk_alloc ?_ _)); exact BK611.out)⟩; have n1_ : Aside0 (wc.heap[gb614]? = some (.cells #[.string (⟨#[]⟩ : ByteArray), .string (⟨#[]⟩ : ByteArray), .bool ((bt a0 0) == 91), .bool ((bt a0 t613) == 93)] 58 (0, 0))) := ⟨by rw [← hq_]; exact (by (with_reducible repeat (first | refine blk_drewN ?_ _ | refine blk_drew ?_ | refine blk_alloc ?_ _)); exact BK614.out)⟩; have n2_ : Aside0 (Below w.heap.size w wc) := ⟨by rw [← hq_]; exact (by repeat (first | (with_reducible first | exact HB.out | apply below_alloc | apply pw_below_drewN | apply below_drew1 | refine below_set ?_ GE611.out | refine below_set ?_ GE614.out) | exact HB.out))⟩; clear BK611 BK614 HB hq_; have BK611 := n0_; have BK614 := n1_; have HB := n2_; clear n0_ n1_ n2_)); have hnb49 := NB614_611.out; have hnc49 := NB611_614.out; have hcz50_0 : wc.cell? ⟨gb614, 0, none⟩ = some (.string (⟨#[]⟩ : ByteArray)) := (blk_cell BK614.out 0).trans rfl; have hcz50_1 : wc.cell? ⟨gb614, 1, none⟩ = some (.string (⟨#[]⟩ : ByteArray)) := (blk_cell BK614.out 1).trans rfl; have hcz50_2 : wc.cell? ⟨gb614, 2, none⟩ = some (.bool ((bt a0 0) == 91)) := (blk_cell BK614.out 2).trans rfl; have hcz50_3 : wc.cell? ⟨gb614, 3, none⟩ = some (.bool ((bt a0 t613) == 93)) := (blk_cell BK614.out 3).trans rfl; have hfz50_0 := blk_frozen BK614.out 0; have hfz50_1 := blk_frozen BK614.out 1; have hfz50_2 := blk_frozen BK614.out 2; have hfz50_3 := blk_frozen BK614.out 3))
               have n0_ : Aside0 (((wc.setCell ⟨gb614, 0, none⟩ (.string t618)).setCell ⟨gb614, 1, none⟩ (.string t619)).heap[gb611]? = some (.cells #[.string (⟨#[]⟩ : ByteArray), .string (⟨#[]⟩ : ByteArray), .bool false, .bool false] 58 (0, 0))) := ⟨by (with_reducible repeat (first | refine blk_drewN ?_ _ | refine blk_drew ?_ | refine blk_alloc ?_ _)); refine blk_far ?_ NB611_614.out _; (with_reducible repeat (first | refine blk_drewN ?_ _ | refine blk_drew ?_ | refine blk_alloc ?_ _)); refine blk_far ?_ NB611_614.out _; (with_reducible repeat (first | refine blk_drewN ?_ _ | refine blk_drew ?_ | refine blk_alloc ?_ _)); exact BK611.out⟩
               have n1_ : Aside0 (((wc.setCell ⟨gb614, 0, none⟩ (.string t618)).setCell ⟨gb614, 1, none⟩ (.string t619)).heap[gb614]? = some (.cells #[.string t618, .string t619, .bool ((bt a0 0) == 91), .bool ((bt a0 t613) == 93)] 58 (0, 0))) := ⟨by (with_reducible repeat (first | refine blk_drewN ?_ _ | refine blk_drew ?_ | refine blk_alloc ?_ _)); refine blk_put (cs := #[.string t618, .string (⟨#[]⟩ : ByteArray), .bool ((bt a0 0) == 91), .bool ((bt a0 t613) == 93)]) ?_ 1 _ rfl; (with_reducible repeat (first | refine blk_drewN ?_ _ | refine blk_drew ?_ | refine blk_alloc ?_ _)); refine blk_put (cs := #[.string (⟨#[]⟩ : ByteArray), .string (⟨#[]⟩ : ByteArray), .bool ((bt a0 0) == 91), .bool ((bt a0 t613) == 93)]) ?_ 0 _ rfl; (with_reducible repeat (first | refine blk_drewN ?_ _ | refine blk_drew ?_ | refine blk_alloc ?_ _)); exact BK614.out⟩
               have n2_ : Aside0 (Below w.heap.size w ((wc.setCell ⟨gb614, 0, none⟩ (.string t618)).setCell ⟨gb614, 1, none⟩ (.string t619))) := ⟨by repeat (first | (with_reducible first | exact HB.out | apply below_alloc | apply pw_below_drewN | apply below_drew1 | refine below_set ?_ GE611.out | refine below_set ?_ GE614.out) | exact HB.out)⟩
               (try clear BK611)
               (try clear BK614)
               (try clear HB)
               generalize ((wc.setCell ⟨gb614, 0, none⟩ (.string t618)).setCell ⟨gb614, 1, none⟩ (.string t619)) = w51 at n0_ n1_ n2_ ⊢
               have BK611 := n0_
               have BK614 := n1_
               have HB := n2_
               clear n0_ n1_ n2_
               have n0_ := Aside0.mk (blk_drew BK611.out)
               have n1_ := Aside0.mk (blk_drew BK614.out)
               have n2_ := Aside0.mk (below_drew1 HB.out)
               clear BK611
               clear BK614
               clear HB
               have BK611 := n0_
               have BK614 := n1_
               have HB := n2_
               clear n0_ n1_ n2_
               refine start_ (n := 10) (S := fun w' => w'.cell? ⟨gb614, 0, none⟩ = some (.string t618) ∧ w'.cell? ⟨gb614, 1, none⟩ = some (.string t619) ∧ w'.cell? ⟨gb614, 2, none⟩ = some (.bool ((bt a0 0) == 91)) ∧ w'.cell? ⟨gb614, 3, none⟩ = some (.bool ((bt a0 t613) == 93))) (ds := []) #[false, false, false, false, false, false, false, false, false, false] (by kernel_rfl) rfl rfl ⟨(blk_cell BK614.out 0).trans rfl, (blk_cell BK614.out 1).trans rfl, (blk_cell BK614.out 2).trans rfl, (blk_cell BK614.out 3).trans rfl⟩ (fun hHeld => ?_); refine with_tabW span_one.tab13 span_one.bits13 (fun HT_ HW_ => ?_)
               generalize w51.drew = w52 at BK611 BK614 HB hHeld ⊢
               refine pure_ (i := 1) (N := some 58) (v := ?_) (a' := ?_) #[false, true, false, false, false, false, false, false, false, false] rfl rfl (any_of HT_.out (by kernel_rfl)) (fun _ _ _ h => h) (Or.inl ⟨by rfl, ?_⟩) ?_ ?_
               rotate_left
               ·intro w'
                go_simp
                with_reducible rfl
               rotate_left
               ·simp only [Act.put, List.setIfInBounds_toArray, List.set_cons_zero, List.set_cons_succ, i64_w, i32_w]
                rfl
               refine pure_ (i := 2) (N := some 59) (v := ?_) (a' := ?_) #[false, true, true, false, false, false, false, false, false, false] rfl rfl (any_of HT_.out (by kernel_rfl)) (fun _ _ _ h => h) (Or.inl ⟨by rfl, ?_⟩) ?_ ?_
               rotate_left
               ·intro w'
                go_simp
                with_reducible rfl
               rotate_left
               ·simp only [Act.put, List.setIfInBounds_toArray, List.set_cons_zero, List.set_cons_succ, i64_w, i32_w]
                rfl
               refine pure_ (i := 3) (N := some 60) (v := ?_) (a' := ?_) #[false, true, true, true, false, false, false, false, false, false] rfl rfl (any_of HT_.out (by kernel_rfl)) (fun _ _ _ h => h) (Or.inl ⟨by rfl, ?_⟩) ?_ ?_
               rotate_left
               ·intro w'
                go_simp
                with_reducible rfl
               rotate_left
               ·simp only [Act.put, List.setIfInBounds_toArray, List.set_cons_zero, List.set_cons_succ, i64_w, i32_w]
                rfl
               refine pure_ (i := 4) (N := some 61) (v := ?_) (a' := ?_) #[false, true, true, true, true, false, false, false, false, false] rfl rfl (any_of HT_.out (by kernel_rfl)) (fun _ _ _ h => h) (Or.inl ⟨by rfl, ?_⟩) ?_ ?_
               rotate_left
               ·intro w'
                go_simp
                with_reducible rfl
               rotate_left
               ·simp only [Act.put, List.setIfInBounds_toArray, List.set_cons_zero, List.set_cons_succ, i64_w, i32_w]
                rfl
               refine take_ (i := 0) (N := some 57) (v := ?_) (a' := ?_) #[true, true, true, true, true, false, false, false, false, false] rfl rfl (take_ofW HT_.out HW_.out (by kernel_rfl)) (fun _ _ _ h => h) (Or.inl ⟨by rfl, ?_⟩) hHeld ?_ ?_
               rotate_left
               ·rintro w' ⟨s0, s1, s2, s3⟩
                go_simp
                with_reducible rfl
               rotate_left
               ·simp only [Act.put, List.setIfInBounds_toArray, List.set_cons_zero, List.set_cons_succ, i64_w, i32_w]
                rfl
               refine take_ (i := 5) (N := some 62) (v := ?_) (a' := ?_) #[true, true, true, true, true, true, false, false, false, false] rfl rfl (take_ofW HT_.out HW_.out (by kernel_rfl)) (fun _ _ _ h => h) (Or.inl ⟨by rfl, ?_⟩) hHeld ?_ ?_
               rotate_left
               ·rintro w' ⟨s0, s1, s2, s3⟩
                go_simp
                with_reducible rfl
               rotate_left
               ·simp only [Act.put, List.setIfInBounds_toArray, List.set_cons_zero, List.set_cons_succ, i64_w, i32_w]
                rfl
               refine one_ (i := 6) (N := some 63) #[true, true, true, true, true, true, true, false, false, false] rfl rfl (one_of HT_.out (by kernel_rfl)) (by decide) (fun K hK => ?_)
               refine goes_ Tryd.func126 (by kernel_rfl) rfl #[.agg #[.string t618, .string t619, .bool ((bt a0 0) == 91), .bool ((bt a0 t613) == 93)]] (by rfl) rfl rfl (by (try simp only [List.map_toArray, List.map_cons, List.map_nil]); first | done | rfl | (simp only [List.length_drop, List.length_take]; rfl) | (rw [show ((bt a0 t613) == 93) = true by assumption]; rfl) | (rw [show ((bt a0 t613) == 93) = true by assumption, show ((bt a0 0) == 91) = true by assumption]; rfl)) ?_
               with_reducible refine (span_may.calls kj16 t618 t619 ((bt a0 0) == 91) ((bt a0 t613) == 93) t621 _ ?side1 A48.out).mono ?_
               (case side1 => exact Glob.step HG.out (by repeat (first | (with_reducible first | exact HB.out | apply below_alloc | apply pw_below_drewN | apply below_drew1 | refine below_set ?_ GE611.out | refine below_set ?_ GE614.out) | exact HB.out)))
               rintro e w53 ⟨rfl, hb⟩
               refine ⟨_, rfl, ?_⟩
               have n0_ := Aside0.mk (blk_below (g := gb611) (o := .cells #[.string (⟨#[]⟩ : ByteArray), .string (⟨#[]⟩ : ByteArray), .bool false, .bool false] 58 (0, 0)) (by (with_reducible repeat (first | refine blk_drewN ?_ _ | refine blk_drew ?_ | refine blk_alloc ?_ _)); exact BK611.out) hb)
               have n1_ := Aside0.mk (blk_below (g := gb614) (o := .cells #[.string t618, .string t619, .bool ((bt a0 0) == 91), .bool ((bt a0 t613) == 93)] 58 (0, 0)) (by (with_reducible repeat (first | refine blk_drewN ?_ _ | refine blk_drew ?_ | refine blk_alloc ?_ _)); exact BK614.out) hb)
               have n2_ := Aside0.mk (below_step (by repeat (first | (with_reducible first | exact HB.out | apply below_alloc | apply pw_below_drewN | apply below_drew1 | refine below_set ?_ GE611.out | refine below_set ?_ GE614.out) | exact HB.out)) hb)
               clear BK611
               clear BK614
               clear HB
               have BK611 := n0_
               have BK614 := n1_
               have HB := n2_
               clear n0_ n1_ n2_
               (try clear hb)
               (try clear hb2)
               (try clear hk)
               (try clear hi)
               refine hK.out _ _ ⟨(blk_cell BK614.out 0).trans rfl, (blk_cell BK614.out 1).trans rfl, (blk_cell BK614.out 2).trans rfl, (blk_cell BK614.out 3).trans rfl⟩ (fun hHeld => ?_)
               clear hK K
               refine norm_ (a' := ?_) ?_ ?_
               rotate_left
               ·show Act.put _ (some 63) _ = _
                simp only [Act.put, List.setIfInBounds_toArray, List.set_cons_zero, List.set_cons_succ, i64_w, i32_w]
                rfl
               refine one_ (i := 7) (N := none) #[true, true, true, true, true, true, true, true, false, false] rfl rfl (one_of HT_.out (by kernel_rfl)) (by decide) (fun K hK => ?_)
               have hs54 : w53.cell? ⟨gb611, 0, none⟩ = some (.string (⟨#[]⟩ : ByteArray)) := (blk_cell BK611.out 0).trans rfl
               have hfs54 := blk_frozen BK611.out 0
               have hns54_1 := NB614_611.out
               have hms54_1 := NB611_614.out
               have hs55 : w53.cell? ⟨gb611, 1, none⟩ = some (.string (⟨#[]⟩ : ByteArray)) := (blk_cell BK611.out 1).trans rfl
               have hfs55 := blk_frozen BK611.out 1
               have hns55_1 := NB614_611.out
               have hms55_1 := NB611_614.out
               have hs56 : w53.cell? ⟨gb611, 2, none⟩ = some (.bool false) := (blk_cell BK611.out 2).trans rfl
               have hfs56 := blk_frozen BK611.out 2
               have hns56_1 := NB614_611.out
               have hms56_1 := NB611_614.out
               have hs57 : w53.cell? ⟨gb611, 3, none⟩ = some (.bool false) := (blk_cell BK611.out 3).trans rfl
               have hfs57 := blk_frozen BK611.out 3
               have hns57_1 := NB614_611.out
               have hms57_1 := NB611_614.out
               refine skip_ (w1 := ?_) (by rfl) rfl ?_ ?_
               rotate_left
               ·go_simp
                rfl
               refine hK.out _ _ ⟨((cell_far (p := ⟨gb611, _, none⟩) NB614_611.out _).trans (((cell_far (p := ⟨gb611, _, none⟩) NB614_611.out _).trans (((cell_far (p := ⟨gb611, _, none⟩) NB614_611.out _).trans (((cell_far (p := ⟨gb611, _, none⟩) NB614_611.out _).trans (hHeld.1)))))))), ((cell_far (p := ⟨gb611, _, none⟩) NB614_611.out _).trans (((cell_far (p := ⟨gb611, _, none⟩) NB614_611.out _).trans (((cell_far (p := ⟨gb611, _, none⟩) NB614_611.out _).trans (((cell_far (p := ⟨gb611, _, none⟩) NB614_611.out _).trans (hHeld.2.1)))))))), ((cell_far (p := ⟨gb611, _, none⟩) NB614_611.out _).trans (((cell_far (p := ⟨gb611, _, none⟩) NB614_611.out _).trans (((cell_far (p := ⟨gb611, _, none⟩) NB614_611.out _).trans (((cell_far (p := ⟨gb611, _, none⟩) NB614_611.out _).trans (hHeld.2.2.1)))))))), ((cell_far (p := ⟨gb611, _, none⟩) NB614_611.out _).trans (((cell_far (p := ⟨gb611, _, none⟩) NB614_611.out _).trans (((cell_far (p := ⟨gb611, _, none⟩) NB614_611.out _).trans (((cell_far (p := ⟨gb611, _, none⟩) NB614_611.out _).trans (hHeld.2.2.2))))))))⟩ (fun hHeld => ?_)
               clear hK K
               refine pure_ (i := 8) (N := some 3) (v := ?_) (a' := ?_) #[true, true, true, true, true, true, true, true, true, false] rfl rfl (any_of HT_.out (by kernel_rfl)) (fun _ _ _ h => h) (Or.inl ⟨by rfl, ?_⟩) ?_ ?_
               rotate_left
               ·intro w'
                go_simp
                with_reducible rfl
               rotate_left
               ·simp only [Act.put, List.setIfInBounds_toArray, List.set_cons_zero, List.set_cons_succ, i64_w, i32_w]
                rfl
               refine pure_ (i := 9) (N := some 4) (v := ?_) (a' := ?_) #[true, true, true, true, true, true, true, true, true, true] rfl rfl (any_of HT_.out (by kernel_rfl)) (fun _ _ _ h => h) (Or.inl ⟨by rfl, ?_⟩) ?_ ?_
               rotate_left
               ·intro w'
                go_simp
                with_reducible rfl
               rotate_left
               ·simp only [Act.put, List.setIfInBounds_toArray, List.set_cons_zero, List.set_cons_succ, i64_w, i32_w]
                rfl
               refine done_ (done_of HT_.out (by kernel_rfl)) ?_
               try go_wp2
               first | (refine bodyPost_ret (results_ctt rfl _ _ gb611 58 #[.string t618, .string t619, .bool ((bt a0 0) == 91), .bool ((bt a0 t613) == 93)] (0, 0) _ rfl (by (with_reducible repeat (first | refine blk_drewN ?_ _ | refine blk_drew ?_ | refine blk_alloc ?_ _)); refine blk_put (cs := #[.string t618, .string t619, .bool ((bt a0 0) == 91), .bool false]) ?_ 3 _ rfl; (with_reducible repeat (first | refine blk_drewN ?_ _ | refine blk_drew ?_ | refine blk_alloc ?_ _)); refine blk_put (cs := #[.string t618, .string t619, .bool false, .bool false]) ?_ 2 _ rfl; (with_reducible repeat (first | refine blk_drewN ?_ _ | refine blk_drew ?_ | refine blk_alloc ?_ _)); refine blk_put (cs := #[.string t618, .string (⟨#[]⟩ : ByteArray), .bool false, .bool false]) ?_ 1 _ rfl; (with_reducible repeat (first | refine blk_drewN ?_ _ | refine blk_drew ?_ | refine blk_alloc ?_ _)); refine blk_put (cs := #[.string (⟨#[]⟩ : ByteArray), .string (⟨#[]⟩ : ByteArray), .bool false, .bool false]) ?_ 0 _ rfl; (with_reducible repeat (first | refine blk_drewN ?_ _ | refine blk_drew ?_ | refine blk_alloc ?_ _)); exact BK611.out) Tryd.underlying58 rfl (by kernel_rfl)) rfl ?_) | (refine bodyPost_ret (results_ctt rfl _ _ gb611 58 #[.string t618, .string t619, .bool true, .bool true] (0, 0) _ rfl (by (with_reducible repeat (first | refine blk_drewN ?_ _ | refine blk_drew ?_ | refine blk_alloc ?_ _)); refine blk_put (cs := #[.string t618, .string t619, .bool true, .bool false]) ?_ 3 _ rfl; (with_reducible repeat (first | refine blk_drewN ?_ _ | refine blk_drew ?_ | refine blk_alloc ?_ _)); refine blk_put (cs := #[.string t618, .string t619, .bool false, .bool false]) ?_ 2 _ rfl; (with_reducible repeat (first | refine blk_drewN ?_ _ | refine blk_drew ?_ | refine blk_alloc ?_ _)); refine blk_put (cs := #[.string t618, .string (⟨#[]⟩ : ByteArray), .bool false, .bool false]) ?_ 1 _ rfl; (with_reducible repeat (first | refine blk_drewN ?_ _ | refine blk_drew ?_ | refine blk_alloc ?_ _)); refine blk_put (cs := #[.string (⟨#[]⟩ : ByteArray), .string (⟨#[]⟩ : ByteArray), .bool false, .bool false]) ?_ 0 _ rfl; (with_reducible repeat (first | refine blk_drewN ?_ _ | refine blk_drew ?_ | refine blk_alloc ?_ _)); exact BK611.out) Tryd.underlying58 rfl (by kernel_rfl)) rfl ?_) | (refine bodyPost_ret (results_ctt rfl _ _ gb611 58 #[.string t618, .string t619, .bool true, .bool ((bt a0 t613) == 93)] (0, 0) _ rfl (by (with_reducible repeat (first | refine blk_drewN ?_ _ | refine blk_drew ?_ | refine blk_alloc ?_ _)); refine blk_put (cs := #[.string t618, .string t619, .bool true, .bool false]) ?_ 3 _ rfl; (with_reducible repeat (first | refine blk_drewN ?_ _ | refine blk_drew ?_ | refine blk_alloc ?_ _)); refine blk_put (cs := #[.string t618, .string t619, .bool false, .bool false]) ?_ 2 _ rfl; (with_reducible repeat (first | refine blk_drewN ?_ _ | refine blk_drew ?_ | refine blk_alloc ?_ _)); refine blk_put (cs := #[.string t618, .string (⟨#[]⟩ : ByteArray), .bool false, .bool false]) ?_ 1 _ rfl; (with_reducible repeat (first | refine blk_drewN ?_ _ | refine blk_drew ?_ | refine blk_alloc ?_ _)); refine blk_put (cs := #[.string (⟨#[]⟩ : ByteArray), .string (⟨#[]⟩ : ByteArray), .bool false, .bool false]) ?_ 0 _ rfl; (with_reducible repeat (first | refine blk_drewN ?_ _ | refine blk_drew ?_ | refine blk_alloc ?_ _)); exact BK611.out) Tryd.underlying58 rfl (by kernel_rfl)) rfl ?_) | (refine bodyPost_ret (results_ctt rfl _ _ gb611 58 #[.string t618, .string t619, .bool ((bt a0 0) == 91), .bool true] (0, 0) _ rfl (by (with_reducible repeat (first | refine blk_drewN ?_ _ | refine blk_drew ?_ | refine blk_alloc ?_ _)); refine blk_put (cs := #[.string t618, .string t619, .bool ((bt a0 0) == 91), .bool false]) ?_ 3 _ rfl; (with_reducible repeat (first | refine blk_drewN ?_ _ | refine blk_drew ?_ | refine blk_alloc ?_ _)); refine blk_put (cs := #[.string t618, .string t619, .bool false, .bool false]) ?_ 2 _ rfl; (with_reducible repeat (first | refine blk_drewN ?_ _ | refine blk_drew ?_ | refine blk_alloc ?_ _)); refine blk_put (cs := #[.string t618, .string (⟨#[]⟩ : ByteArray), .bool false, .bool false]) ?_ 1 _ rfl; (with_reducible repeat (first | refine blk_drewN ?_ _ | refine blk_drew ?_ | refine blk_alloc ?_ _)); refine blk_put (cs := #[.string (⟨#[]⟩ : ByteArray), .string (⟨#[]⟩ : ByteArray), .bool false, .bool false]) ?_ 0 _ rfl; (with_reducible repeat (first | refine blk_drewN ?_ _ | refine blk_drew ?_ | refine blk_alloc ?_ _)); exact BK611.out) Tryd.underlying58 rfl (by kernel_rfl)) rfl ?_)
               exact ⟨by first | rfl | (simp [errW_none, errW_some] <;> rfl) | (simp only [← hji45]; first | rfl | (simp [errW_none, errW_some] <;> rfl)) | (simp [*, errW_none, errW_some] <;> rfl), by repeat (first | (with_reducible first | exact HB.out | apply below_alloc | apply pw_below_drewN | apply below_drew1 | refine below_set ?_ GE611.out | refine below_set ?_ GE614.out) | exact HB.out)⟩
              ·rw [if_neg c47] at H
               exact absurd H (by simp)
             ·rw [if_neg c46] at H
              exact absurd H (by simp)
            ·rw [if_neg c44] at H
             have c44b0 : ((bt a0 t613) == 93) = false := by simpa using c44
             (try (have c44b1 : decide ((bt a0 t613) = 93) = false := by simpa using c44))
             (try (have c44b2 : ((bt a0 t613) == 93) = false := by simpa using c44))
             (try (have c44b3 : ¬ ((bt a0 t613) = 93) := by simpa using c44))
             clear c44
             simp only [Option.some.injEq, Prod.mk.injEq] at H
             obtain ⟨rfl, rfl, rfl, rfl, rfl, rfl⟩ := H
             go_wp2_with (first | ((with_reducible refine gate_callee (f := 125) rfl ?_); refine goesL_ (some 39) rfl rfl Tryd.func125 (by kernel_rfl) rfl #[.string t615, .string (⟨#[32]⟩ : ByteArray)] rfl (by (try simp only [List.map_toArray, List.map_cons, List.map_nil]); first | done | rfl | (simp only [List.length_drop, List.length_take]; rfl) | (rw [show ((bt a0 t613) == 93) = true by assumption]; rfl) | (rw [show ((bt a0 t613) == 93) = true by assumption, show ((bt a0 0) == 91) = true by assumption]; rfl)) ?_; (with_reducible refine (strings_Trim.calls t615 (⟨#[32]⟩ : ByteArray) t618 _ ?side1 A27.out).mono ?_); (case side1 => exact Glob.step HG.out (by repeat (first | (with_reducible first | exact HB.out | apply below_alloc | apply pw_below_drewN | apply below_drew1 | refine below_set ?_ GE611.out | refine below_set ?_ GE614.out) | exact HB.out))); rintro e w' ⟨rfl, ⟨nd, rfl⟩⟩; refine ⟨_, rfl, ?_⟩; (try (rw [drewN_self wc]; generalize hq_ : World.drewN wc _ = wc; have n0_ : Aside0 (wc.heap[gb611]? = some (.cells #[.string (⟨#[]⟩ : ByteArray), .string (⟨#[]⟩ : ByteArray), .bool false, .bool false] 58 (0, 0))) := ⟨by rw [← hq_]; exact (by (with_reducible repeat (first | refine blk_drewN ?_ _ | refine blk_drew ?_ | refine blk_alloc ?_ _)); exact BK611.out)⟩; have n1_ : Aside0 (wc.heap[gb614]? = some (.cells #[.string (⟨#[]⟩ : ByteArray), .string (⟨#[]⟩ : ByteArray), .bool ((bt a0 0) == 91), .bool ((bt a0 t613) == 93)] 58 (0, 0))) := ⟨by rw [← hq_]; exact (by (with_reducible repeat (first | refine blk_drewN ?_ _ | refine blk_drew ?_ | refine blk_alloc ?_ _)); exact BK614.out)⟩; have n2_ : Aside0 (Below w.heap.size w wc) := ⟨by rw [← hq_]; exact (by repeat (first | (with_reducible first | exact HB.out | apply below_alloc | apply pw_below_drewN | apply below_drew1 | refine below_set ?_ GE611.out | refine below_set ?_ GE614.out) | exact HB.out))⟩; clear BK611 BK614 HB hq_; have BK611 := n0_; have BK614 := n1_; have HB := n2_; clear n0_ n1_ n2_))) | ((with_reducible refine gate_callee (f := 125) rfl ?_); refine goesL_ (some 41) rfl rfl Tryd.func125 (by kernel_rfl) rfl #[.string x8_16, .string (⟨#[32]⟩ : ByteArray)] rfl (by (try simp only [List.map_toArray, List.map_cons, List.map_nil]); first | done | rfl | (simp only [List.length_drop, List.length_take]; rfl) | (rw [show ((bt a0 t613) == 93) = true by assumption]; rfl) | (rw [show ((bt a0 t613) == 93) = true by assumption, show ((bt a0 0) == 91) = true by assumption]; rfl)) ?_; (with_reducible refine (strings_Trim.calls x8_16 (⟨#[32]⟩ : ByteArray) t619 _ ?side1 A28.out).mono ?_); (case side1 => exact Glob.step HG.out (by repeat (first | (with_reducible first | exact HB.out | apply below_alloc | apply pw_below_drewN | apply below_drew1 | refine below_set ?_ GE611.out | refine below_set ?_ GE614.out) | exact HB.out))); rintro e w' ⟨rfl, ⟨nd, rfl⟩⟩; refine ⟨_, rfl, ?_⟩; (try (rw [drewN_self wc]; generalize hq_ : World.drewN wc _ = wc; have n0_ : Aside0 (wc.heap[gb611]? = some (.cells #[.string (⟨#[]⟩ : ByteArray), .string (⟨#[]⟩ : ByteArray), .bool false, .bool false] 58 (0, 0))) := ⟨by rw [← hq_]; exact (by (with_reducible repeat (first | refine blk_drewN ?_ _ | refine blk_drew ?_ | refine blk_alloc ?_ _)); exact BK611.out)⟩; have n1_ : Aside0 (wc.heap[gb614]? = some (.cells #[.string (⟨#[]⟩ : ByteArray), .string (⟨#[]⟩ : ByteArray), .bool ((bt a0 0) == 91), .bool ((bt a0 t613) == 93)] 58 (0, 0))) := ⟨by rw [← hq_]; exact (by (with_reducible repeat (first | refine blk_drewN ?_ _ | refine blk_drew ?_ | refine blk_alloc ?_ _)); exact BK614.out)⟩; have n2_ : Aside0 (Below w.heap.size w wc) := ⟨by rw [← hq_]; exact (by repeat (first | (with_reducible first | exact HB.out | apply below_alloc | apply pw_below_drewN | apply below_drew1 | refine below_set ?_ GE611.out | refine below_set ?_ GE614.out) | exact HB.out))⟩; clear BK611 BK614 HB hq_; have BK611 := n0_; have BK614 := n1_; have HB := n2_; clear n0_ n1_ n2_)); have hnb58 := NB614_611.out; have hnc58 := NB611_614.out; have hcz59_0 : wc.cell? ⟨gb614, 0, none⟩ = some (.string (⟨#[]⟩ : ByteArray)) := (blk_cell BK614.out 0).trans rfl; have hcz59_1 : wc.cell? ⟨gb614, 1, none⟩ = some (.string (⟨#[]⟩ : ByteArray)) := (blk_cell BK614.out 1).trans rfl; have hcz59_2 : wc.cell? ⟨gb614, 2, none⟩ = some (.bool ((bt a0 0) == 91)) := (blk_cell BK614.out 2).trans rfl; have hcz59_3 : wc.cell? ⟨gb614, 3, none⟩ = some (.bool ((bt a0 t613) == 93)) := (blk_cell BK614.out 3).trans rfl; have hfz59_0 := blk_frozen BK614.out 0; have hfz59_1 := blk_frozen BK614.out 1; have hfz59_2 := blk_frozen BK614.out 2; have hfz59_3 := blk_frozen BK614.out 3; have hcz60_0 : wc.cell? ⟨gb611, 0, none⟩ = some (.string (⟨#[]⟩ : ByteArray)) := (blk_cell BK611.out 0).trans rfl; have hcz60_1 : wc.cell? ⟨gb611, 1, none⟩ = some (.string (⟨#[]⟩ : ByteArray)) := (blk_cell BK611.out 1).trans rfl; have hcz60_2 : wc.cell? ⟨gb611, 2, none⟩ = some (.bool false) := (blk_cell BK611.out 2).trans rfl; have hcz60_3 : wc.cell? ⟨gb611, 3, none⟩ = some (.bool false) := (blk_cell BK611.out 3).trans rfl; have hfz60_0 := blk_frozen BK611.out 0; have hfz60_1 := blk_frozen BK611.out 1; have hfz60_2 := blk_frozen BK611.out 2; have hfz60_3 := blk_frozen BK611.out 3))
             refine bodyPost_ret (results_ctt rfl _ _ gb611 58 #[.string (⟨#[]⟩ : ByteArray), .string (⟨#[]⟩ : ByteArray), .bool false, .bool false] (0, 0) _ rfl (by (with_reducible repeat (first | refine blk_drewN ?_ _ | refine blk_drew ?_ | refine blk_alloc ?_ _)); refine blk_put (cs := #[.string (⟨#[]⟩ : ByteArray), .string (⟨#[]⟩ : ByteArray), .bool false, .bool false]) ?_ 3 _ rfl; (with_reducible repeat (first | refine blk_drewN ?_ _ | refine blk_drew ?_ | refine blk_alloc ?_ _)); refine blk_put (cs := #[.string (⟨#[]⟩ : ByteArray), .string (⟨#[]⟩ : ByteArray), .bool false, .bool false]) ?_ 2 _ rfl; (with_reducible repeat (first | refine blk_drewN ?_ _ | refine blk_drew ?_ | refine blk_alloc ?_ _)); refine blk_put (cs := #[.string (⟨#[]⟩ : ByteArray), .string (⟨#[]⟩ : ByteArray), .bool false, .bool false]) ?_ 1 _ rfl; (with_reducible repeat (first | refine blk_drewN ?_ _ | refine blk_drew ?_ | refine blk_alloc ?_ _)); refine blk_put (cs := #[.string (⟨#[]⟩ : ByteArray), .string (⟨#[]⟩ : ByteArray), .bool false, .bool false]) ?_ 0 _ rfl; (with_reducible repeat (first | refine blk_drewN ?_ _ | refine blk_drew ?_ | refine blk_alloc ?_ _)); refine blk_far ?_ NB611_614.out _; (with_reducible repeat (first | refine blk_drewN ?_ _ | refine blk_drew ?_ | refine blk_alloc ?_ _)); refine blk_far ?_ NB611_614.out _; (with_reducible repeat (first | refine blk_drewN ?_ _ | refine blk_drew ?_ | refine blk_alloc ?_ _)); exact BK611.out) Tryd.underlying58 rfl (by kernel_rfl)) rfl ?_
             exact ⟨by first | rfl | (simp [errW_none, errW_some] <;> rfl) | (simp [*, errW_none, errW_some] <;> rfl), by repeat (first | (with_reducible first | exact HB.out | apply below_alloc | apply pw_below_drewN | apply below_drew1 | refine below_set ?_ GE611.out | refine below_set ?_ GE614.out) | exact HB.out)⟩
           ·rw [if_neg c43] at H
            have c43b0 : ((bt a0 0) == 91) = false := by simpa using c43
            (try (have c43b1 : decide ((bt a0 0) = 91) = false := by simpa using c43))
            (try (have c43b2 : ((bt a0 0) == 91) = false := by simpa using c43))
            (try (have c43b3 : ¬ ((bt a0 0) = 91) := by simpa using c43))
            clear c43
            simp only [Option.some.injEq, Prod.mk.injEq] at H
            obtain ⟨rfl, rfl, rfl, rfl, rfl, rfl⟩ := H
            go_wp2_with (first | ((with_reducible refine gate_callee (f := 125) rfl ?_); refine goesL_ (some 39) rfl rfl Tryd.func125 (by kernel_rfl) rfl #[.string t615, .string (⟨#[32]⟩ : ByteArray)] rfl (by (try simp only [List.map_toArray, List.map_cons, List.map_nil]); first | done | rfl | (simp only [List.length_drop, List.length_take]; rfl) | (rw [show ((bt a0 t613) == 93) = true by assumption]; rfl) | (rw [show ((bt a0 t613) == 93) = true by assumption, show ((bt a0 0) == 91) = true by assumption]; rfl)) ?_; (with_reducible refine (strings_Trim.calls t615 (⟨#[32]⟩ : ByteArray) t618 _ ?side1 A27.out).mono ?_); (case side1 => exact Glob.step HG.out (by repeat (first | (with_reducible first | exact HB.out | apply below_alloc | apply pw_below_drewN | apply below_drew1 | refine below_set ?_ GE611.out | refine below_set ?_ GE614.out) | exact HB.out))); rintro e w' ⟨rfl, ⟨nd, rfl⟩⟩; refine ⟨_, rfl, ?_⟩; (try (rw [drewN_self wc]; generalize hq_ : World.drewN wc _ = wc; have n0_ : Aside0 (wc.heap[gb611]? = some (.cells #[.string (⟨#[]⟩ : ByteArray), .string (⟨#[]⟩ : ByteArray), .bool false, .bool false] 58 (0, 0))) := ⟨by rw [← hq_]; exact (by (with_reducible repeat (first | refine blk_drewN ?_ _ | refine blk_drew ?_ | refine blk_alloc ?_ _)); exact BK611.out)⟩; have n1_ : Aside0 (wc.heap[gb614]? = some (.cells #[.string (⟨#[]⟩ : ByteArray), .string (⟨#[]⟩ : ByteArray), .bool ((bt a0 0) == 91), .bool ((bt a0 t613) == 93)] 58 (0, 0))) := ⟨by rw [← hq_]; exact (by (with_reducible repeat (first | refine blk_drewN ?_ _ | refine blk_drew ?_ | refine blk_alloc ?_ _)); exact BK614.out)⟩; have n2_ : Aside0 (Below w.heap.size w wc) := ⟨by rw [← hq_]; exact (by repeat (first | (with_reducible first | exact HB.out | apply below_alloc | apply pw_below_drewN | apply below_drew1 | refine below_set ?_ GE611.out | refine below_set ?_ GE614.out) | exact HB.out))⟩; clear BK611 BK614 HB hq_; have BK611 := n0_; have BK614 := n1_; have HB := n2_; clear n0_ n1_ n2_))) | ((with_reducible refine gate_callee (f := 125) rfl ?_); refine goesL_ (some 41) rfl rfl Tryd.func125 (by kernel_rfl) rfl #[.string x8_16, .string (⟨#[32]⟩ : ByteArray)] rfl (by (try simp only [List.map_toArray, List.map_cons, List.map_nil]); first | done | rfl | (simp only [List.length_drop, List.length_take]; rfl) | (rw [show ((bt a0 t613) == 93) = true by assumption]; rfl) | (rw [show ((bt a0 t613) == 93) = true by assumption, show ((bt a0 0) == 91) = true by assumption]; rfl)) ?_; (with_reducible refine (strings_Trim.calls x8_16 (⟨#[32]⟩ : ByteArray) t619 _ ?side1 A28.out).mono ?_); (case side1 => exact Glob.step HG.out (by repeat (first | (with_reducible first | exact HB.out | apply below_alloc | apply pw_below_drewN | apply below_drew1 | refine below_set ?_ GE611.out | refine below_set ?_ GE614.out) | exact HB.out))); rintro e w' ⟨rfl, ⟨nd, rfl⟩⟩; refine ⟨_, rfl, ?_⟩; (try (rw [drewN_self wc]; generalize hq_ : World.drewN wc _ = wc; have n0_ : Aside0 (wc.heap[gb611]? = some (.cells #[.string (⟨#[]⟩ : ByteArray), .string (⟨#[]⟩ : ByteArray), .bool false, .bool false] 58 (0, 0))) := ⟨by rw [← hq_]; exact (by (with_reducible repeat (first | refine blk_drewN ?_ _ | refine blk_drew ?_ | refine blk_alloc ?_ _)); exact BK611.out)⟩; have n1_ : Aside0 (wc.heap[gb614]? = some (.cells #[.string (⟨#[]⟩ : ByteArray), .string (⟨#[]⟩ : ByteArray), .bool ((bt a0 0) == 91), .bool ((bt a0 t613) == 93)] 58 (0, 0))) := ⟨by rw [← hq_]; exact (by (with_reducible repeat (first | refine blk_drewN ?_ _ | refine blk_drew ?_ | refine blk_alloc ?_ _)); exact BK614.out)⟩; have n2_ : Aside0 (Below w.heap.size w wc) := ⟨by rw [← hq_]; exact (by repeat (first | (with_reducible first | exact HB.out | apply below_alloc | apply pw_below_drewN | apply below_drew1 | refine below_set ?_ GE611.out | refine below_set ?_ GE614.out) | exact HB.out))⟩; clear BK611 BK614 HB hq_; have BK611 := n0_; have BK614 := n1_; have HB := n2_; clear n0_ n1_ n2_)); have hnb61 := NB614_611.out; have hnc61 := NB611_614.out; have hcz62_0 : wc.cell? ⟨gb614, 0, none⟩ = some (.string (⟨#[]⟩ : ByteArray)) := (blk_cell BK614.out 0).trans rfl; have hcz62_1 : wc.cell? ⟨gb614, 1, none⟩ = some (.string (⟨#[]⟩ : ByteArray)) := (blk_cell BK614.out 1).trans rfl; have hcz62_2 : wc.cell? ⟨gb614, 2, none⟩ = some (.bool ((bt a0 0) == 91)) := (blk_cell BK614.out 2).trans rfl; have hcz62_3 : wc.cell? ⟨gb614, 3, none⟩ = some (.bool ((bt a0 t613) == 93)) := (blk_cell BK614.out 3).trans rfl; have hfz62_0 := blk_frozen BK614.out 0; have hfz62_1 := blk_frozen BK614.out 1; have hfz62_2 := blk_frozen BK614.out 2; have hfz62_3 := blk_frozen BK614.out 3; have hcz63_0 : wc.cell? ⟨gb611, 0, none⟩ = some (.string (⟨#[]⟩ : ByteArray)) := (blk_cell BK611.out 0).trans rfl; have hcz63_1 : wc.cell? ⟨gb611, 1, none⟩ = some (.string (⟨#[]⟩ : ByteArray)) := (blk_cell BK611.out 1).trans rfl; have hcz63_2 : wc.cell? ⟨gb611, 2, none⟩ = some (.bool false) := (blk_cell BK611.out 2).trans rfl; have hcz63_3 : wc.cell? ⟨gb611, 3, none⟩ = some (.bool false) := (blk_cell BK611.out 3).trans rfl; have hfz63_0 := blk_frozen BK611.out 0; have hfz63_1 := blk_frozen BK611.out 1; have hfz63_2 := blk_frozen BK611.out 2; have hfz63_3 := blk_frozen BK611.out 3))
            refine bodyPost_ret (results_ctt rfl _ _ gb611 58 #[.string (⟨#[]⟩ : ByteArray), .string (⟨#[]⟩ : ByteArray), .bool false, .bool false] (0, 0) _ rfl (by (with_reducible repeat (first | refine blk_drewN ?_ _ | refine blk_drew ?_ | refine blk_alloc ?_ _)); refine blk_put (cs := #[.string (⟨#[]⟩ : ByteArray), .string (⟨#[]⟩ : ByteArray), .bool false, .bool false]) ?_ 3 _ rfl; (with_reducible repeat (first | refine blk_drewN ?_ _ | refine blk_drew ?_ | refine blk_alloc ?_ _)); refine blk_put (cs := #[.string (⟨#[]⟩ : ByteArray), .string (⟨#[]⟩ : ByteArray), .bool false, .bool false]) ?_ 2 _ rfl; (with_reducible repeat (first | refine blk_drewN ?_ _ | refine blk_drew ?_ | refine blk_alloc ?_ _)); refine blk_put (cs := #[.string (⟨#[]⟩ : ByteArray), .string (⟨#[]⟩ : ByteArray), .bool false, .bool false]) ?_ 1 _ rfl; (with_reducible repeat (first | refine blk_drewN ?_ _ | refine blk_drew ?_ | refine blk_alloc ?_ _)); refine blk_put (cs := #[.string (⟨#[]⟩ : ByteArray), .string (⟨#[]⟩ : ByteArray), .bool false, .bool false]) ?_ 0 _ rfl; (with_reducible repeat (first | refine blk_drewN ?_ _ | refine blk_drew ?_ | refine blk_alloc ?_ _)); refine blk_far ?_ NB611_614.out _; (with_reducible repeat (first | refine blk_drewN ?_ _ | refine blk_drew ?_ | refine blk_alloc ?_ _)); refine blk_far ?_ NB611_614.out _; (with_reducible repeat (first | refine blk_drewN ?_ _ | refine blk_drew ?_ | refine blk_alloc ?_ _)); exact BK611.out) Tryd.underlying58 rfl (by kernel_rfl)) rfl ?_
            exact ⟨by first | rfl | (simp [errW_none, errW_some] <;> rfl) | (simp [*, errW_none, errW_some] <;> rfl), by repeat (first | (with_reducible first | exact HB.out | apply below_alloc | apply pw_below_drewN | apply below_drew1 | refine below_set ?_ GE611.out | refine below_set ?_ GE614.out) | exact HB.out)⟩
       ·rw [if_neg c15] at H
        exact absurd H (by simp)
      ·rw [if_neg c14] at H
       exact absurd H (by simp)
     ·rw [if_neg c12] at H
      exact absurd H (by simp)
    ·rw [if_neg c11] at H
     exact absurd H (by simp)
   ·rw [if_neg c9] at H
    exact absurd H (by simp)
 ·replace c3 := Bool.eq_false_iff.mpr c3
  subst c3
  have H1 : (some ((⟨#[]⟩ : ByteArray), (⟨#[]⟩ : ByteArray), false, false, (⟨#[]⟩ : ByteArray), false)) = some (r1, r2, r3, r4, r5, r6) := by rw [if_neg (show ¬ (false = true) by decide)] at H; exact H
  clear H
  have H := H1
  clear H1
  simp only [Option.some.injEq, Prod.mk.injEq] at H
  obtain ⟨rfl, rfl, rfl, rfl, rfl, rfl⟩ := H
  go_enter Tryd.func92, Tryd.ntmps92
  go_wp2_with (first | ((with_reducible refine gate_dst (N := 2) rfl ?_); refine box_event ?hg (N := 2) ?hd (cs := #[.string (⟨#[]⟩ : ByteArray), .string (⟨#[]⟩ : ByteArray), .bool false, .bool false]) (t := 58) ?hr ?_; (case hd => rfl); (case hg => rfl); (case hr => first | (go_simp; done) | (go_simp; rfl)); intro gb611 hg w64 hbox hb; have n0_ := Aside0.mk (below_step (by repeat (first | (with_reducible first | exact HB.out | apply below_alloc | apply pw_below_drewN | apply below_drew1) | exact HB.out)) hb); have n1_ := Aside0.mk (hbox); have n2_ := Aside0.mk ((by rw [hg]; exact (below_size (by repeat (first | (with_reducible first | exact HB.out | apply below_alloc | apply pw_below_drewN | apply below_drew1) | exact HB.out))) : w.heap.size ≤ gb611)); have n3_ := Aside0.mk ((by rw [hg]; exact (below_size (by repeat (first | (with_reducible first | exact HB.out | apply below_alloc | apply pw_below_drewN | apply below_drew1) | exact HB.out))) : w.heap.size ≤ gb611)); clear HB; have HB := n0_; have BK611 := n1_; have GW611 := n2_; have GE611 := n3_; clear n0_ n1_ n2_ n3_; clear hb hbox hg) | ((with_reducible refine gate_callee (f := 86) rfl ?_); refine goesL_ (some 11) rfl rfl Tryd.func86 (by kernel_rfl) rfl #[.string a0] rfl (by (try simp only [List.map_toArray, List.map_cons, List.map_nil]); first | done | rfl | (simp only [List.length_drop, List.length_take]; rfl) | (rw [show ((bt a0 t613) == 93) = true by assumption]; rfl) | (rw [show ((bt a0 t613) == 93) = true by assumption, show ((bt a0 0) == 91) = true by assumption]; rfl)) ?_; (with_reducible refine (span_Is.calls a0 false _ ?side1 A2.out).mono ?_); (case side1 => exact Glob.step HG.out (by repeat (first | (with_reducible first | exact HB.out | apply below_alloc | apply pw_below_drewN | apply below_drew1 | refine below_set ?_ GE611.out) | exact HB.out))); rintro e w' ⟨rfl, ⟨nd, rfl⟩⟩; refine ⟨_, rfl, ?_⟩; (try ((try simp only [World.drewN_drewN]); (first | generalize hq_ : World.drewN w64 _ = w64 | (rw [drewN_self w64]; generalize hq_ : World.drewN w64 _ = w64)); have n0_ : Aside0 (w64.heap[gb611]? = some (.cells #[.string (⟨#[]⟩ : ByteArray), .string (⟨#[]⟩ : ByteArray), .bool false, .bool false] 58 (0, 0))) := ⟨by rw [← hq_]; exact (by (with_reducible repeat (first | refine blk_drewN ?_ _ | refine blk_drew ?_ | refine blk_alloc ?_ _)); exact BK611.out)⟩; have n1_ : Aside0 (Below w.heap.size w w64) := ⟨by rw [← hq_]; exact (by repeat (first | (with_reducible first | exact HB.out | apply below_alloc | apply pw_below_drewN | apply below_drew1 | refine below_set ?_ GE611.out) | exact HB.out))⟩; clear BK611 HB hq_; have BK611 := n0_; have HB := n1_; clear n0_ n1_)); have hcz65_0 : w64.cell? ⟨gb611, 0, none⟩ = some (.string (⟨#[]⟩ : ByteArray)) := (blk_cell BK611.out 0).trans rfl; have hcz65_1 : w64.cell? ⟨gb611, 1, none⟩ = some (.string (⟨#[]⟩ : ByteArray)) := (blk_cell BK611.out 1).trans rfl; have hcz65_2 : w64.cell? ⟨gb611, 2, none⟩ = some (.bool false) := (blk_cell BK611.out 2).trans rfl; have hcz65_3 : w64.cell? ⟨gb611, 3, none⟩ = some (.bool false) := (blk_cell BK611.out 3).trans rfl; have hfz65_0 := blk_frozen BK611.out 0; have hfz65_1 := blk_frozen BK611.out 1; have hfz65_2 := blk_frozen BK611.out 2; have hfz65_3 := blk_frozen BK611.out 3))
  refine bodyPost_ret (results_ctt rfl _ _ gb611 58 #[.string (⟨#[]⟩ : ByteArray), .string (⟨#[]⟩ : ByteArray), .bool false, .bool false] (0, 0) _ rfl (by (with_reducible repeat (first | refine blk_drewN ?_ _ | refine blk_drew ?_ | refine blk_alloc ?_ _)); refine blk_put (cs := #[.string (⟨#[]⟩ : ByteArray), .string (⟨#[]⟩ : ByteArray), .bool false, .bool false]) ?_ 3 _ rfl; (with_reducible repeat (first | refine blk_drewN ?_ _ | refine blk_drew ?_ | refine blk_alloc ?_ _)); refine blk_put (cs := #[.string (⟨#[]⟩ : ByteArray), .string (⟨#[]⟩ : ByteArray), .bool false, .bool false]) ?_ 2 _ rfl; (with_reducible repeat (first | refine blk_drewN ?_ _ | refine blk_drew ?_ | refine blk_alloc ?_ _)); refine blk_put (cs := #[.string (⟨#[]⟩ : ByteArray), .string (⟨#[]⟩ : ByteArray), .bool false, .bool false]) ?_ 1 _ rfl; (with_reducible repeat (first | refine blk_drewN ?_ _ | refine blk_drew ?_ | refine blk_alloc ?_ _)); refine blk_put (cs := #[.string (⟨#[]⟩ : ByteArray), .string (⟨#[]⟩ : ByteArray), .bool false, .bool false]) ?_ 0 _ rfl; (with_reducible repeat (first | refine blk_drewN ?_ _ | refine blk_drew ?_ | refine blk_alloc ?_ _)); exact BK611.out) Tryd.underlying58 rfl (by kernel_rfl)) rfl ?_
  exact ⟨by first | rfl | (simp [errW_none, errW_some] <;> rfl) | (simp [*, errW_none, errW_some] <;> rfl), by repeat (first | (with_reducible first | exact HB.out | apply below_alloc | apply pw_below_drewN | apply below_drew1 | refine below_set ?_ GE611.out) | exact HB.out)⟩

end Go.Proofs.YtgdjfcmmpjcaaaaDoor.Q

-- Printed by this session's wip/np.py over the kit's print program. Not trusted: Lean checks it.
namespace Go.Proofs.YtgdjfcmmpjcaaaaDoor.Q
open Go.RowKit Go.Proofs.YtgdjfcmmpjcaaaaDoorW.PrintWords Go.Proofs.YtgdjfcmmpjcaaaaDoorW.PrintLast Go.Proofs.YtgdjfcmmpjcaaaaDoorW.Own Go.Proofs.YtgdjfcmmpjcaaaaDoorW.PrintMore
attribute [local go_sem] max2_int min2_int max_two min_two max_three min_three max_four min_four
set_option linter.unusedVariables false
set_option linter.unusedSimpArgs false

/-! ### span_behind: function 93 -/
def span_behind.f (k : Nat) (a0_0 : ByteArray) (a0_1 : ByteArray) (a0_2 : Bool) (a0_3 : Bool) (a1_0 : ByteArray) (a1_1 : ByteArray) (a1_2 : Bool) (a1_3 : Bool) : Option (Bool) := if a0_1.toList = ([] : List UInt8) then (some false) else (if a1_0.toList = ([] : List UInt8) then (some false) else ((order_Compare.f k a0_1 a1_0).bind fun t624 => (if t624 < 0 then (some true) else (if t624 = 0 then (if a0_3 = true then (some (!a1_2)) else (some (!false))) else (some false)))))
theorem span_behind.mono : ∀ a0 a1 a2 a3 a4 a5 a6 a7 k, LeO (span_behind.f k a0 a1 a2 a3 a4 a5 a6 a7) (span_behind.f (k + 1) a0 a1 a2 a3 a4 a5 a6 a7) := by
 intro a0 a1 a2 a3 a4 a5 a6 a7 k
 unfold span_behind.f
 repeat' first
  | (with_reducible exact order_Compare.mono _ _ _)
  | (with_reducible exact LeO.refl _)
  | (with_reducible exact LeO.none _)
  | (with_reducible refine LeO.ite ?_ ?_)
  | (with_reducible refine LeO.bind ?_ (fun _ => ?_))
  | exact order_Compare.mono _ _ _
  | exact LeO.none _
  | refine LeO.ite ?_ ?_
  | refine LeO.bind ?_ (fun _ => ?_)
set_option maxHeartbeats 8000000 in
set_option maxRecDepth 100000 in
theorem span_behind.calls (k : Nat) (a0_0 : ByteArray) (a0_1 : ByteArray) (a0_2 : Bool) (a0_3 : Bool) (a1_0 : ByteArray) (a1_1 : ByteArray) (a1_2 : Bool) (a1_3 : Bool) (r : Bool) (w : World) (hG : Glob w) (h : span_behind.f k a0_0 a0_1 a0_2 a0_3 a1_0 a1_1 a1_2 a1_3 = some r) :
 Calls Tryd.prog 93 #[.agg #[.string a0_0, .string a0_1, .bool a0_2, .bool a0_3], .agg #[.string a1_0, .string a1_1, .bool a1_2, .bool a1_3]] w fun e w' => e = .returned (.bool r) ∧ Below w.heap.size w w' := by
 have hu58 := Tryd.underlying58
 have HG := Aside0.mk hG
 clear hG
 have HB := Aside0.mk (Below.refl w.heap.size w)
 have H : (if a0_1.toList = ([] : List UInt8) then (some false) else (if a1_0.toList = ([] : List UInt8) then (some false) else ((order_Compare.f k a0_1 a1_0).bind fun t624 => (if t624 < 0 then (some true) else (if t624 = 0 then (if a0_3 = true then (some (!a1_2)) else (some (!false))) else (some false)))))) = some r := h
 clear h
 by_cases c3 : a0_1.toList = ([] : List UInt8)
 ·rw [if_pos c3] at H
  have c3b0 : (a0_1.toList == ([] : List UInt8)) = true := beq_iff_eq.mpr c3
  have c3b1 : (a0_1.toList != ([] : List UInt8)) = false := bne_eq_false_iff_eq.mpr c3
  (try (have c3b2 : a0_1.toList.isEmpty = true := by simpa using c3))
  clear c3
  obtain rfl := Option.some.inj H
  go_enter Tryd.func93, Tryd.ntmps93
  go_wp2_with (first | ((with_reducible refine gate_dst (N := 2) rfl ?_); refine box_event ?hg (N := 2) ?hd (cs := #[.string a0_0, .string a0_1, .bool a0_2, .bool a0_3]) (t := 58) ?hr ?_; (case hd => rfl); (case hg => rfl); (case hr => first | (go_simp; done) | (go_simp; rfl)); intro gb622 hg w4 hbox hb; have n0_ := Aside0.mk (below_step (by repeat (first | (with_reducible first | exact HB.out | apply below_alloc | apply pw_below_drewN | apply below_drew1) | exact HB.out)) hb); have n1_ := Aside0.mk (hbox); have n2_ := Aside0.mk ((by rw [hg]; exact (below_size (by repeat (first | (with_reducible first | exact HB.out | apply below_alloc | apply pw_below_drewN | apply below_drew1) | exact HB.out))) : w.heap.size ≤ gb622)); have n3_ := Aside0.mk ((by rw [hg]; exact (below_size (by repeat (first | (with_reducible first | exact HB.out | apply below_alloc | apply pw_below_drewN | apply below_drew1) | exact HB.out))) : w.heap.size ≤ gb622)); clear HB; have HB := n0_; have BK622 := n1_; have GW622 := n2_; have GE622 := n3_; clear n0_ n1_ n2_ n3_; clear hb hbox hg) | ((with_reducible refine gate_dst (N := 3) rfl ?_); refine box_event ?hg (N := 3) ?hd (cs := #[.string a1_0, .string a1_1, .bool a1_2, .bool a1_3]) (t := 58) ?hr ?_; (case hd => rfl); (case hg => rfl); (case hr => first | (go_simp; done) | (go_simp; rfl)); intro gb623 hg w5 hbox hb; have n0_ := Aside0.mk (blk_below (g := gb622) (o := .cells #[.string a0_0, .string a0_1, .bool a0_2, .bool a0_3] 58 (0, 0)) (by (with_reducible repeat (first | refine blk_drewN ?_ _ | refine blk_drew ?_ | refine blk_alloc ?_ _)); exact BK622.out) hb); have n1_ := Aside0.mk (below_step (by repeat (first | (with_reducible first | exact HB.out | apply below_alloc | apply pw_below_drewN | apply below_drew1 | refine below_set ?_ GE622.out) | exact HB.out)) hb); have n2_ := Aside0.mk (hbox); have n3_ := Aside0.mk ((by rw [hg]; exact (below_size (by repeat (first | (with_reducible first | exact HB.out | apply below_alloc | apply pw_below_drewN | apply below_drew1 | refine below_set ?_ GE622.out) | exact HB.out))) : w.heap.size ≤ gb623)); have n4_ := Aside0.mk ((by rw [hg]; exact (below_size (by repeat (first | (with_reducible first | exact HB.out | apply below_alloc | apply pw_below_drewN | apply below_drew1 | refine below_set ?_ GE622.out) | exact HB.out))) : w.heap.size ≤ gb623)); have n5_ := Aside0.mk ((by rw [hg]; exact Nat.ne_of_lt (blk_lt (g := gb622) (o := .cells #[.string a0_0, .string a0_1, .bool a0_2, .bool a0_3] 58 (0, 0)) (by (with_reducible repeat (first | refine blk_drewN ?_ _ | refine blk_drew ?_ | refine blk_alloc ?_ _)); exact BK622.out)) : gb622 ≠ gb623)); have n6_ := Aside0.mk ((by rw [hg]; exact Nat.ne_of_gt (blk_lt (g := gb622) (o := .cells #[.string a0_0, .string a0_1, .bool a0_2, .bool a0_3] 58 (0, 0)) (by (with_reducible repeat (first | refine blk_drewN ?_ _ | refine blk_drew ?_ | refine blk_alloc ?_ _)); exact BK622.out)) : gb623 ≠ gb622)); clear BK622; clear HB; have BK622 := n0_; have HB := n1_; have BK623 := n2_; have GW623 := n3_; have GE623 := n4_; have NB622_623 := n5_; have NB623_622 := n6_; clear n0_ n1_ n2_ n3_ n4_ n5_ n6_; clear hb hbox hg; have hnb6 := NB622_623.out; have hnc6 := NB623_622.out; have hcz7_0 : w5.cell? ⟨gb622, 0, none⟩ = some (.string a0_0) := (blk_cell BK622.out 0).trans rfl; have hcz7_1 : w5.cell? ⟨gb622, 1, none⟩ = some (.string a0_1) := (blk_cell BK622.out 1).trans rfl; have hcz7_2 : w5.cell? ⟨gb622, 2, none⟩ = some (.bool a0_2) := (blk_cell BK622.out 2).trans rfl; have hcz7_3 : w5.cell? ⟨gb622, 3, none⟩ = some (.bool a0_3) := (blk_cell BK622.out 3).trans rfl; have hfz7_0 := blk_frozen BK622.out 0; have hfz7_1 := blk_frozen BK622.out 1; have hfz7_2 := blk_frozen BK622.out 2; have hfz7_3 := blk_frozen BK622.out 3))
  go_ret
  exact ⟨by first | rfl | (simp [errW_none, errW_some] <;> rfl) | (simp [*, errW_none, errW_some] <;> rfl), by repeat (first | (with_reducible first | exact HB.out | apply below_alloc | apply pw_below_drewN | apply below_drew1 | refine below_set ?_ GE622.out | refine below_set ?_ GE623.out) | exact HB.out)⟩
 ·rw [if_neg c3] at H
  have c3b0 : (a0_1.toList == ([] : List UInt8)) = false := beq_eq_false_iff_ne.mpr c3
  have c3b1 : (a0_1.toList != ([] : List UInt8)) = true := bne_iff_ne.mpr c3
  (try (have c3b2 : a0_1.toList.isEmpty = false := by simpa using c3))
  by_cases c8 : a1_0.toList = ([] : List UInt8)
  ·rw [if_pos c8] at H
   have c8b0 : (a1_0.toList == ([] : List UInt8)) = true := beq_iff_eq.mpr c8
   have c8b1 : (a1_0.toList != ([] : List UInt8)) = false := bne_eq_false_iff_eq.mpr c8
   (try (have c8b2 : a1_0.toList.isEmpty = true := by simpa using c8))
   clear c8
   obtain rfl := Option.some.inj H
   go_enter Tryd.func93, Tryd.ntmps93
   go_wp2_with (first | ((with_reducible refine gate_dst (N := 2) rfl ?_); refine box_event ?hg (N := 2) ?hd (cs := #[.string a0_0, .string a0_1, .bool a0_2, .bool a0_3]) (t := 58) ?hr ?_; (case hd => rfl); (case hg => rfl); (case hr => first | (go_simp; done) | (go_simp; rfl)); intro gb622 hg w9 hbox hb; have n0_ := Aside0.mk (below_step (by repeat (first | (with_reducible first | exact HB.out | apply below_alloc | apply pw_below_drewN | apply below_drew1) | exact HB.out)) hb); have n1_ := Aside0.mk (hbox); have n2_ := Aside0.mk ((by rw [hg]; exact (below_size (by repeat (first | (with_reducible first | exact HB.out | apply below_alloc | apply pw_below_drewN | apply below_drew1) | exact HB.out))) : w.heap.size ≤ gb622)); have n3_ := Aside0.mk ((by rw [hg]; exact (below_size (by repeat (first | (with_reducible first | exact HB.out | apply below_alloc | apply pw_below_drewN | apply below_drew1) | exact HB.out))) : w.heap.size ≤ gb622)); clear HB; have HB := n0_; have BK622 := n1_; have GW622 := n2_; have GE622 := n3_; clear n0_ n1_ n2_ n3_; clear hb hbox hg) | ((with_reducible refine gate_dst (N := 3) rfl ?_); refine box_event ?hg (N := 3) ?hd (cs := #[.string a1_0, .string a1_1, .bool a1_2, .bool a1_3]) (t := 58) ?hr ?_; (case hd => rfl); (case hg => rfl); (case hr => first | (go_simp; done) | (go_simp; rfl)); intro gb623 hg w10 hbox hb; have n0_ := Aside0.mk (blk_below (g := gb622) (o := .cells #[.string a0_0, .string a0_1, .bool a0_2, .bool a0_3] 58 (0, 0)) (by (with_reducible repeat (first | refine blk_drewN ?_ _ | refine blk_drew ?_ | refine blk_alloc ?_ _)); exact BK622.out) hb); have n1_ := Aside0.mk (below_step (by repeat (first | (with_reducible first | exact HB.out | apply below_alloc | apply pw_below_drewN | apply below_drew1 | refine below_set ?_ GE622.out) | exact HB.out)) hb); have n2_ := Aside0.mk (hbox); have n3_ := Aside0.mk ((by rw [hg]; exact (below_size (by repeat (first | (with_reducible first | exact HB.out | apply below_alloc | apply pw_below_drewN | apply below_drew1 | refine below_set ?_ GE622.out) | exact HB.out))) : w.heap.size ≤ gb623)); have n4_ := Aside0.mk ((by rw [hg]; exact (below_size (by repeat (first | (with_reducible first | exact HB.out | apply below_alloc | apply pw_below_drewN | apply below_drew1 | refine below_set ?_ GE622.out) | exact HB.out))) : w.heap.size ≤ gb623)); have n5_ := Aside0.mk ((by rw [hg]; exact Nat.ne_of_lt (blk_lt (g := gb622) (o := .cells #[.string a0_0, .string a0_1, .bool a0_2, .bool a0_3] 58 (0, 0)) (by (with_reducible repeat (first | refine blk_drewN ?_ _ | refine blk_drew ?_ | refine blk_alloc ?_ _)); exact BK622.out)) : gb622 ≠ gb623)); have n6_ := Aside0.mk ((by rw [hg]; exact Nat.ne_of_gt (blk_lt (g := gb622) (o := .cells #[.string a0_0, .string a0_1, .bool a0_2, .bool a0_3] 58 (0, 0)) (by (with_reducible repeat (first | refine blk_drewN ?_ _ | refine blk_drew ?_ | refine blk_alloc ?_ _)); exact BK622.out)) : gb623 ≠ gb622)); clear BK622; clear HB; have BK622 := n0_; have HB := n1_; have BK623 := n2_; have GW623 := n3_; have GE623 := n4_; have NB622_623 := n5_; have NB623_622 := n6_; clear n0_ n1_ n2_ n3_ n4_ n5_ n6_; clear hb hbox hg; have hnb11 := NB622_623.out; have hnc11 := NB623_622.out; have hcz12_0 : w10.cell? ⟨gb622, 0, none⟩ = some (.string a0_0) := (blk_cell BK622.out 0).trans rfl; have hcz12_1 : w10.cell? ⟨gb622, 1, none⟩ = some (.string a0_1) := (blk_cell BK622.out 1).trans rfl; have hcz12_2 : w10.cell? ⟨gb622, 2, none⟩ = some (.bool a0_2) := (blk_cell BK622.out 2).trans rfl; have hcz12_3 : w10.cell? ⟨gb622, 3, none⟩ = some (.bool a0_3) := (blk_cell BK622.out 3).trans rfl; have hfz12_0 := blk_frozen BK622.out 0; have hfz12_1 := blk_frozen BK622.out 1; have hfz12_2 := blk_frozen BK622.out 2; have hfz12_3 := blk_frozen BK622.out 3; have hcz13_0 : w10.cell? ⟨gb623, 0, none⟩ = some (.string a1_0) := (blk_cell BK623.out 0).trans rfl; have hcz13_1 : w10.cell? ⟨gb623, 1, none⟩ = some (.string a1_1) := (blk_cell BK623.out 1).trans rfl; have hcz13_2 : w10.cell? ⟨gb623, 2, none⟩ = some (.bool a1_2) := (blk_cell BK623.out 2).trans rfl; have hcz13_3 : w10.cell? ⟨gb623, 3, none⟩ = some (.bool a1_3) := (blk_cell BK623.out 3).trans rfl; have hfz13_0 := blk_frozen BK623.out 0; have hfz13_1 := blk_frozen BK623.out 1; have hfz13_2 := blk_frozen BK623.out 2; have hfz13_3 := blk_frozen BK623.out 3))
   go_ret
   exact ⟨by first | rfl | (simp [errW_none, errW_some] <;> rfl) | (simp [*, errW_none, errW_some] <;> rfl), by repeat (first | (with_reducible first | exact HB.out | apply below_alloc | apply pw_below_drewN | apply below_drew1 | refine below_set ?_ GE622.out | refine below_set ?_ GE623.out) | exact HB.out)⟩
  ·rw [if_neg c8] at H
   have c8b0 : (a1_0.toList == ([] : List UInt8)) = false := beq_eq_false_iff_ne.mpr c8
   have c8b1 : (a1_0.toList != ([] : List UInt8)) = true := bne_iff_ne.mpr c8
   (try (have c8b2 : a1_0.toList.isEmpty = false := by simpa using c8))
   replace H := Option.bind_eq_some_iff.mp H
   obtain ⟨t624, A140, H⟩ := H
   replace H : (if t624 < 0 then (some true) else (if t624 = 0 then (if a0_3 = true then (some (!a1_2)) else (some (!false))) else (some false))) = some r := H
   have A14 := Aside0.mk A140
   clear A140
   by_cases c15 : t624 < 0
   ·rw [if_pos c15] at H
    have c15b0 : decide (t624 < 0) = true := decide_eq_true c15
    clear c15
    obtain rfl := Option.some.inj H
    go_enter Tryd.func93, Tryd.ntmps93
    go_wp2_with (first | ((with_reducible refine gate_dst (N := 2) rfl ?_); refine box_event ?hg (N := 2) ?hd (cs := #[.string a0_0, .string a0_1, .bool a0_2, .bool a0_3]) (t := 58) ?hr ?_; (case hd => rfl); (case hg => rfl); (case hr => first | (go_simp; done) | (go_simp; rfl)); intro gb622 hg w16 hbox hb; have n0_ := Aside0.mk (below_step (by repeat (first | (with_reducible first | exact HB.out | apply below_alloc | apply pw_below_drewN | apply below_drew1) | exact HB.out)) hb); have n1_ := Aside0.mk (hbox); have n2_ := Aside0.mk ((by rw [hg]; exact (below_size (by repeat (first | (with_reducible first | exact HB.out | apply below_alloc | apply pw_below_drewN | apply below_drew1) | exact HB.out))) : w.heap.size ≤ gb622)); have n3_ := Aside0.mk ((by rw [hg]; exact (below_size (by repeat (first | (with_reducible first | exact HB.out | apply below_alloc | apply pw_below_drewN | apply below_drew1) | exact HB.out))) : w.heap.size ≤ gb622)); clear HB; have HB := n0_; have BK622 := n1_; have GW622 := n2_; have GE622 := n3_; clear n0_ n1_ n2_ n3_; clear hb hbox hg) | ((with_reducible refine gate_dst (N := 3) rfl ?_); refine box_event ?hg (N := 3) ?hd (cs := #[.string a1_0, .string a1_1, .bool a1_2, .bool a1_3]) (t := 58) ?hr ?_; (case hd => rfl); (case hg => rfl); (case hr => first | (go_simp; done) | (go_simp; rfl)); intro gb623 hg w17 hbox hb; have n0_ := Aside0.mk (blk_below (g := gb622) (o := .cells #[.string a0_0, .string a0_1, .bool a0_2, .bool a0_3] 58 (0, 0)) (by (with_reducible repeat (first | refine blk_drewN ?_ _ | refine blk_drew ?_ | refine blk_alloc ?_ _)); exact BK622.out) hb); have n1_ := Aside0.mk (below_step (by repeat (first | (with_reducible first | exact HB.out | apply below_alloc | apply pw_below_drewN | apply below_drew1 | refine below_set ?_ GE622.out) | exact HB.out)) hb); have n2_ := Aside0.mk (hbox); have n3_ := Aside0.mk ((by rw [hg]; exact (below_size (by repeat (first | (with_reducible first | exact HB.out | apply below_alloc | apply pw_below_drewN | apply below_drew1 | refine below_set ?_ GE622.out) | exact HB.out))) : w.heap.size ≤ gb623)); have n4_ := Aside0.mk ((by rw [hg]; exact (below_size (by repeat (first | (with_reducible first | exact HB.out | apply below_alloc | apply pw_below_drewN | apply below_drew1 | refine below_set ?_ GE622.out) | exact HB.out))) : w.heap.size ≤ gb623)); have n5_ := Aside0.mk ((by rw [hg]; exact Nat.ne_of_lt (blk_lt (g := gb622) (o := .cells #[.string a0_0, .string a0_1, .bool a0_2, .bool a0_3] 58 (0, 0)) (by (with_reducible repeat (first | refine blk_drewN ?_ _ | refine blk_drew ?_ | refine blk_alloc ?_ _)); exact BK622.out)) : gb622 ≠ gb623)); have n6_ := Aside0.mk ((by rw [hg]; exact Nat.ne_of_gt (blk_lt (g := gb622) (o := .cells #[.string a0_0, .string a0_1, .bool a0_2, .bool a0_3] 58 (0, 0)) (by (with_reducible repeat (first | refine blk_drewN ?_ _ | refine blk_drew ?_ | refine blk_alloc ?_ _)); exact BK622.out)) : gb623 ≠ gb622)); clear BK622; clear HB; have BK622 := n0_; have HB := n1_; have BK623 := n2_; have GW623 := n3_; have GE623 := n4_; have NB622_623 := n5_; have NB623_622 := n6_; clear n0_ n1_ n2_ n3_ n4_ n5_ n6_; clear hb hbox hg; have hnb18 := NB622_623.out; have hnc18 := NB623_622.out; have hcz19_0 : w17.cell? ⟨gb622, 0, none⟩ = some (.string a0_0) := (blk_cell BK622.out 0).trans rfl; have hcz19_1 : w17.cell? ⟨gb622, 1, none⟩ = some (.string a0_1) := (blk_cell BK622.out 1).trans rfl; have hcz19_2 : w17.cell? ⟨gb622, 2, none⟩ = some (.bool a0_2) := (blk_cell BK622.out 2).trans rfl; have hcz19_3 : w17.cell? ⟨gb622, 3, none⟩ = some (.bool a0_3) := (blk_cell BK622.out 3).trans rfl; have hfz19_0 := blk_frozen BK622.out 0; have hfz19_1 := blk_frozen BK622.out 1; have hfz19_2 := blk_frozen BK622.out 2; have hfz19_3 := blk_frozen BK622.out 3; have hcz20_0 : w17.cell? ⟨gb623, 0, none⟩ = some (.string a1_0) := (blk_cell BK623.out 0).trans rfl; have hcz20_1 : w17.cell? ⟨gb623, 1, none⟩ = some (.string a1_1) := (blk_cell BK623.out 1).trans rfl; have hcz20_2 : w17.cell? ⟨gb623, 2, none⟩ = some (.bool a1_2) := (blk_cell BK623.out 2).trans rfl; have hcz20_3 : w17.cell? ⟨gb623, 3, none⟩ = some (.bool a1_3) := (blk_cell BK623.out 3).trans rfl; have hfz20_0 := blk_frozen BK623.out 0; have hfz20_1 := blk_frozen BK623.out 1; have hfz20_2 := blk_frozen BK623.out 2; have hfz20_3 := blk_frozen BK623.out 3) | ((with_reducible refine gate_callee (f := 114) rfl ?_); refine goesL_ (some 18) rfl rfl Tryd.func114 (by kernel_rfl) rfl #[.string a0_1, .string a1_0] rfl (by (try simp only [List.map_toArray, List.map_cons, List.map_nil]); first | done | rfl | (simp only [List.length_drop, List.length_take]; rfl)) ?_; (with_reducible refine (order_Compare.calls k a0_1 a1_0 t624 _ ?side1 A14.out).mono ?_); (case side1 => exact Glob.step HG.out (by repeat (first | (with_reducible first | exact HB.out | apply below_alloc | apply pw_below_drewN | apply below_drew1 | refine below_set ?_ GE622.out | refine below_set ?_ GE623.out) | exact HB.out))); rintro e w21 ⟨rfl, hb⟩; refine ⟨_, rfl, ?_⟩; have n0_ := Aside0.mk (blk_below (g := gb622) (o := .cells #[.string a0_0, .string a0_1, .bool a0_2, .bool a0_3] 58 (0, 0)) (by (with_reducible repeat (first | refine blk_drewN ?_ _ | refine blk_drew ?_ | refine blk_alloc ?_ _)); exact BK622.out) hb); have n1_ := Aside0.mk (blk_below (g := gb623) (o := .cells #[.string a1_0, .string a1_1, .bool a1_2, .bool a1_3] 58 (0, 0)) (by (with_reducible repeat (first | refine blk_drewN ?_ _ | refine blk_drew ?_ | refine blk_alloc ?_ _)); exact BK623.out) hb); have n2_ := Aside0.mk (below_step (by repeat (first | (with_reducible first | exact HB.out | apply below_alloc | apply pw_below_drewN | apply below_drew1 | refine below_set ?_ GE622.out | refine below_set ?_ GE623.out) | exact HB.out)) hb); clear BK622; clear BK623; clear HB; have BK622 := n0_; have BK623 := n1_; have HB := n2_; clear n0_ n1_ n2_; (try clear hb); (try clear hb2); (try clear hk); (try clear hi)))
    go_ret
    exact ⟨by first | rfl | (simp [errW_none, errW_some] <;> rfl) | (simp [*, errW_none, errW_some] <;> rfl), by repeat (first | (with_reducible first | exact HB.out | apply below_alloc | apply pw_below_drewN | apply below_drew1 | refine below_set ?_ GE622.out | refine below_set ?_ GE623.out) | exact HB.out)⟩
   ·rw [if_neg c15] at H
    have c15b0 : decide (t624 < 0) = false := decide_eq_false c15
    clear c15
    by_cases c22 : t624 = 0
    ·rw [if_pos c22] at H
     have c22b0 : (t624 == 0) = true := beq_iff_eq.mpr c22
     have c22b1 : (t624 != 0) = false := bne_eq_false_iff_eq.mpr c22
     clear c22
     by_cases c23 : a0_3 = true
     ·subst c23
      have H1 : (some (!a1_2)) = some r := by rw [if_pos rfl] at H; exact H
      clear H
      have H := H1
      clear H1
      obtain rfl := Option.some.inj H
      go_enter Tryd.func93, Tryd.ntmps93
      go_wp2_with (first | ((with_reducible refine gate_dst (N := 2) rfl ?_); refine box_event ?hg (N := 2) ?hd (cs := #[.string a0_0, .string a0_1, .bool a0_2, .bool true]) (t := 58) ?hr ?_; (case hd => rfl); (case hg => rfl); (case hr => first | (go_simp; done) | (go_simp; rfl)); intro gb622 hg w24 hbox hb; have n0_ := Aside0.mk (below_step (by repeat (first | (with_reducible first | exact HB.out | apply below_alloc | apply pw_below_drewN | apply below_drew1) | exact HB.out)) hb); have n1_ := Aside0.mk (hbox); have n2_ := Aside0.mk ((by rw [hg]; exact (below_size (by repeat (first | (with_reducible first | exact HB.out | apply below_alloc | apply pw_below_drewN | apply below_drew1) | exact HB.out))) : w.heap.size ≤ gb622)); have n3_ := Aside0.mk ((by rw [hg]; exact (below_size (by repeat (first | (with_reducible first | exact HB.out | apply below_alloc | apply pw_below_drewN | apply below_drew1) | exact HB.out))) : w.heap.size ≤ gb622)); clear HB; have HB := n0_; have BK622 := n1_; have GW622 := n2_; have GE622 := n3_; clear n0_ n1_ n2_ n3_; clear hb hbox hg) | ((with_reducible refine gate_dst (N := 3) rfl ?_); refine box_event ?hg (N := 3) ?hd (cs := #[.string a1_0, .string a1_1, .bool a1_2, .bool a1_3]) (t := 58) ?hr ?_; (case hd => rfl); (case hg => rfl); (case hr => first | (go_simp; done) | (go_simp; rfl)); intro gb623 hg w25 hbox hb; have n0_ := Aside0.mk (blk_below (g := gb622) (o := .cells #[.string a0_0, .string a0_1, .bool a0_2, .bool true] 58 (0, 0)) (by (with_reducible repeat (first | refine blk_drewN ?_ _ | refine blk_drew ?_ | refine blk_alloc ?_ _)); exact BK622.out) hb); have n1_ := Aside0.mk (below_step (by repeat (first | (with_reducible first | exact HB.out | apply below_alloc | apply pw_below_drewN | apply below_drew1 | refine below_set ?_ GE622.out) | exact HB.out)) hb); have n2_ := Aside0.mk (hbox); have n3_ := Aside0.mk ((by rw [hg]; exact (below_size (by repeat (first | (with_reducible first | exact HB.out | apply below_alloc | apply pw_below_drewN | apply below_drew1 | refine below_set ?_ GE622.out) | exact HB.out))) : w.heap.size ≤ gb623)); have n4_ := Aside0.mk ((by rw [hg]; exact (below_size (by repeat (first | (with_reducible first | exact HB.out | apply below_alloc | apply pw_below_drewN | apply below_drew1 | refine below_set ?_ GE622.out) | exact HB.out))) : w.heap.size ≤ gb623)); have n5_ := Aside0.mk ((by rw [hg]; exact Nat.ne_of_lt (blk_lt (g := gb622) (o := .cells #[.string a0_0, .string a0_1, .bool a0_2, .bool true] 58 (0, 0)) (by (with_reducible repeat (first | refine blk_drewN ?_ _ | refine blk_drew ?_ | refine blk_alloc ?_ _)); exact BK622.out)) : gb622 ≠ gb623)); have n6_ := Aside0.mk ((by rw [hg]; exact Nat.ne_of_gt (blk_lt (g := gb622) (o := .cells #[.string a0_0, .string a0_1, .bool a0_2, .bool true] 58 (0, 0)) (by (with_reducible repeat (first | refine blk_drewN ?_ _ | refine blk_drew ?_ | refine blk_alloc ?_ _)); exact BK622.out)) : gb623 ≠ gb622)); clear BK622; clear HB; have BK622 := n0_; have HB := n1_; have BK623 := n2_; have GW623 := n3_; have GE623 := n4_; have NB622_623 := n5_; have NB623_622 := n6_; clear n0_ n1_ n2_ n3_ n4_ n5_ n6_; clear hb hbox hg; have hnb26 := NB622_623.out; have hnc26 := NB623_622.out; have hcz27_0 : w25.cell? ⟨gb622, 0, none⟩ = some (.string a0_0) := (blk_cell BK622.out 0).trans rfl; have hcz27_1 : w25.cell? ⟨gb622, 1, none⟩ = some (.string a0_1) := (blk_cell BK622.out 1).trans rfl; have hcz27_2 : w25.cell? ⟨gb622, 2, none⟩ = some (.bool a0_2) := (blk_cell BK622.out 2).trans rfl; have hcz27_3 : w25.cell? ⟨gb622, 3, none⟩ = some (.bool true) := (blk_cell BK622.out 3).trans rfl; have hfz27_0 := blk_frozen BK622.out 0; have hfz27_1 := blk_frozen BK622.out 1; have hfz27_2 := blk_frozen BK622.out 2; have hfz27_3 := blk_frozen BK622.out 3; have hcz28_0 : w25.cell? ⟨gb623, 0, none⟩ = some (.string a1_0) := (blk_cell BK623.out 0).trans rfl; have hcz28_1 : w25.cell? ⟨gb623, 1, none⟩ = some (.string a1_1) := (blk_cell BK623.out 1).trans rfl; have hcz28_2 : w25.cell? ⟨gb623, 2, none⟩ = some (.bool a1_2) := (blk_cell BK623.out 2).trans rfl; have hcz28_3 : w25.cell? ⟨gb623, 3, none⟩ = some (.bool a1_3) := (blk_cell BK623.out 3).trans rfl; have hfz28_0 := blk_frozen BK623.out 0; have hfz28_1 := blk_frozen BK623.out 1; have hfz28_2 := blk_frozen BK623.out 2; have hfz28_3 := blk_frozen BK623.out 3) | ((with_reducible refine gate_callee (f := 114) rfl ?_); refine goesL_ (some 18) rfl rfl Tryd.func114 (by kernel_rfl) rfl #[.string a0_1, .string a1_0] rfl (by (try simp only [List.map_toArray, List.map_cons, List.map_nil]); first | done | rfl | (simp only [List.length_drop, List.length_take]; rfl)) ?_; (with_reducible refine (order_Compare.calls k a0_1 a1_0 t624 _ ?side1 A14.out).mono ?_); (case side1 => exact Glob.step HG.out (by repeat (first | (with_reducible first | exact HB.out | apply below_alloc | apply pw_below_drewN | apply below_drew1 | refine below_set ?_ GE622.out | refine below_set ?_ GE623.out) | exact HB.out))); rintro e w29 ⟨rfl, hb⟩; refine ⟨_, rfl, ?_⟩; have n0_ := Aside0.mk (blk_below (g := gb622) (o := .cells #[.string a0_0, .string a0_1, .bool a0_2, .bool true] 58 (0, 0)) (by (with_reducible repeat (first | refine blk_drewN ?_ _ | refine blk_drew ?_ | refine blk_alloc ?_ _)); exact BK622.out) hb); have n1_ := Aside0.mk (blk_below (g := gb623) (o := .cells #[.string a1_0, .string a1_1, .bool a1_2, .bool a1_3] 58 (0, 0)) (by (with_reducible repeat (first | refine blk_drewN ?_ _ | refine blk_drew ?_ | refine blk_alloc ?_ _)); exact BK623.out) hb); have n2_ := Aside0.mk (below_step (by repeat (first | (with_reducible first | exact HB.out | apply below_alloc | apply pw_below_drewN | apply below_drew1 | refine below_set ?_ GE622.out | refine below_set ?_ GE623.out) | exact HB.out)) hb); clear BK622; clear BK623; clear HB; have BK622 := n0_; have BK623 := n1_; have HB := n2_; clear n0_ n1_ n2_; (try clear hb); (try clear hb2); (try clear hk); (try clear hi); have hcz30_0 : w29.cell? ⟨gb622, 0, none⟩ = some (.string a0_0) := (blk_cell BK622.out 0).trans rfl; have hcz30_1 : w29.cell? ⟨gb622, 1, none⟩ = some (.string a0_1) := (blk_cell BK622.out 1).trans rfl; have hcz30_2 : w29.cell? ⟨gb622, 2, none⟩ = some (.bool a0_2) := (blk_cell BK622.out 2).trans rfl; have hcz30_3 : w29.cell? ⟨gb622, 3, none⟩ = some (.bool true) := (blk_cell BK622.out 3).trans rfl; have hfz30_0 := blk_frozen BK622.out 0; have hfz30_1 := blk_frozen BK622.out 1; have hfz30_2 := blk_frozen BK622.out 2; have hfz30_3 := blk_frozen BK622.out 3; have hcz31_0 : w29.cell? ⟨gb623, 0, none⟩ = some (.string a1_0) := (blk_cell BK623.out 0).trans rfl; have hcz31_1 : w29.cell? ⟨gb623, 1, none⟩ = some (.string a1_1) := (blk_cell BK623.out 1).trans rfl; have hcz31_2 : w29.cell? ⟨gb623, 2, none⟩ = some (.bool a1_2) := (blk_cell BK623.out 2).trans rfl; have hcz31_3 : w29.cell? ⟨gb623, 3, none⟩ = some (.bool a1_3) := (blk_cell BK623.out 3).trans rfl; have hfz31_0 := blk_frozen BK623.out 0; have hfz31_1 := blk_frozen BK623.out 1; have hfz31_2 := blk_frozen BK623.out 2; have hfz31_3 := blk_frozen BK623.out 3))
      go_ret
      exact ⟨by first | rfl | (simp [errW_none, errW_some] <;> rfl) | (simp [*, errW_none, errW_some] <;> rfl), by repeat (first | (with_reducible first | exact HB.out | apply below_alloc | apply pw_below_drewN | apply below_drew1 | refine below_set ?_ GE622.out | refine below_set ?_ GE623.out) | exact HB.out)⟩
     ·replace c23 := Bool.eq_false_iff.mpr c23
      subst c23
      have H1 : (some (!false)) = some r := by rw [if_neg (show ¬ (false = true) by decide)] at H; exact H
      clear H
      have H := H1
      clear H1
      obtain rfl := Option.some.inj H
      go_enter Tryd.func93, Tryd.ntmps93
      go_wp2_with (first | ((with_reducible refine gate_dst (N := 2) rfl ?_); refine box_event ?hg (N := 2) ?hd (cs := #[.string a0_0, .string a0_1, .bool a0_2, .bool false]) (t := 58) ?hr ?_; (case hd => rfl); (case hg => rfl); (case hr => first | (go_simp; done) | (go_simp; rfl)); intro gb622 hg w32 hbox hb; have n0_ := Aside0.mk (below_step (by repeat (first | (with_reducible first | exact HB.out | apply below_alloc | apply pw_below_drewN | apply below_drew1) | exact HB.out)) hb); have n1_ := Aside0.mk (hbox); have n2_ := Aside0.mk ((by rw [hg]; exact (below_size (by repeat (first | (with_reducible first | exact HB.out | apply below_alloc | apply pw_below_drewN | apply below_drew1) | exact HB.out))) : w.heap.size ≤ gb622)); have n3_ := Aside0.mk ((by rw [hg]; exact (below_size (by repeat (first | (with_reducible first | exact HB.out | apply below_alloc | apply pw_below_drewN | apply below_drew1) | exact HB.out))) : w.heap.size ≤ gb622)); clear HB; have HB := n0_; have BK622 := n1_; have GW622 := n2_; have GE622 := n3_; clear n0_ n1_ n2_ n3_; clear hb hbox hg) | ((with_reducible refine gate_dst (N := 3) rfl ?_); refine box_event ?hg (N := 3) ?hd (cs := #[.string a1_0, .string a1_1, .bool a1_2, .bool a1_3]) (t := 58) ?hr ?_; (case hd => rfl); (case hg => rfl); (case hr => first | (go_simp; done) | (go_simp; rfl)); intro gb623 hg w33 hbox hb; have n0_ := Aside0.mk (blk_below (g := gb622) (o := .cells #[.string a0_0, .string a0_1, .bool a0_2, .bool false] 58 (0, 0)) (by (with_reducible repeat (first | refine blk_drewN ?_ _ | refine blk_drew ?_ | refine blk_alloc ?_ _)); exact BK622.out) hb); have n1_ := Aside0.mk (below_step (by repeat (first | (with_reducible first | exact HB.out | apply below_alloc | apply pw_below_drewN | apply below_drew1 | refine below_set ?_ GE622.out) | exact HB.out)) hb); have n2_ := Aside0.mk (hbox); have n3_ := Aside0.mk ((by rw [hg]; exact (below_size (by repeat (first | (with_reducible first | exact HB.out | apply below_alloc | apply pw_below_drewN | apply below_drew1 | refine below_set ?_ GE622.out) | exact HB.out))) : w.heap.size ≤ gb623)); have n4_ := Aside0.mk ((by rw [hg]; exact (below_size (by repeat (first | (with_reducible first | exact HB.out | apply below_alloc | apply pw_below_drewN | apply below_drew1 | refine below_set ?_ GE622.out) | exact HB.out))) : w.heap.size ≤ gb623)); have n5_ := Aside0.mk ((by rw [hg]; exact Nat.ne_of_lt (blk_lt (g := gb622) (o := .cells #[.string a0_0, .string a0_1, .bool a0_2, .bool false] 58 (0, 0)) (by (with_reducible repeat (first | refine blk_drewN ?_ _ | refine blk_drew ?_ | refine blk_alloc ?_ _)); exact BK622.out)) : gb622 ≠ gb623)); have n6_ := Aside0.mk ((by rw [hg]; exact Nat.ne_of_gt (blk_lt (g := gb622) (o := .cells #[.string a0_0, .string a0_1, .bool a0_2, .bool false] 58 (0, 0)) (by (with_reducible repeat (first | refine blk_drewN ?_ _ | refine blk_drew ?_ | refine blk_alloc ?_ _)); exact BK622.out)) : gb623 ≠ gb622)); clear BK622; clear HB; have BK622 := n0_; have HB := n1_; have BK623 := n2_; have GW623 := n3_; have GE623 := n4_; have NB622_623 := n5_; have NB623_622 := n6_; clear n0_ n1_ n2_ n3_ n4_ n5_ n6_; clear hb hbox hg; have hnb34 := NB622_623.out; have hnc34 := NB623_622.out; have hcz35_0 : w33.cell? ⟨gb622, 0, none⟩ = some (.string a0_0) := (blk_cell BK622.out 0).trans rfl; have hcz35_1 : w33.cell? ⟨gb622, 1, none⟩ = some (.string a0_1) := (blk_cell BK622.out 1).trans rfl; have hcz35_2 : w33.cell? ⟨gb622, 2, none⟩ = some (.bool a0_2) := (blk_cell BK622.out 2).trans rfl; have hcz35_3 : w33.cell? ⟨gb622, 3, none⟩ = some (.bool false) := (blk_cell BK622.out 3).trans rfl; have hfz35_0 := blk_frozen BK622.out 0; have hfz35_1 := blk_frozen BK622.out 1; have hfz35_2 := blk_frozen BK622.out 2; have hfz35_3 := blk_frozen BK622.out 3; have hcz36_0 : w33.cell? ⟨gb623, 0, none⟩ = some (.string a1_0) := (blk_cell BK623.out 0).trans rfl; have hcz36_1 : w33.cell? ⟨gb623, 1, none⟩ = some (.string a1_1) := (blk_cell BK623.out 1).trans rfl; have hcz36_2 : w33.cell? ⟨gb623, 2, none⟩ = some (.bool a1_2) := (blk_cell BK623.out 2).trans rfl; have hcz36_3 : w33.cell? ⟨gb623, 3, none⟩ = some (.bool a1_3) := (blk_cell BK623.out 3).trans rfl; have hfz36_0 := blk_frozen BK623.out 0; have hfz36_1 := blk_frozen BK623.out 1; have hfz36_2 := blk_frozen BK623.out 2; have hfz36_3 := blk_frozen BK623.out 3) | ((with_reducible refine gate_callee (f := 114) rfl ?_); refine goesL_ (some 18) rfl rfl Tryd.func114 (by kernel_rfl) rfl #[.string a0_1, .string a1_0] rfl (by (try simp only [List.map_toArray, List.map_cons, List.map_nil]); first | done | rfl | (simp only [List.length_drop, List.length_take]; rfl)) ?_; (with_reducible refine (order_Compare.calls k a0_1 a1_0 t624 _ ?side1 A14.out).mono ?_); (case side1 => exact Glob.step HG.out (by repeat (first | (with_reducible first | exact HB.out | apply below_alloc | apply pw_below_drewN | apply below_drew1 | refine below_set ?_ GE622.out | refine below_set ?_ GE623.out) | exact HB.out))); rintro e w37 ⟨rfl, hb⟩; refine ⟨_, rfl, ?_⟩; have n0_ := Aside0.mk (blk_below (g := gb622) (o := .cells #[.string a0_0, .string a0_1, .bool a0_2, .bool false] 58 (0, 0)) (by (with_reducible repeat (first | refine blk_drewN ?_ _ | refine blk_drew ?_ | refine blk_alloc ?_ _)); exact BK622.out) hb); have n1_ := Aside0.mk (blk_below (g := gb623) (o := .cells #[.string a1_0, .string a1_1, .bool a1_2, .bool a1_3] 58 (0, 0)) (by (with_reducible repeat (first | refine blk_drewN ?_ _ | refine blk_drew ?_ | refine blk_alloc ?_ _)); exact BK623.out) hb); have n2_ := Aside0.mk (below_step (by repeat (first | (with_reducible first | exact HB.out | apply below_alloc | apply pw_below_drewN | apply below_drew1 | refine below_set ?_ GE622.out | refine below_set ?_ GE623.out) | exact HB.out)) hb); clear BK622; clear BK623; clear HB; have BK622 := n0_; have BK623 := n1_; have HB := n2_; clear n0_ n1_ n2_; (try clear hb); (try clear hb2); (try clear hk); (try clear hi); have hcz38_0 : w37.cell? ⟨gb622, 0, none⟩ = some (.string a0_0) := (blk_cell BK622.out 0).trans rfl; have hcz38_1 : w37.cell? ⟨gb622, 1, none⟩ = some (.string a0_1) := (blk_cell BK622.out 1).trans rfl; have hcz38_2 : w37.cell? ⟨gb622, 2, none⟩ = some (.bool a0_2) := (blk_cell BK622.out 2).trans rfl; have hcz38_3 : w37.cell? ⟨gb622, 3, none⟩ = some (.bool false) := (blk_cell BK622.out 3).trans rfl; have hfz38_0 := blk_frozen BK622.out 0; have hfz38_1 := blk_frozen BK622.out 1; have hfz38_2 := blk_frozen BK622.out 2; have hfz38_3 := blk_frozen BK622.out 3))
      go_ret
      exact ⟨by first | rfl | (simp [errW_none, errW_some] <;> rfl) | (simp [*, errW_none, errW_some] <;> rfl), by repeat (first | (with_reducible first | exact HB.out | apply below_alloc | apply pw_below_drewN | apply below_drew1 | refine below_set ?_ GE622.out | refine below_set ?_ GE623.out) | exact HB.out)⟩
    ·rw [if_neg c22] at H
     have c22b0 : (t624 == 0) = false := beq_eq_false_iff_ne.mpr c22
     have c22b1 : (t624 != 0) = true := bne_iff_ne.mpr c22
     obtain rfl := Option.some.inj H
     go_enter Tryd.func93, Tryd.ntmps93
     go_wp2_with (first | ((with_reducible refine gate_dst (N := 2) rfl ?_); refine box_event ?hg (N := 2) ?hd (cs := #[.string a0_0, .string a0_1, .bool a0_2, .bool a0_3]) (t := 58) ?hr ?_; (case hd => rfl); (case hg => rfl); (case hr => first | (go_simp; done) | (go_simp; rfl)); intro gb622 hg w39 hbox hb; have n0_ := Aside0.mk (below_step (by repeat (first | (with_reducible first | exact HB.out | apply below_alloc | apply pw_below_drewN | apply below_drew1) | exact HB.out)) hb); have n1_ := Aside0.mk (hbox); have n2_ := Aside0.mk ((by rw [hg]; exact (below_size (by repeat (first | (with_reducible first | exact HB.out | apply below_alloc | apply pw_below_drewN | apply below_drew1) | exact HB.out))) : w.heap.size ≤ gb622)); have n3_ := Aside0.mk ((by rw [hg]; exact (below_size (by repeat (first | (with_reducible first | exact HB.out | apply below_alloc | apply pw_below_drewN | apply below_drew1) | exact HB.out))) : w.heap.size ≤ gb622)); clear HB; have HB := n0_; have BK622 := n1_; have GW622 := n2_; have GE622 := n3_; clear n0_ n1_ n2_ n3_; clear hb hbox hg) | ((with_reducible refine gate_dst (N := 3) rfl ?_); refine box_event ?hg (N := 3) ?hd (cs := #[.string a1_0, .string a1_1, .bool a1_2, .bool a1_3]) (t := 58) ?hr ?_; (case hd => rfl); (case hg => rfl); (case hr => first | (go_simp; done) | (go_simp; rfl)); intro gb623 hg w40 hbox hb; have n0_ := Aside0.mk (blk_below (g := gb622) (o := .cells #[.string a0_0, .string a0_1, .bool a0_2, .bool a0_3] 58 (0, 0)) (by (with_reducible repeat (first | refine blk_drewN ?_ _ | refine blk_drew ?_ | refine blk_alloc ?_ _)); exact BK622.out) hb); have n1_ := Aside0.mk (below_step (by repeat (first | (with_reducible first | exact HB.out | apply below_alloc | apply pw_below_drewN | apply below_drew1 | refine below_set ?_ GE622.out) | exact HB.out)) hb); have n2_ := Aside0.mk (hbox); have n3_ := Aside0.mk ((by rw [hg]; exact (below_size (by repeat (first | (with_reducible first | exact HB.out | apply below_alloc | apply pw_below_drewN | apply below_drew1 | refine below_set ?_ GE622.out) | exact HB.out))) : w.heap.size ≤ gb623)); have n4_ := Aside0.mk ((by rw [hg]; exact (below_size (by repeat (first | (with_reducible first | exact HB.out | apply below_alloc | apply pw_below_drewN | apply below_drew1 | refine below_set ?_ GE622.out) | exact HB.out))) : w.heap.size ≤ gb623)); have n5_ := Aside0.mk ((by rw [hg]; exact Nat.ne_of_lt (blk_lt (g := gb622) (o := .cells #[.string a0_0, .string a0_1, .bool a0_2, .bool a0_3] 58 (0, 0)) (by (with_reducible repeat (first | refine blk_drewN ?_ _ | refine blk_drew ?_ | refine blk_alloc ?_ _)); exact BK622.out)) : gb622 ≠ gb623)); have n6_ := Aside0.mk ((by rw [hg]; exact Nat.ne_of_gt (blk_lt (g := gb622) (o := .cells #[.string a0_0, .string a0_1, .bool a0_2, .bool a0_3] 58 (0, 0)) (by (with_reducible repeat (first | refine blk_drewN ?_ _ | refine blk_drew ?_ | refine blk_alloc ?_ _)); exact BK622.out)) : gb623 ≠ gb622)); clear BK622; clear HB; have BK622 := n0_; have HB := n1_; have BK623 := n2_; have GW623 := n3_; have GE623 := n4_; have NB622_623 := n5_; have NB623_622 := n6_; clear n0_ n1_ n2_ n3_ n4_ n5_ n6_; clear hb hbox hg; have hnb41 := NB622_623.out; have hnc41 := NB623_622.out; have hcz42_0 : w40.cell? ⟨gb622, 0, none⟩ = some (.string a0_0) := (blk_cell BK622.out 0).trans rfl; have hcz42_1 : w40.cell? ⟨gb622, 1, none⟩ = some (.string a0_1) := (blk_cell BK622.out 1).trans rfl; have hcz42_2 : w40.cell? ⟨gb622, 2, none⟩ = some (.bool a0_2) := (blk_cell BK622.out 2).trans rfl; have hcz42_3 : w40.cell? ⟨gb622, 3, none⟩ = some (.bool a0_3) := (blk_cell BK622.out 3).trans rfl; have hfz42_0 := blk_frozen BK622.out 0; have hfz42_1 := blk_frozen BK622.out 1; have hfz42_2 := blk_frozen BK622.out 2; have hfz42_3 := blk_frozen BK622.out 3; have hcz43_0 : w40.cell? ⟨gb623, 0, none⟩ = some (.string a1_0) := (blk_cell BK623.out 0).trans rfl; have hcz43_1 : w40.cell? ⟨gb623, 1, none⟩ = some (.string a1_1) := (blk_cell BK623.out 1).trans rfl; have hcz43_2 : w40.cell? ⟨gb623, 2, none⟩ = some (.bool a1_2) := (blk_cell BK623.out 2).trans rfl; have hcz43_3 : w40.cell? ⟨gb623, 3, none⟩ = some (.bool a1_3) := (blk_cell BK623.out 3).trans rfl; have hfz43_0 := blk_frozen BK623.out 0; have hfz43_1 := blk_frozen BK623.out 1; have hfz43_2 := blk_frozen BK623.out 2; have hfz43_3 := blk_frozen BK623.out 3) | ((with_reducible refine gate_callee (f := 114) rfl ?_); refine goesL_ (some 18) rfl rfl Tryd.func114 (by kernel_rfl) rfl #[.string a0_1, .string a1_0] rfl (by (try simp only [List.map_toArray, List.map_cons, List.map_nil]); first | done | rfl | (simp only [List.length_drop, List.length_take]; rfl)) ?_; (with_reducible refine (order_Compare.calls k a0_1 a1_0 t624 _ ?side1 A14.out).mono ?_); (case side1 => exact Glob.step HG.out (by repeat (first | (with_reducible first | exact HB.out | apply below_alloc | apply pw_below_drewN | apply below_drew1 | refine below_set ?_ GE622.out | refine below_set ?_ GE623.out) | exact HB.out))); rintro e w44 ⟨rfl, hb⟩; refine ⟨_, rfl, ?_⟩; have n0_ := Aside0.mk (blk_below (g := gb622) (o := .cells #[.string a0_0, .string a0_1, .bool a0_2, .bool a0_3] 58 (0, 0)) (by (with_reducible repeat (first | refine blk_drewN ?_ _ | refine blk_drew ?_ | refine blk_alloc ?_ _)); exact BK622.out) hb); have n1_ := Aside0.mk (blk_below (g := gb623) (o := .cells #[.string a1_0, .string a1_1, .bool a1_2, .bool a1_3] 58 (0, 0)) (by (with_reducible repeat (first | refine blk_drewN ?_ _ | refine blk_drew ?_ | refine blk_alloc ?_ _)); exact BK623.out) hb); have n2_ := Aside0.mk (below_step (by repeat (first | (with_reducible first | exact HB.out | apply below_alloc | apply pw_below_drewN | apply below_drew1 | refine below_set ?_ GE622.out | refine below_set ?_ GE623.out) | exact HB.out)) hb); clear BK622; clear BK623; clear HB; have BK622 := n0_; have BK623 := n1_; have HB := n2_; clear n0_ n1_ n2_; (try clear hb); (try clear hb2); (try clear hk); (try clear hi)))
     go_ret
     exact ⟨by first | rfl | (simp [errW_none, errW_some] <;> rfl) | (simp [*, errW_none, errW_some] <;> rfl), by repeat (first | (with_reducible first | exact HB.out | apply below_alloc | apply pw_below_drewN | apply below_drew1 | refine below_set ?_ GE622.out | refine below_set ?_ GE623.out) | exact HB.out)⟩

end Go.Proofs.YtgdjfcmmpjcaaaaDoor.Q

-- Printed by this session's wip/np.py over the kit's print program. Not trusted: Lean checks it.
namespace Go.Proofs.YtgdjfcmmpjcaaaaDoor.Q
open Go.RowKit Go.Proofs.YtgdjfcmmpjcaaaaDoorW.PrintWords Go.Proofs.YtgdjfcmmpjcaaaaDoorW.PrintLast Go.Proofs.YtgdjfcmmpjcaaaaDoorW.Own Go.Proofs.YtgdjfcmmpjcaaaaDoorW.PrintMore
attribute [local go_sem] max2_int min2_int max_two min_two max_three min_three max_four min_four
set_option linter.unusedVariables false
set_option linter.unusedSimpArgs false

/-! ### stringslite_CutPrefix: function 127 -/
def stringslite_CutPrefix.f (a0 : ByteArray) (a1 : ByteArray) : Option (ByteArray × Bool) := (stringslite_HasPrefix.f a0 a1).bind fun t625 => (if t625 = true then (if 0 ≤ (a1.size : Int) then (if (a1.size : Int) ≤ (a0.size : Int) then (some (a0.extract ((a1.size : Int) : Int).toNat a0.size, true)) else (none)) else (none)) else (some (a0, false)))
set_option maxHeartbeats 8000000 in
set_option maxRecDepth 100000 in
theorem stringslite_CutPrefix.calls (a0 : ByteArray) (a1 : ByteArray) (r1 : ByteArray) (r2 : Bool) (w : World) (hG : Glob w) (h : stringslite_CutPrefix.f a0 a1 = some (r1, r2)) :
 Calls Tryd.prog 127 #[.string a0, .string a1] w fun e w' => e = .returned (.tuple #[.string r1, .bool r2]) ∧ Drawn0 w w' := by
 have HG := Aside0.mk hG
 clear hG
 have H : ((stringslite_HasPrefix.f a0 a1).bind fun t625 => (if t625 = true then (if 0 ≤ (a1.size : Int) then (if (a1.size : Int) ≤ (a0.size : Int) then (some (a0.extract ((a1.size : Int) : Int).toNat a0.size, true)) else (none)) else (none)) else (some (a0, false)))) = some (r1, r2) := h
 clear h
 replace H := Option.bind_eq_some_iff.mp H
 obtain ⟨t625, A30, H⟩ := H
 replace H : (if t625 = true then (if 0 ≤ (a1.size : Int) then (if (a1.size : Int) ≤ (a0.size : Int) then (some (a0.extract ((a1.size : Int) : Int).toNat a0.size, true)) else (none)) else (none)) else (some (a0, false))) = some (r1, r2) := H
 have A3 := Aside0.mk A30
 clear A30
 by_cases c4 : t625 = true
 ·subst c4
  have H1 : (if 0 ≤ (a1.size : Int) then (if (a1.size : Int) ≤ (a0.size : Int) then (some (a0.extract ((a1.size : Int) : Int).toNat a0.size, true)) else (none)) else (none)) = some (r1, r2) := by rw [if_pos rfl] at H; exact H
  clear H
  have H := H1
  clear H1
  by_cases c5 : 0 ≤ (a1.size : Int)
  ·rw [if_pos c5] at H
   have c5b0 := eq_true c5
   have c5b1 : decide (0 ≤ (a1.size : Int)) = true := decide_eq_true c5
   clear c5
   by_cases c6 : (a1.size : Int) ≤ (a0.size : Int)
   ·rw [if_pos c6] at H
    have c6b0 := eq_true c6
    have c6b1 : decide ((a1.size : Int) ≤ (a0.size : Int)) = true := decide_eq_true c6
    clear c6
    simp only [Option.some.injEq, Prod.mk.injEq] at H
    obtain ⟨rfl, rfl⟩ := H
    go_enter Tryd.func127, Tryd.ntmps127
    go_wp2_with (first | ((with_reducible refine gate_callee (f := 142) rfl ?_); refine goesL_ (some 8) rfl rfl Tryd.func142 (by kernel_rfl) rfl #[.string a0, .string a1] rfl (by (try simp only [List.map_toArray, List.map_cons, List.map_nil]); first | done | rfl | (simp only [List.length_drop, List.length_take]; rfl)) ?_; (with_reducible refine (stringslite_HasPrefix.calls a0 a1 true _ ?side1 A3.out).mono ?_); (case side1 => exact Glob.drawn HG.out (by repeat (first | exact Drawn0.refl _ | apply Drawn0.step))); rintro e w' ⟨rfl, ⟨nd, rfl⟩⟩; refine ⟨_, rfl, ?_⟩))
    go_ret2
    exact ⟨by first | rfl | (simp; done) | (simp [*]; done), by repeat (first | exact Drawn0.refl _ | apply Drawn0.step)⟩
   ·rw [if_neg c6] at H
    exact absurd H (by simp)
  ·rw [if_neg c5] at H
   exact absurd H (by simp)
 ·replace c4 := Bool.eq_false_iff.mpr c4
  subst c4
  have H1 : (some (a0, false)) = some (r1, r2) := by rw [if_neg (show ¬ (false = true) by decide)] at H; exact H
  clear H
  have H := H1
  clear H1
  simp only [Option.some.injEq, Prod.mk.injEq] at H
  obtain ⟨rfl, rfl⟩ := H
  go_enter Tryd.func127, Tryd.ntmps127
  go_wp2_with (first | ((with_reducible refine gate_callee (f := 142) rfl ?_); refine goesL_ (some 8) rfl rfl Tryd.func142 (by kernel_rfl) rfl #[.string a0, .string a1] rfl (by (try simp only [List.map_toArray, List.map_cons, List.map_nil]); first | done | rfl | (simp only [List.length_drop, List.length_take]; rfl)) ?_; (with_reducible refine (stringslite_HasPrefix.calls a0 a1 false _ ?side1 A3.out).mono ?_); (case side1 => exact Glob.drawn HG.out (by repeat (first | exact Drawn0.refl _ | apply Drawn0.step))); rintro e w' ⟨rfl, ⟨nd, rfl⟩⟩; refine ⟨_, rfl, ?_⟩))
  go_ret2
  exact ⟨by first | rfl | (simp; done) | (simp [*]; done), by repeat (first | exact Drawn0.refl _ | apply Drawn0.step)⟩

end Go.Proofs.YtgdjfcmmpjcaaaaDoor.Q

-- Printed by this session's wip/np.py over the kit's print program. Not trusted: Lean checks it.
namespace Go.Proofs.YtgdjfcmmpjcaaaaDoor.Q
open Go.RowKit Go.Proofs.YtgdjfcmmpjcaaaaDoorW.PrintWords Go.Proofs.YtgdjfcmmpjcaaaaDoorW.PrintLast Go.Proofs.YtgdjfcmmpjcaaaaDoorW.Own Go.Proofs.YtgdjfcmmpjcaaaaDoorW.PrintMore
attribute [local go_sem] max2_int min2_int max_two min_two max_three min_three max_four min_four
set_option linter.unusedVariables false
set_option linter.unusedSimpArgs false

/-! ### strings_CutPrefix: function 94 -/
def strings_CutPrefix.f (a0 : ByteArray) (a1 : ByteArray) : Option (ByteArray × Bool) := (stringslite_CutPrefix.f a0 a1).bind fun bt626 => (some (bt626.1, bt626.2))
set_option maxHeartbeats 8000000 in
set_option maxRecDepth 100000 in
theorem strings_CutPrefix.calls (a0 : ByteArray) (a1 : ByteArray) (r1 : ByteArray) (r2 : Bool) (w : World) (hG : Glob w) (h : strings_CutPrefix.f a0 a1 = some (r1, r2)) :
 Calls Tryd.prog 94 #[.string a0, .string a1] w fun e w' => e = .returned (.tuple #[.string r1, .bool r2]) ∧ Drawn0 w w' := by
 have HG := Aside0.mk hG
 clear hG
 have H : ((stringslite_CutPrefix.f a0 a1).bind fun bt626 => (some (bt626.1, bt626.2))) = some (r1, r2) := h
 clear h
 replace H := Option.bind_eq_some_iff.mp H
 obtain ⟨⟨t626, t627⟩, A30, H⟩ := H
 replace H : (some (t626, t627)) = some (r1, r2) := H
 have A3 := Aside0.mk A30
 clear A30
 simp only [Option.some.injEq, Prod.mk.injEq] at H
 obtain ⟨rfl, rfl⟩ := H
 go_enter Tryd.func94, Tryd.ntmps94
 go_wp2_with (first | ((with_reducible refine gate_callee (f := 127) rfl ?_); refine goesL_ (some 8) rfl rfl Tryd.func127 (by kernel_rfl) rfl #[.string a0, .string a1] rfl (by (try simp only [List.map_toArray, List.map_cons, List.map_nil]); first | done | rfl | (simp only [List.length_drop, List.length_take]; rfl)) ?_; (with_reducible refine (stringslite_CutPrefix.calls a0 a1 t626 t627 _ ?side1 A3.out).mono ?_); (case side1 => exact Glob.drawn HG.out (by repeat (first | exact Drawn0.refl _ | apply Drawn0.step))); rintro e w' ⟨rfl, ⟨nd, rfl⟩⟩; refine ⟨_, rfl, ?_⟩))
 go_ret2
 exact ⟨by first | rfl | (simp; done) | (simp [*]; done), by repeat (first | exact Drawn0.refl _ | apply Drawn0.step)⟩

end Go.Proofs.YtgdjfcmmpjcaaaaDoor.Q
