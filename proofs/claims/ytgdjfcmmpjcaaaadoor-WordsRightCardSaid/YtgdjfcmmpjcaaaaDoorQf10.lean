-- Printed by this session's wip/np.py over the kit's print program. Not trusted: Lean checks it.
import Derived.Test.YtgdjfcmmpjcaaaaDoorQ0
import Derived.Test.YtgdjfcmmpjcaaaaDoorQf27
import Derived.Test.YtgdjfcmmpjcaaaaDoorQf28
namespace Go.Proofs.YtgdjfcmmpjcaaaaDoor.Q
open Go.RowKit Go.Proofs.YtgdjfcmmpjcaaaaDoorW.PrintWords Go.Proofs.YtgdjfcmmpjcaaaaDoorW.PrintLast Go.Proofs.YtgdjfcmmpjcaaaaDoorW.Own Go.Proofs.YtgdjfcmmpjcaaaaDoorW.PrintMore
attribute [local go_sem] max2_int min2_int max_two min_two max_three min_three max_four min_four   -- for this text's walks alone
set_option linter.unusedVariables false
set_option linter.unusedSimpArgs false

/-! ### newellaw05_WordsRight: function 10 -/
mutual
def newellaw05_WordsRight.l0 : Nat → Int → Int → ByteArray → Int → Option (Bool)
  | 0, _, _, _, _ => none
  | k + 1, x0, x1, x5, x6 => if x6 < x1 then (if x5.size + 1 ≤ 9223372036854775807 then (newellaw05_WordsRight.l0 k x0 x1 (x5 ++ (⟨#[49]⟩ : ByteArray)) (wrap64 (x6 + 1))) else (none)) else (if x0 ≥ 33 then (if x0 ≤ 126 then (if x0 = 91 then (newellaw05_WordsRight.j1 k x0 x1 x5 false) else (if x0 = 93 then (newellaw05_WordsRight.j1 k x0 x1 x5 false) else (if x0 = 40 then (newellaw05_WordsRight.j1 k x0 x1 x5 false) else (if x0 = 41 then (newellaw05_WordsRight.j1 k x0 x1 x5 false) else (newellaw05_WordsRight.j1 k x0 x1 x5 (x0 != 44)))))) else (newellaw05_WordsRight.j1 k x0 x1 x5 false)) else (newellaw05_WordsRight.j1 k x0 x1 x5 false))
def newellaw05_WordsRight.j1 : Nat → Int → Int → ByteArray → Bool → Option (Bool)
  | 0, _, _, _, _ => none
  | k + 1, x0, x1, x5, x7 => (newellaw05_awake.f k).bind fun t393 => (if t393 = true then ((some (([x0] : List Int) : List Int)).bind fun y394 => (if 1 + (strOfNums y394).size ≤ 9223372036854775807 then ((words_Right.f k ((⟨#[49]⟩ : ByteArray) ++ (strOfNums y394))).bind fun t397 => (if (t397 == x7) = true then ((words_Right.f k x5).bind fun t398 => (if (t398 == (decide (x1 ≤ 100))) = true then ((words_Right.f k (⟨#[]⟩ : ByteArray)).bind fun t399 => (some (!t399))) else (some false))) else (some false))) else (none))) else (some false))
end
def newellaw05_WordsRight.f (k : Nat) (a0 : Int) (a1 : Int) : Option (Bool) := newellaw05_WordsRight.l0 k a0 (wrap64 (95 + (wrap64 (Int.tmod (IntKind.u64.wrap (a1)) 10)))) (⟨#[]⟩ : ByteArray) 0
theorem newellaw05_WordsRight.mono_l : ∀ k, (∀ y0 y1 y2 y3, LeO (newellaw05_WordsRight.l0 k y0 y1 y2 y3) (newellaw05_WordsRight.l0 (k + 1) y0 y1 y2 y3)) ∧ (∀ y0 y1 y2 y3, LeO (newellaw05_WordsRight.j1 k y0 y1 y2 y3) (newellaw05_WordsRight.j1 (k + 1) y0 y1 y2 y3))
  | 0 => ⟨fun _ _ _ _ r h => by simp [newellaw05_WordsRight.l0] at h, fun _ _ _ _ r h => by simp [newellaw05_WordsRight.j1] at h⟩
  | k + 1 => by
    obtain ⟨ih0, ih1⟩ := newellaw05_WordsRight.mono_l k
    refine ⟨?_, ?_⟩
    · intro y0 y1 y2 y3
      unfold newellaw05_WordsRight.l0
      repeat' first
      | (with_reducible exact ih0 _ _ _ _)
      | (with_reducible exact ih1 _ _ _ _)
      | (with_reducible exact newellaw05_awake.mono _)
      | (with_reducible exact words_Right.mono _ _)
      | (with_reducible exact LeO.refl _)
      | (with_reducible exact LeO.none _)
      | (with_reducible refine LeO.ite ?_ ?_)
      | (with_reducible refine LeO.bind ?_ (fun _ => ?_))
      | exact ih0 _ _ _ _
      | exact ih1 _ _ _ _
      | exact newellaw05_awake.mono _
      | exact words_Right.mono _ _
      | exact LeO.none _
      | refine LeO.ite ?_ ?_
      | refine LeO.bind ?_ (fun _ => ?_)
    · intro y0 y1 y2 y3
      unfold newellaw05_WordsRight.j1
      repeat' first
      | (with_reducible exact ih0 _ _ _ _)
      | (with_reducible exact ih1 _ _ _ _)
      | (with_reducible exact newellaw05_awake.mono _)
      | (with_reducible exact words_Right.mono _ _)
      | (with_reducible exact LeO.refl _)
      | (with_reducible exact LeO.none _)
      | (with_reducible refine LeO.ite ?_ ?_)
      | (with_reducible refine LeO.bind ?_ (fun _ => ?_))
      | exact ih0 _ _ _ _
      | exact ih1 _ _ _ _
      | exact newellaw05_awake.mono _
      | exact words_Right.mono _ _
      | exact LeO.none _
      | refine LeO.ite ?_ ?_
      | refine LeO.bind ?_ (fun _ => ?_)
theorem newellaw05_WordsRight.mono : ∀ a0 a1 k, LeO (newellaw05_WordsRight.f k a0 a1) (newellaw05_WordsRight.f (k + 1) a0 a1) := by
  intro a0 a1 k
  obtain ⟨ih0, ih1⟩ := newellaw05_WordsRight.mono_l k
  unfold newellaw05_WordsRight.f
  repeat' first
      | (with_reducible exact ih0 _ _ _ _)
      | (with_reducible exact ih1 _ _ _ _)
      | (with_reducible exact newellaw05_awake.mono _)
      | (with_reducible exact words_Right.mono _ _)
      | (with_reducible exact LeO.refl _)
      | (with_reducible exact LeO.none _)
      | (with_reducible refine LeO.ite ?_ ?_)
      | (with_reducible refine LeO.bind ?_ (fun _ => ?_))
      | exact ih0 _ _ _ _
      | exact ih1 _ _ _ _
      | exact newellaw05_awake.mono _
      | exact words_Right.mono _ _
      | exact LeO.none _
      | refine LeO.ite ?_ ?_
      | refine LeO.bind ?_ (fun _ => ?_)
set_option maxHeartbeats 8000000 in
set_option maxRecDepth 100000 in
theorem newellaw05_WordsRight.calls (k : Nat) (a0 : Int) (a1 : Int) (r : Bool) (w : World) (hG : Glob w) (h : newellaw05_WordsRight.f k a0 a1 = some r) :
    Calls Tryd.prog 10 #[.int .u8 a0, .int .i64 a1] w fun e w' => e = .returned (.bool r) ∧ Below w.heap.size w w' := by
  have HG := Aside0.mk hG
  clear hG
  have HB := Aside0.mk (Below.refl w.heap.size w)
  have H : (newellaw05_WordsRight.l0 k a0 (wrap64 (95 + (wrap64 (Int.tmod (IntKind.u64.wrap (a1)) 10)))) (⟨#[]⟩ : ByteArray) 0) = some r := h
  clear h
  have H' := Aside0.mk H
  clear H
  go_enter Tryd.func10, Tryd.ntmps10
  go_wp2
  go_loopg [5, 6] k (fun kq v5 v6 w' => ∃ (x5_1 : ByteArray) (x6_1 : Int), v5 = .string x5_1 ∧ v6 = .int .i64 x6_1 ∧ Aside0 (newellaw05_WordsRight.l0 kq a0 (wrap64 (95 + (wrap64 (Int.tmod (IntKind.u64.wrap (a1)) 10)))) x5_1 x6_1 = some r) ∧ Aside0 (kq ≤ k) ∧ Aside0 (Below w.heap.size w w'))
  case atStart => exact ⟨((⟨#[]⟩ : ByteArray)), (0), (by first | rfl | (simp; done) | (simp [*]; done) | (simp; exact isEmpty_bne _)), (by first | rfl | (simp; done) | (simp [*]; done) | (simp; exact isEmpty_bne _)), H', ⟨Nat.le_refl _⟩, ⟨by repeat (first | (with_reducible first | exact HB.out | apply below_alloc | apply pw_below_drewN | apply below_drew1) | exact HB.out)⟩⟩
  case round =>
    clear H'
    try clear c1
    try clear p2
    obtain ⟨x5_1, x6_1, rfl, rfl, HA, HK1, HB⟩ := hrel
    cases gk with
    | zero => exact absurd HA.out (by simp [newellaw05_WordsRight.l0])
    | succ k1 =>
      have H := HA.out
      clear HA
      simp only [newellaw05_WordsRight.l0] at H
      by_cases c3 : x6_1 < (wrap64 (95 + (wrap64 (Int.tmod (IntKind.u64.wrap (a1)) 10))))
      · rw [if_pos c3] at H
        have c3b0 : decide (x6_1 < (wrap64 (95 + (wrap64 (Int.tmod (IntKind.u64.wrap (a1)) 10))))) = true := decide_eq_true c3
        clear c3
        by_cases c4 : x5_1.size + 1 ≤ 9223372036854775807
        · rw [if_pos c4] at H
          have c4b0 := eq_true c4
          have c4b1 : decide (x5_1.size + 1 ≤ 9223372036854775807) = true := decide_eq_true c4
          try have c4b2 : (9223372036854775807 < x5_1.size + 1) = False := eq_false (Nat.not_lt.2 c4)
          have H' := Aside0.mk H
          clear H
          go_wp2
          go_roundg k1
          case measure => have := HK1.out; omega
          case rel => exact ⟨(x5_1 ++ (⟨#[49]⟩ : ByteArray)), (wrap64 (x6_1 + 1)), (by first | rfl | (simp; done) | (simp [*]; done) | (simp; exact isEmpty_bne _)), (by first | rfl | (simp; done) | (simp [*]; done) | (simp; exact isEmpty_bne _)), H', ⟨by have := HK1.out; omega⟩, ⟨by repeat (first | (with_reducible first | exact HB.out | apply below_alloc | apply pw_below_drewN | apply below_drew1) | exact HB.out)⟩⟩
        · rw [if_neg c4] at H
          exact absurd H (by simp)
      · rw [if_neg c3] at H
        have c3b0 : decide (x6_1 < (wrap64 (95 + (wrap64 (Int.tmod (IntKind.u64.wrap (a1)) 10))))) = false := decide_eq_false c3
        clear c3
        have HC5 := Aside0.mk H
        clear H
        go_upto_region 7 with (fail)
        go_cut [7] (fun v7 wc => ∃ (kq : Nat) (x7_4 : Bool), v7 = .bool x7_4 ∧ Aside0 (newellaw05_WordsRight.j1 kq a0 (wrap64 (95 + (wrap64 (Int.tmod (IntKind.u64.wrap (a1)) 10)))) x5_1 x7_4 = some r) ∧ Aside0 (kq ≤ k1) ∧ Aside0 (Below w.heap.size w wc))
        case first =>
          have H := HC5.out
          clear HC5
          by_cases c6 : a0 ≥ 33
          · rw [if_pos c6] at H
            have c6b0 : decide (33 ≤ a0) = true := decide_eq_true c6
            clear c6
            (first | rw [c6b0] | (simp only [i64_w, i32_w]; rw [c6b0]) | skip)
            by_cases c7 : a0 ≤ 126
            · rw [if_pos c7] at H
              have c7b0 : decide (a0 ≤ 126) = true := decide_eq_true c7
              clear c7
              by_cases c8 : a0 = 91
              · rw [if_pos c8] at H
                have c8b0 : (a0 == 91) = true := beq_iff_eq.mpr c8
                have c8b1 : (a0 != 91) = false := bne_eq_false_iff_eq.mpr c8
                clear c8
                have H' := Aside0.mk H
                clear H
                go_wp2
                go_meet
                case rel => exact ⟨_, (false), (by first | rfl | (simp; done) | (simp [*]; done) | (simp; exact isEmpty_bne _)), H', ⟨by have := HK1.out; first | omega | exact Nat.le_refl _⟩, ⟨by repeat (first | (with_reducible first | exact HB.out | apply below_alloc | apply pw_below_drewN | apply below_drew1) | exact HB.out)⟩⟩
              · rw [if_neg c8] at H
                have c8b0 : (a0 == 91) = false := beq_eq_false_iff_ne.mpr c8
                have c8b1 : (a0 != 91) = true := bne_iff_ne.mpr c8
                by_cases c9 : a0 = 93
                · rw [if_pos c9] at H
                  have c9b0 : (a0 == 93) = true := beq_iff_eq.mpr c9
                  have c9b1 : (a0 != 93) = false := bne_eq_false_iff_eq.mpr c9
                  clear c9
                  have H' := Aside0.mk H
                  clear H
                  go_wp2
                  go_meet
                  case rel => exact ⟨_, (false), (by first | rfl | (simp; done) | (simp [*]; done) | (simp; exact isEmpty_bne _)), H', ⟨by have := HK1.out; first | omega | exact Nat.le_refl _⟩, ⟨by repeat (first | (with_reducible first | exact HB.out | apply below_alloc | apply pw_below_drewN | apply below_drew1) | exact HB.out)⟩⟩
                · rw [if_neg c9] at H
                  have c9b0 : (a0 == 93) = false := beq_eq_false_iff_ne.mpr c9
                  have c9b1 : (a0 != 93) = true := bne_iff_ne.mpr c9
                  by_cases c10 : a0 = 40
                  · rw [if_pos c10] at H
                    have c10b0 : (a0 == 40) = true := beq_iff_eq.mpr c10
                    have c10b1 : (a0 != 40) = false := bne_eq_false_iff_eq.mpr c10
                    clear c10
                    have H' := Aside0.mk H
                    clear H
                    go_wp2
                    go_meet
                    case rel => exact ⟨_, (false), (by first | rfl | (simp; done) | (simp [*]; done) | (simp; exact isEmpty_bne _)), H', ⟨by have := HK1.out; first | omega | exact Nat.le_refl _⟩, ⟨by repeat (first | (with_reducible first | exact HB.out | apply below_alloc | apply pw_below_drewN | apply below_drew1) | exact HB.out)⟩⟩
                  · rw [if_neg c10] at H
                    have c10b0 : (a0 == 40) = false := beq_eq_false_iff_ne.mpr c10
                    have c10b1 : (a0 != 40) = true := bne_iff_ne.mpr c10
                    by_cases c11 : a0 = 41
                    · rw [if_pos c11] at H
                      have c11b0 : (a0 == 41) = true := beq_iff_eq.mpr c11
                      have c11b1 : (a0 != 41) = false := bne_eq_false_iff_eq.mpr c11
                      clear c11
                      have H' := Aside0.mk H
                      clear H
                      go_wp2
                      go_meet
                      case rel => exact ⟨_, (false), (by first | rfl | (simp; done) | (simp [*]; done) | (simp; exact isEmpty_bne _)), H', ⟨by have := HK1.out; first | omega | exact Nat.le_refl _⟩, ⟨by repeat (first | (with_reducible first | exact HB.out | apply below_alloc | apply pw_below_drewN | apply below_drew1) | exact HB.out)⟩⟩
                    · rw [if_neg c11] at H
                      have c11b0 : (a0 == 41) = false := beq_eq_false_iff_ne.mpr c11
                      have c11b1 : (a0 != 41) = true := bne_iff_ne.mpr c11
                      have H' := Aside0.mk H
                      clear H
                      go_wp2
                      go_meet
                      case rel => exact ⟨_, ((a0 != 44)), (by first | rfl | (simp; done) | (simp [*]; done) | (simp; exact isEmpty_bne _)), H', ⟨by have := HK1.out; first | omega | exact Nat.le_refl _⟩, ⟨by repeat (first | (with_reducible first | exact HB.out | apply below_alloc | apply pw_below_drewN | apply below_drew1) | exact HB.out)⟩⟩
            · rw [if_neg c7] at H
              have c7b0 : decide (a0 ≤ 126) = false := decide_eq_false c7
              clear c7
              have H' := Aside0.mk H
              clear H
              go_wp2
              go_meet
              case rel => exact ⟨_, (false), (by first | rfl | (simp; done) | (simp [*]; done) | (simp; exact isEmpty_bne _)), H', ⟨by have := HK1.out; first | omega | exact Nat.le_refl _⟩, ⟨by repeat (first | (with_reducible first | exact HB.out | apply below_alloc | apply pw_below_drewN | apply below_drew1) | exact HB.out)⟩⟩
          · rw [if_neg c6] at H
            have c6b0 : decide (33 ≤ a0) = false := decide_eq_false c6
            clear c6
            (first | rw [c6b0] | (simp only [i64_w, i32_w]; rw [c6b0]) | skip)
            have H' := Aside0.mk H
            clear H
            go_wp2
            go_meet
            case rel => exact ⟨_, (false), (by first | rfl | (simp; done) | (simp [*]; done) | (simp; exact isEmpty_bne _)), H', ⟨by have := HK1.out; first | omega | exact Nat.le_refl _⟩, ⟨by repeat (first | (with_reducible first | exact HB.out | apply below_alloc | apply pw_below_drewN | apply below_drew1) | exact HB.out)⟩⟩
        case rest =>
          clear HC5
          try clear c1
          try clear p2
          try clear c3
          try clear c3b0
          try clear c4
          try clear c4b0
          try clear c4b1
          try clear c4b2
          try clear c6
          try clear c6b0
          try clear p6
          try clear c7
          try clear c7b0
          try clear c8
          try clear c8b0
          try clear c8b1
          try clear c9
          try clear c9b0
          try clear c9b1
          try clear c10
          try clear c10b0
          try clear c10b1
          try clear c11
          try clear c11b0
          try clear c11b1
          try clear p2
          obtain ⟨kq, x7_4, rfl, HA, HJ4, HB⟩ := hcut
          cases kq with
          | zero => exact absurd HA.out (by simp [newellaw05_WordsRight.j1])
          | succ kj4 =>
            have H := HA.out
            clear HA
            simp only [newellaw05_WordsRight.j1] at H
            replace H := Option.bind_eq_some_iff.mp H
            obtain ⟨t393, A120, H⟩ := H
            replace H : (if t393 = true then ((some (([a0] : List Int) : List Int)).bind fun y394 => (if 1 + (strOfNums y394).size ≤ 9223372036854775807 then ((words_Right.f kj4 ((⟨#[49]⟩ : ByteArray) ++ (strOfNums y394))).bind fun t397 => (if (t397 == x7_4) = true then ((words_Right.f kj4 x5_1).bind fun t398 => (if (t398 == (decide ((wrap64 (95 + (wrap64 (Int.tmod (IntKind.u64.wrap (a1)) 10)))) ≤ 100))) = true then ((words_Right.f kj4 (⟨#[]⟩ : ByteArray)).bind fun t399 => (some (!t399))) else (some false))) else (some false))) else (none))) else (some false)) = some r := H
            have A12 := Aside0.mk A120
            clear A120
            by_cases c13 : t393 = true
            · subst c13
              have H1 : ((some (([a0] : List Int) : List Int)).bind fun y394 => (if 1 + (strOfNums y394).size ≤ 9223372036854775807 then ((words_Right.f kj4 ((⟨#[49]⟩ : ByteArray) ++ (strOfNums y394))).bind fun t397 => (if (t397 == x7_4) = true then ((words_Right.f kj4 x5_1).bind fun t398 => (if (t398 == (decide ((wrap64 (95 + (wrap64 (Int.tmod (IntKind.u64.wrap (a1)) 10)))) ≤ 100))) = true then ((words_Right.f kj4 (⟨#[]⟩ : ByteArray)).bind fun t399 => (some (!t399))) else (some false))) else (some false))) else (none))) = some r := by rw [if_pos rfl] at H; exact H
              clear H
              have H := H1
              clear H1
              obtain ⟨y394, hy394⟩ : ∃ y_ : List Int, y_ = (([a0] : List Int)) := ⟨_, rfl⟩
              replace H : (if 1 + (strOfNums y394).size ≤ 9223372036854775807 then ((words_Right.f kj4 ((⟨#[49]⟩ : ByteArray) ++ (strOfNums y394))).bind fun t397 => (if (t397 == x7_4) = true then ((words_Right.f kj4 x5_1).bind fun t398 => (if (t398 == (decide ((wrap64 (95 + (wrap64 (Int.tmod (IntKind.u64.wrap (a1)) 10)))) ≤ 100))) = true then ((words_Right.f kj4 (⟨#[]⟩ : ByteArray)).bind fun t399 => (some (!t399))) else (some false))) else (some false))) else (none)) = some r := by first | (rw [hy394]; with_reducible exact H) | (have H2_ := (Option.bind_some _ _).symm.trans H; rw [hy394]; with_reducible exact H2_) | (have H2_ := (Option.bind_some _ _).symm.trans H; with_reducible exact H2_) | with_reducible exact H | (rw [hy394]; exact H) | exact H
              have Ny394 := Aside0.mk hy394
              clear hy394
              by_cases c14 : 1 + (strOfNums y394).size ≤ 9223372036854775807
              · rw [if_pos c14] at H
                have c14b0 := eq_true c14
                have c14b1 : decide (1 + (strOfNums y394).size ≤ 9223372036854775807) = true := decide_eq_true c14
                try have c14b2 : (9223372036854775807 < 1 + (strOfNums y394).size) = False := eq_false (Nat.not_lt.2 c14)
                replace H := Option.bind_eq_some_iff.mp H
                obtain ⟨t397, A150, H⟩ := H
                replace H : (if (t397 == x7_4) = true then ((words_Right.f kj4 x5_1).bind fun t398 => (if (t398 == (decide ((wrap64 (95 + (wrap64 (Int.tmod (IntKind.u64.wrap (a1)) 10)))) ≤ 100))) = true then ((words_Right.f kj4 (⟨#[]⟩ : ByteArray)).bind fun t399 => (some (!t399))) else (some false))) else (some false)) = some r := H
                have A15 := Aside0.mk A150
                clear A150
                by_cases c16 : (t397 == x7_4) = true
                · rw [if_pos c16] at H
                  have c16b0 : (t397 == x7_4) = true := c16
                  (try (have c16b1 : decide (t397 = x7_4) = true := by simpa using c16))
                  (try (have c16b2 : (t397 == x7_4) = true := by simpa using c16))
                  clear c16
                  replace H := Option.bind_eq_some_iff.mp H
                  obtain ⟨t398, A170, H⟩ := H
                  replace H : (if (t398 == (decide ((wrap64 (95 + (wrap64 (Int.tmod (IntKind.u64.wrap (a1)) 10)))) ≤ 100))) = true then ((words_Right.f kj4 (⟨#[]⟩ : ByteArray)).bind fun t399 => (some (!t399))) else (some false)) = some r := H
                  have A17 := Aside0.mk A170
                  clear A170
                  by_cases c18 : (t398 == (decide ((wrap64 (95 + (wrap64 (Int.tmod (IntKind.u64.wrap (a1)) 10)))) ≤ 100))) = true
                  · rw [if_pos c18] at H
                    have c18b0 : (t398 == (decide ((wrap64 (95 + (wrap64 (Int.tmod (IntKind.u64.wrap (a1)) 10)))) ≤ 100))) = true := c18
                    (try (have c18b1 : decide (t398 = (decide ((wrap64 (95 + (wrap64 (Int.tmod (IntKind.u64.wrap (a1)) 10)))) ≤ 100))) = true := by simpa using c18))
                    (try (have c18b2 : (t398 == (decide ((wrap64 (95 + (wrap64 (Int.tmod (IntKind.u64.wrap (a1)) 10)))) ≤ 100))) = true := by simpa using c18))
                    clear c18
                    replace H := Option.bind_eq_some_iff.mp H
                    obtain ⟨t399, A190, H⟩ := H
                    replace H : (some (!t399)) = some r := H
                    have A19 := Aside0.mk A190
                    clear A190
                    obtain rfl := Option.some.inj H
                    go_wp2_with (first | ((with_reducible refine gate_callee (f := 27) rfl ?_); refine goesL_ (some 46) rfl rfl Tryd.func27 (by kernel_rfl) rfl #[] rfl (by (try simp only [List.map_toArray, List.map_cons, List.map_nil]); first | done | rfl | (simp only [List.length_drop, List.length_take]; rfl)) ?_; (with_reducible refine (newellaw05_awake.calls kj4  true _ ?side1 A12.out).mono ?_); (case side1 => exact Glob.step HG.out (by repeat (first | (with_reducible first | exact HB.out | apply below_alloc | apply pw_below_drewN | apply below_drew1) | exact HB.out))); rintro e w20 ⟨rfl, hb⟩; refine ⟨_, rfl, ?_⟩; have n0_ := Aside0.mk (below_step (by repeat (first | (with_reducible first | exact HB.out | apply below_alloc | apply pw_below_drewN | apply below_drew1) | exact HB.out)) hb); clear HB; have HB := n0_; clear n0_; (try clear hb); (try clear hb2); (try clear hk); (try clear hi)) | ((with_reducible refine gate_dst (N := 49) rfl ?_); (try (refine gate_guard (by rfl) ?_; dsimp only)); refine Kd.R_lit (Kd.int .u8) _ 5 ?hg (N := 49) ?hd (xs := ([a0] : List Int)) (inner := [.int .u8 a0]) (ok := fun _ => True) (okp := fun _ => True) ?hr ?hp (fun _ hk => hk) trivial (Below.refl _ _) (Nat.le_refl _) (by simp) ?_; (case hd => rfl); (case hg => rfl); (case hr => first | (go_simp; done) | (go_simp; rfl)); (case hp => exact (Reps.one (show Kd.M (Kd.int .u8) _ _ _ a0 [.int .u8 a0] from rfl) (Reps.none _ _))); intro v395 w21 ho22 hb hg_ hnew_; clear hg_ hnew_; (first | rw [← Ny394.out] at ho22 | (simp only [Int.reduceToNat] at ho22; rw [← Ny394.out] at ho22)); have n0_ := Aside0.mk (Kd.R_lower ho22 (below_size (by repeat (first | (with_reducible first | exact HB.out | apply below_alloc | apply pw_below_drewN | apply below_drew1) | exact HB.out)))); have n1_ := Aside0.mk (below_step (by repeat (first | (with_reducible first | exact HB.out | apply below_alloc | apply pw_below_drewN | apply below_drew1) | exact HB.out)) hb); clear HB; have HO396 := n0_; have HB := n1_; clear n0_ n1_; clear hb ho22; have hcv23 := own_string (P := Tryd.prog) Tryd.underlying30 Tryd.underlying5 Tryd.underlying9 (Kd.own_of_R HO396.out)) | (go_at_call 28; (with_reducible refine (words_Right.calls kj4 ((⟨#[49]⟩ : ByteArray) ++ (strOfNums y394)) t397 _ ?side1 A15.out).mono ?_); (case side1 => exact Glob.step HG.out (by repeat (first | (with_reducible first | exact HB.out | apply below_alloc | apply pw_below_drewN | apply below_drew1) | exact HB.out))); rintro e w24 ⟨rfl, hb⟩; have n0_ := Aside0.mk (Kd.R_below (by (with_reducible repeat (first | apply Kd.R_alloc | apply Kd.R_drewN | apply Kd.R_drew)); exact HO396.out) hb); have n1_ := Aside0.mk (below_step (by repeat (first | (with_reducible first | exact HB.out | apply below_alloc | apply pw_below_drewN | apply below_drew1) | exact HB.out)) hb); clear HO396; clear HB; have HO396 := n0_; have HB := n1_; clear n0_ n1_; (try clear hb); (try clear hb2); (try clear hk); (try clear hi)) | (go_at_call 28; (with_reducible refine (words_Right.calls kj4 x5_1 t398 _ ?side1 A17.out).mono ?_); (case side1 => exact Glob.step HG.out (by repeat (first | (with_reducible first | exact HB.out | apply below_alloc | apply pw_below_drewN | apply below_drew1) | exact HB.out))); rintro e w25 ⟨rfl, hb⟩; have n0_ := Aside0.mk (Kd.R_below (by (with_reducible repeat (first | apply Kd.R_alloc | apply Kd.R_drewN | apply Kd.R_drew)); exact HO396.out) hb); have n1_ := Aside0.mk (below_step (by repeat (first | (with_reducible first | exact HB.out | apply below_alloc | apply pw_below_drewN | apply below_drew1) | exact HB.out)) hb); clear HO396; clear HB; have HO396 := n0_; have HB := n1_; clear n0_ n1_; (try clear hb); (try clear hb2); (try clear hk); (try clear hi)) | (go_at_call 28; (with_reducible refine (words_Right.calls kj4 (⟨#[]⟩ : ByteArray) t399 _ ?side1 A19.out).mono ?_); (case side1 => exact Glob.step HG.out (by repeat (first | (with_reducible first | exact HB.out | apply below_alloc | apply pw_below_drewN | apply below_drew1) | exact HB.out))); rintro e w26 ⟨rfl, hb⟩; have n0_ := Aside0.mk (Kd.R_below (by (with_reducible repeat (first | apply Kd.R_alloc | apply Kd.R_drewN | apply Kd.R_drew)); exact HO396.out) hb); have n1_ := Aside0.mk (below_step (by repeat (first | (with_reducible first | exact HB.out | apply below_alloc | apply pw_below_drewN | apply below_drew1) | exact HB.out)) hb); clear HO396; clear HB; have HO396 := n0_; have HB := n1_; clear n0_ n1_; (try clear hb); (try clear hb2); (try clear hk); (try clear hi)))
                    go_ret
                    exact ⟨by first | rfl | (simp [errW_none, errW_some] <;> rfl) | (simp [*, errW_none, errW_some] <;> rfl), by repeat (first | (with_reducible first | exact HB.out | apply below_alloc | apply pw_below_drewN | apply below_drew1) | exact HB.out)⟩
                  · rw [if_neg c18] at H
                    have c18b0 : (t398 == (decide ((wrap64 (95 + (wrap64 (Int.tmod (IntKind.u64.wrap (a1)) 10)))) ≤ 100))) = false := by simpa using c18
                    (try (have c18b1 : decide (t398 = (decide ((wrap64 (95 + (wrap64 (Int.tmod (IntKind.u64.wrap (a1)) 10)))) ≤ 100))) = false := by simpa using c18))
                    (try (have c18b2 : (t398 == (decide ((wrap64 (95 + (wrap64 (Int.tmod (IntKind.u64.wrap (a1)) 10)))) ≤ 100))) = false := by simpa using c18))
                    (try (have c18b3 : ¬ (t398 = (decide ((wrap64 (95 + (wrap64 (Int.tmod (IntKind.u64.wrap (a1)) 10)))) ≤ 100))) := by simpa using c18))
                    clear c18
                    obtain rfl := Option.some.inj H
                    go_wp2_with (first | ((with_reducible refine gate_callee (f := 27) rfl ?_); refine goesL_ (some 46) rfl rfl Tryd.func27 (by kernel_rfl) rfl #[] rfl (by (try simp only [List.map_toArray, List.map_cons, List.map_nil]); first | done | rfl | (simp only [List.length_drop, List.length_take]; rfl)) ?_; (with_reducible refine (newellaw05_awake.calls kj4  true _ ?side1 A12.out).mono ?_); (case side1 => exact Glob.step HG.out (by repeat (first | (with_reducible first | exact HB.out | apply below_alloc | apply pw_below_drewN | apply below_drew1) | exact HB.out))); rintro e w27 ⟨rfl, hb⟩; refine ⟨_, rfl, ?_⟩; have n0_ := Aside0.mk (below_step (by repeat (first | (with_reducible first | exact HB.out | apply below_alloc | apply pw_below_drewN | apply below_drew1) | exact HB.out)) hb); clear HB; have HB := n0_; clear n0_; (try clear hb); (try clear hb2); (try clear hk); (try clear hi)) | ((with_reducible refine gate_dst (N := 49) rfl ?_); (try (refine gate_guard (by rfl) ?_; dsimp only)); refine Kd.R_lit (Kd.int .u8) _ 5 ?hg (N := 49) ?hd (xs := ([a0] : List Int)) (inner := [.int .u8 a0]) (ok := fun _ => True) (okp := fun _ => True) ?hr ?hp (fun _ hk => hk) trivial (Below.refl _ _) (Nat.le_refl _) (by simp) ?_; (case hd => rfl); (case hg => rfl); (case hr => first | (go_simp; done) | (go_simp; rfl)); (case hp => exact (Reps.one (show Kd.M (Kd.int .u8) _ _ _ a0 [.int .u8 a0] from rfl) (Reps.none _ _))); intro v395 w28 ho29 hb hg_ hnew_; clear hg_ hnew_; (first | rw [← Ny394.out] at ho29 | (simp only [Int.reduceToNat] at ho29; rw [← Ny394.out] at ho29)); have n0_ := Aside0.mk (Kd.R_lower ho29 (below_size (by repeat (first | (with_reducible first | exact HB.out | apply below_alloc | apply pw_below_drewN | apply below_drew1) | exact HB.out)))); have n1_ := Aside0.mk (below_step (by repeat (first | (with_reducible first | exact HB.out | apply below_alloc | apply pw_below_drewN | apply below_drew1) | exact HB.out)) hb); clear HB; have HO396 := n0_; have HB := n1_; clear n0_ n1_; clear hb ho29; have hcv30 := own_string (P := Tryd.prog) Tryd.underlying30 Tryd.underlying5 Tryd.underlying9 (Kd.own_of_R HO396.out)) | (go_at_call 28; (with_reducible refine (words_Right.calls kj4 ((⟨#[49]⟩ : ByteArray) ++ (strOfNums y394)) t397 _ ?side1 A15.out).mono ?_); (case side1 => exact Glob.step HG.out (by repeat (first | (with_reducible first | exact HB.out | apply below_alloc | apply pw_below_drewN | apply below_drew1) | exact HB.out))); rintro e w31 ⟨rfl, hb⟩; have n0_ := Aside0.mk (Kd.R_below (by (with_reducible repeat (first | apply Kd.R_alloc | apply Kd.R_drewN | apply Kd.R_drew)); exact HO396.out) hb); have n1_ := Aside0.mk (below_step (by repeat (first | (with_reducible first | exact HB.out | apply below_alloc | apply pw_below_drewN | apply below_drew1) | exact HB.out)) hb); clear HO396; clear HB; have HO396 := n0_; have HB := n1_; clear n0_ n1_; (try clear hb); (try clear hb2); (try clear hk); (try clear hi)) | (go_at_call 28; (with_reducible refine (words_Right.calls kj4 x5_1 t398 _ ?side1 A17.out).mono ?_); (case side1 => exact Glob.step HG.out (by repeat (first | (with_reducible first | exact HB.out | apply below_alloc | apply pw_below_drewN | apply below_drew1) | exact HB.out))); rintro e w32 ⟨rfl, hb⟩; have n0_ := Aside0.mk (Kd.R_below (by (with_reducible repeat (first | apply Kd.R_alloc | apply Kd.R_drewN | apply Kd.R_drew)); exact HO396.out) hb); have n1_ := Aside0.mk (below_step (by repeat (first | (with_reducible first | exact HB.out | apply below_alloc | apply pw_below_drewN | apply below_drew1) | exact HB.out)) hb); clear HO396; clear HB; have HO396 := n0_; have HB := n1_; clear n0_ n1_; (try clear hb); (try clear hb2); (try clear hk); (try clear hi)))
                    go_ret
                    exact ⟨by first | rfl | (simp [errW_none, errW_some] <;> rfl) | (simp [*, errW_none, errW_some] <;> rfl), by repeat (first | (with_reducible first | exact HB.out | apply below_alloc | apply pw_below_drewN | apply below_drew1) | exact HB.out)⟩
                · rw [if_neg c16] at H
                  have c16b0 : (t397 == x7_4) = false := by simpa using c16
                  (try (have c16b1 : decide (t397 = x7_4) = false := by simpa using c16))
                  (try (have c16b2 : (t397 == x7_4) = false := by simpa using c16))
                  (try (have c16b3 : ¬ (t397 = x7_4) := by simpa using c16))
                  clear c16
                  obtain rfl := Option.some.inj H
                  go_wp2_with (first | ((with_reducible refine gate_callee (f := 27) rfl ?_); refine goesL_ (some 46) rfl rfl Tryd.func27 (by kernel_rfl) rfl #[] rfl (by (try simp only [List.map_toArray, List.map_cons, List.map_nil]); first | done | rfl | (simp only [List.length_drop, List.length_take]; rfl)) ?_; (with_reducible refine (newellaw05_awake.calls kj4  true _ ?side1 A12.out).mono ?_); (case side1 => exact Glob.step HG.out (by repeat (first | (with_reducible first | exact HB.out | apply below_alloc | apply pw_below_drewN | apply below_drew1) | exact HB.out))); rintro e w33 ⟨rfl, hb⟩; refine ⟨_, rfl, ?_⟩; have n0_ := Aside0.mk (below_step (by repeat (first | (with_reducible first | exact HB.out | apply below_alloc | apply pw_below_drewN | apply below_drew1) | exact HB.out)) hb); clear HB; have HB := n0_; clear n0_; (try clear hb); (try clear hb2); (try clear hk); (try clear hi)) | ((with_reducible refine gate_dst (N := 49) rfl ?_); (try (refine gate_guard (by rfl) ?_; dsimp only)); refine Kd.R_lit (Kd.int .u8) _ 5 ?hg (N := 49) ?hd (xs := ([a0] : List Int)) (inner := [.int .u8 a0]) (ok := fun _ => True) (okp := fun _ => True) ?hr ?hp (fun _ hk => hk) trivial (Below.refl _ _) (Nat.le_refl _) (by simp) ?_; (case hd => rfl); (case hg => rfl); (case hr => first | (go_simp; done) | (go_simp; rfl)); (case hp => exact (Reps.one (show Kd.M (Kd.int .u8) _ _ _ a0 [.int .u8 a0] from rfl) (Reps.none _ _))); intro v395 w34 ho35 hb hg_ hnew_; clear hg_ hnew_; (first | rw [← Ny394.out] at ho35 | (simp only [Int.reduceToNat] at ho35; rw [← Ny394.out] at ho35)); have n0_ := Aside0.mk (Kd.R_lower ho35 (below_size (by repeat (first | (with_reducible first | exact HB.out | apply below_alloc | apply pw_below_drewN | apply below_drew1) | exact HB.out)))); have n1_ := Aside0.mk (below_step (by repeat (first | (with_reducible first | exact HB.out | apply below_alloc | apply pw_below_drewN | apply below_drew1) | exact HB.out)) hb); clear HB; have HO396 := n0_; have HB := n1_; clear n0_ n1_; clear hb ho35; have hcv36 := own_string (P := Tryd.prog) Tryd.underlying30 Tryd.underlying5 Tryd.underlying9 (Kd.own_of_R HO396.out)) | (go_at_call 28; (with_reducible refine (words_Right.calls kj4 ((⟨#[49]⟩ : ByteArray) ++ (strOfNums y394)) t397 _ ?side1 A15.out).mono ?_); (case side1 => exact Glob.step HG.out (by repeat (first | (with_reducible first | exact HB.out | apply below_alloc | apply pw_below_drewN | apply below_drew1) | exact HB.out))); rintro e w37 ⟨rfl, hb⟩; have n0_ := Aside0.mk (Kd.R_below (by (with_reducible repeat (first | apply Kd.R_alloc | apply Kd.R_drewN | apply Kd.R_drew)); exact HO396.out) hb); have n1_ := Aside0.mk (below_step (by repeat (first | (with_reducible first | exact HB.out | apply below_alloc | apply pw_below_drewN | apply below_drew1) | exact HB.out)) hb); clear HO396; clear HB; have HO396 := n0_; have HB := n1_; clear n0_ n1_; (try clear hb); (try clear hb2); (try clear hk); (try clear hi)))
                  go_ret
                  exact ⟨by first | rfl | (simp [errW_none, errW_some] <;> rfl) | (simp [*, errW_none, errW_some] <;> rfl), by repeat (first | (with_reducible first | exact HB.out | apply below_alloc | apply pw_below_drewN | apply below_drew1) | exact HB.out)⟩
              · rw [if_neg c14] at H
                exact absurd H (by simp)
            · replace c13 := Bool.eq_false_iff.mpr c13
              subst c13
              have H1 : (some false) = some r := by rw [if_neg (show ¬ (false = true) by decide)] at H; exact H
              clear H
              have H := H1
              clear H1
              obtain rfl := Option.some.inj H
              go_wp2_with (first | ((with_reducible refine gate_callee (f := 27) rfl ?_); refine goesL_ (some 46) rfl rfl Tryd.func27 (by kernel_rfl) rfl #[] rfl (by (try simp only [List.map_toArray, List.map_cons, List.map_nil]); first | done | rfl | (simp only [List.length_drop, List.length_take]; rfl)) ?_; (with_reducible refine (newellaw05_awake.calls kj4  false _ ?side1 A12.out).mono ?_); (case side1 => exact Glob.step HG.out (by repeat (first | (with_reducible first | exact HB.out | apply below_alloc | apply pw_below_drewN | apply below_drew1) | exact HB.out))); rintro e w38 ⟨rfl, hb⟩; refine ⟨_, rfl, ?_⟩; have n0_ := Aside0.mk (below_step (by repeat (first | (with_reducible first | exact HB.out | apply below_alloc | apply pw_below_drewN | apply below_drew1) | exact HB.out)) hb); clear HB; have HB := n0_; clear n0_; (try clear hb); (try clear hb2); (try clear hk); (try clear hi)))
              go_ret
              exact ⟨by first | rfl | (simp [errW_none, errW_some] <;> rfl) | (simp [*, errW_none, errW_some] <;> rfl), by repeat (first | (with_reducible first | exact HB.out | apply below_alloc | apply pw_below_drewN | apply below_drew1) | exact HB.out)⟩

end Go.Proofs.YtgdjfcmmpjcaaaaDoor.Q
