-- Printed by this session's wip/np.py over the kit's print program. Not trusted: Lean checks it.
import Derived.Test.YtgdjfcmmpjcaaaaDoorQ0
import Derived.Test.YtgdjfcmmpjcaaaaDoorQf63
namespace Go.Proofs.YtgdjfcmmpjcaaaaDoor.Q
open Go.RowKit Go.Proofs.YtgdjfcmmpjcaaaaDoorW.PrintWords Go.Proofs.YtgdjfcmmpjcaaaaDoorW.PrintLast Go.Proofs.YtgdjfcmmpjcaaaaDoorW.Own Go.Proofs.YtgdjfcmmpjcaaaaDoorW.PrintMore
attribute [local go_sem] max2_int min2_int max_two min_two max_three min_three max_four min_four   -- for this text's walks alone
set_option linter.unusedVariables false
set_option linter.unusedSimpArgs false

/-! ### coord_Id: function 23 -/
mutual
def coord_Id.j0 : Nat → ByteArray → Bool → Option (Bool)
  | 0, _, _ => none
  | k + 1, x0, x9 => if x9 = true then (some false) else (coord_Id.l0 k x0)
def coord_Id.l0 : Nat → ByteArray → Option (Bool)
  | 0, _ => none
  | k + 1, x0 => if 0 < (x0.size : Int) then ((coord_letter.f (bt x0 0)).bind fun t101 => (if t101 = true then (if 1 ≤ (x0.size : Int) then (if (x0.extract 1 x0.size).toList = ([] : List UInt8) then (some true) else (coord_Id.l0 k (x0.extract 1 x0.size))) else (none)) else (some false))) else (none)
end
def coord_Id.f (k : Nat) (a0 : ByteArray) : Option (Bool) := if a0.toList = ([] : List UInt8) then (coord_Id.j0 k a0 true) else (coord_Id.j0 k a0 (decide ((a0.size : Int) > 500)))
theorem coord_Id.mono_l : ∀ k, (∀ y0 y1, LeO (coord_Id.j0 k y0 y1) (coord_Id.j0 (k + 1) y0 y1)) ∧ (∀ y0, LeO (coord_Id.l0 k y0) (coord_Id.l0 (k + 1) y0))
  | 0 => ⟨fun _ _ r h => by simp [coord_Id.j0] at h, fun _ r h => by simp [coord_Id.l0] at h⟩
  | k + 1 => by
    obtain ⟨ih0, ih1⟩ := coord_Id.mono_l k
    refine ⟨?_, ?_⟩
    · intro y0 y1
      unfold coord_Id.j0
      repeat' first
      | (with_reducible exact ih0 _ _)
      | (with_reducible exact ih1 _)
      | (with_reducible exact LeO.refl _)
      | (with_reducible exact LeO.none _)
      | (with_reducible refine LeO.ite ?_ ?_)
      | (with_reducible refine LeO.bind ?_ (fun _ => ?_))
      | exact ih0 _ _
      | exact ih1 _
      | exact LeO.none _
      | refine LeO.ite ?_ ?_
      | refine LeO.bind ?_ (fun _ => ?_)
    · intro y0
      unfold coord_Id.l0
      repeat' first
      | (with_reducible exact ih0 _ _)
      | (with_reducible exact ih1 _)
      | (with_reducible exact LeO.refl _)
      | (with_reducible exact LeO.none _)
      | (with_reducible refine LeO.ite ?_ ?_)
      | (with_reducible refine LeO.bind ?_ (fun _ => ?_))
      | exact ih0 _ _
      | exact ih1 _
      | exact LeO.none _
      | refine LeO.ite ?_ ?_
      | refine LeO.bind ?_ (fun _ => ?_)
theorem coord_Id.mono : ∀ a0 k, LeO (coord_Id.f k a0) (coord_Id.f (k + 1) a0) := by
  intro a0 k
  obtain ⟨ih0, ih1⟩ := coord_Id.mono_l k
  unfold coord_Id.f
  repeat' first
      | (with_reducible exact ih0 _ _)
      | (with_reducible exact ih1 _)
      | (with_reducible exact LeO.refl _)
      | (with_reducible exact LeO.none _)
      | (with_reducible refine LeO.ite ?_ ?_)
      | (with_reducible refine LeO.bind ?_ (fun _ => ?_))
      | exact ih0 _ _
      | exact ih1 _
      | exact LeO.none _
      | refine LeO.ite ?_ ?_
      | refine LeO.bind ?_ (fun _ => ?_)
set_option maxHeartbeats 8000000 in
set_option maxRecDepth 100000 in
theorem coord_Id.calls (k : Nat) (a0 : ByteArray) (r : Bool) (w : World) (hG : Glob w) (h : coord_Id.f k a0 = some r) :
    Calls Tryd.prog 23 #[.string a0] w fun e w' => e = .returned (.bool r) ∧ Drawn0 w w' := by
  have HG := Aside0.mk hG
  clear hG
  have H : (if a0.toList = ([] : List UInt8) then (coord_Id.j0 k a0 true) else (coord_Id.j0 k a0 (decide ((a0.size : Int) > 500)))) = some r := h
  clear h
  have HS2 := Aside0.mk H
  clear H
  go_enter Tryd.func23, Tryd.ntmps23
  go_wp2
  refine wp_scope_loop 0 (by rfl) ?_
  have H := HS2.out
  clear HS2
  have HC3 := Aside0.mk H
  clear H
  go_upto_region 1 with (fail)
  go_cut [9] (fun v9 wc => ∃ (kq : Nat) (x9_2 : Bool), v9 = .bool x9_2 ∧ Aside0 (coord_Id.j0 kq a0 x9_2 = some r) ∧ Aside0 (kq ≤ k) ∧ Drawn0 w wc)
  case first =>
    have H := HC3.out
    clear HC3
    by_cases c4 : a0.toList = ([] : List UInt8)
    · rw [if_pos c4] at H
      have c4b0 : (a0.toList == ([] : List UInt8)) = true := beq_iff_eq.mpr c4
      have c4b1 : (a0.toList != ([] : List UInt8)) = false := bne_eq_false_iff_eq.mpr c4
      (try (have c4b2 : a0.toList.isEmpty = true := by simpa using c4))
      clear c4
      (first | rw [c4b0] | rw [c4b2] | (simp only [i64_w, i32_w]; rw [c4b0]) | skip)
      have H' := Aside0.mk H
      clear H
      go_wp2
      go_meet
      case rel => exact ⟨_, (true), (by first | rfl | (simp; done) | (simp [*]; done) | (simp; exact isEmpty_bne _)), H', ⟨by first | omega | exact Nat.le_refl _⟩, by repeat (first | exact Drawn0.refl _ | apply Drawn0.step)⟩
    · rw [if_neg c4] at H
      have c4b0 : (a0.toList == ([] : List UInt8)) = false := beq_eq_false_iff_ne.mpr c4
      have c4b1 : (a0.toList != ([] : List UInt8)) = true := bne_iff_ne.mpr c4
      (try (have c4b2 : a0.toList.isEmpty = false := by simpa using c4))
      (first | rw [c4b0] | rw [c4b2] | (simp only [i64_w, i32_w]; rw [c4b0]) | skip)
      have H' := Aside0.mk H
      clear H
      go_wp2
      go_meet
      case rel => exact ⟨_, (decide ((a0.size : Int) > 500)), (by first | rfl | (simp; done) | (simp [*]; done) | (simp; exact isEmpty_bne _)), H', ⟨by first | omega | exact Nat.le_refl _⟩, by repeat (first | exact Drawn0.refl _ | apply Drawn0.step)⟩
  case rest =>
    clear HC3
    try clear c2
    try clear p2
    try clear c4
    try clear c4b0
    try clear c4b1
    try clear c4b2
    obtain ⟨kq, x9_2, rfl, HA, HJ2, ⟨mc2, rfl⟩⟩ := hcut
    cases kq with
    | zero => exact absurd HA.out (by simp [coord_Id.j0])
    | succ kj2 =>
      have H := HA.out
      clear HA
      simp only [coord_Id.j0] at H
      by_cases c5 : x9_2 = true
      · subst c5
        have H1 : (some false) = some r := by rw [if_pos rfl] at H; exact H
        clear H
        have H := H1
        clear H1
        obtain rfl := Option.some.inj H
        go_wp2
        (try simp only [Exit.inBlock, Exit.then, jump_ret])
        go_ret
        exact ⟨by first | rfl | (simp; done) | (simp [*]; done), by repeat (first | exact Drawn0.refl _ | apply Drawn0.step)⟩
      · replace c5 := Bool.eq_false_iff.mpr c5
        subst c5
        have H1 : (coord_Id.l0 kj2 a0) = some r := by rw [if_neg (show ¬ (false = true) by decide)] at H; exact H
        clear H
        have H := H1
        clear H1
        have H' := Aside0.mk H
        clear H
        go_wp2
        refine wp_label ?_
        rename_i hlb
        refine hlb _ _ ?_
        refine wp_at_label ?_
        refine LoopAt.intro (fun aB_ kq_ a1 w1 => ∃ (u0 u2 u10 u11 u12 u13 u14 u15 u16 u17 : Value), (fun kq v0 w' => ∃ (x0_2 : ByteArray), v0 = .string x0_2 ∧ Aside0 (coord_Id.l0 kq x0_2 = some r) ∧ Aside0 (kq ≤ kj2) ∧ Drawn0 w w') kq_ u0 w1 ∧ a1 = ((((((((((aB_.put (some 0) u0).put (some 2) u2).put (some 10) u10).put (some 11) u11).put (some 12) u12).put (some 13) u13).put (some 14) u14).put (some 15) u15).put (some 16) u16).put (some 17) u17)) kj2 ?_ ?_
        · (repeat apply Exists.intro)
          (try simp only [Act.put, List.setIfInBounds_toArray, List.set_cons_zero, List.set_cons_succ])
          refine ⟨?_, rfl⟩
          exact ⟨(a0), (by first | rfl | (simp; done) | (simp [*]; done) | (simp; exact isEmpty_bne _)), H', ⟨Nat.le_refl _⟩, by repeat (first | exact Drawn0.refl _ | apply Drawn0.step)⟩
        · intro gk a1 wr hinv
          obtain ⟨u0, u2, u10, u11, u12, u13, u14, u15, u16, u17, hrel, ha⟩ := hinv
          subst ha
          (try simp only [Act.put, List.setIfInBounds_toArray, List.set_cons_zero, List.set_cons_succ])
          intro Js0 Ks0 hJs0 hKs0
          clear H'
          try clear c2
          try clear p2
          try clear c4
          try clear c4b0
          try clear c4b1
          try clear c4b2
          try clear c5
          try clear p2
          obtain ⟨x0_2, rfl, HA, HK2, ⟨m2, rfl⟩⟩ := hrel
          cases gk with
          | zero => exact absurd HA.out (by simp [coord_Id.l0])
          | succ k2 =>
            have H := HA.out
            clear HA
            simp only [coord_Id.l0] at H
            by_cases c6 : 0 < (x0_2.size : Int)
            · rw [if_pos c6] at H
              have c6b0 : decide (0 < (x0_2.size : Int)) = true := decide_eq_true c6
              have c6b1 : decide (0 < x0_2.size) = true := decide_eq_true (by omega)
              clear c6
              replace H := Option.bind_eq_some_iff.mp H
              obtain ⟨t101, A80, H⟩ := H
              replace H : (if t101 = true then (if 1 ≤ (x0_2.size : Int) then (if (x0_2.extract 1 x0_2.size).toList = ([] : List UInt8) then (some true) else (coord_Id.l0 k2 (x0_2.extract 1 x0_2.size))) else (none)) else (some false)) = some r := H
              have A8 := Aside0.mk A80
              clear A80
              by_cases c9 : t101 = true
              · subst c9
                have H1 : (if 1 ≤ (x0_2.size : Int) then (if (x0_2.extract 1 x0_2.size).toList = ([] : List UInt8) then (some true) else (coord_Id.l0 k2 (x0_2.extract 1 x0_2.size))) else (none)) = some r := by rw [if_pos rfl] at H; exact H
                clear H
                have H := H1
                clear H1
                by_cases c10 : 1 ≤ (x0_2.size : Int)
                · rw [if_pos c10] at H
                  have c10b0 := eq_true c10
                  have c10b1 : decide (1 ≤ (x0_2.size : Int)) = true := decide_eq_true c10
                  clear c10
                  by_cases c11 : (x0_2.extract 1 x0_2.size).toList = ([] : List UInt8)
                  · rw [if_pos c11] at H
                    have c11b0 : ((x0_2.extract 1 x0_2.size).toList == ([] : List UInt8)) = true := beq_iff_eq.mpr c11
                    have c11b1 : ((x0_2.extract 1 x0_2.size).toList != ([] : List UInt8)) = false := bne_eq_false_iff_eq.mpr c11
                    (try (have c11b2 : ((x0_2.extract 1 x0_2.size).toList).isEmpty = true := by simpa using c11))
                    clear c11
                    obtain rfl := Option.some.inj H
                    have p7 : 0 ≤ (0 : Int) := (by omega)
                    have q7 : 0 < x0_2.size := (by have : (0 : Int) < (x0_2.size : Int) := of_decide_eq_true (by first | (with_reducible assumption) | assumption); omega)
                    have hx7 : ∀ h : 0 < x0_2.size, ((x0_2[0]'h).toNat : Int) = bt x0_2 0 := bt_at x0_2 0
                    clear p7
                    have qi7 : (0 < (x0_2.size : Int)) = True := eq_true (of_decide_eq_true (by first | (with_reducible assumption) | assumption))
                    replace q7 := eq_true q7
                    go_wp2_with (first | ((with_reducible refine gate_callee (f := 63) rfl ?_); refine goesL_ (some 12) rfl rfl Tryd.func63 (by kernel_rfl) rfl #[.int .u8 (bt x0_2 0)] rfl (by (try simp only [List.map_toArray, List.map_cons, List.map_nil]); first | done | rfl | (simp only [List.length_drop, List.length_take]; rfl)) ?_; (with_reducible refine (coord_letter.calls (bt x0_2 0) true _ ?side1 A8.out).mono ?_); (case side1 => exact Glob.drawn HG.out (by repeat (first | exact Drawn0.refl _ | apply Drawn0.step))); rintro e w' ⟨rfl, ⟨nd, rfl⟩⟩; refine ⟨_, rfl, ?_⟩))
                    (try simp only [Exit.inBlock, Exit.then, jump_ret])
                    go_ret
                    exact ⟨by first | rfl | (simp; done) | (simp [*]; done), by repeat (first | exact Drawn0.refl _ | apply Drawn0.step)⟩
                  · rw [if_neg c11] at H
                    have c11b0 : ((x0_2.extract 1 x0_2.size).toList == ([] : List UInt8)) = false := beq_eq_false_iff_ne.mpr c11
                    have c11b1 : ((x0_2.extract 1 x0_2.size).toList != ([] : List UInt8)) = true := bne_iff_ne.mpr c11
                    (try (have c11b2 : ((x0_2.extract 1 x0_2.size).toList).isEmpty = false := by simpa using c11))
                    have H' := Aside0.mk H
                    clear H
                    have p7 : 0 ≤ (0 : Int) := (by omega)
                    have q7 : 0 < x0_2.size := (by have : (0 : Int) < (x0_2.size : Int) := of_decide_eq_true (by first | (with_reducible assumption) | assumption); omega)
                    have hx7 : ∀ h : 0 < x0_2.size, ((x0_2[0]'h).toNat : Int) = bt x0_2 0 := bt_at x0_2 0
                    clear p7
                    have qi7 : (0 < (x0_2.size : Int)) = True := eq_true (of_decide_eq_true (by first | (with_reducible assumption) | assumption))
                    replace q7 := eq_true q7
                    go_wp2_with (first | ((with_reducible refine gate_callee (f := 63) rfl ?_); refine goesL_ (some 12) rfl rfl Tryd.func63 (by kernel_rfl) rfl #[.int .u8 (bt x0_2 0)] rfl (by (try simp only [List.map_toArray, List.map_cons, List.map_nil]); first | done | rfl | (simp only [List.length_drop, List.length_take]; rfl)) ?_; (with_reducible refine (coord_letter.calls (bt x0_2 0) true _ ?side1 A8.out).mono ?_); (case side1 => exact Glob.drawn HG.out (by repeat (first | exact Drawn0.refl _ | apply Drawn0.step))); rintro e w' ⟨rfl, ⟨nd, rfl⟩⟩; refine ⟨_, rfl, ?_⟩))
                    refine wp_goto (And.intro rfl ?_)
                    refine hKs0 _ _ ?_
                    go_roundg k2
                    case measure => have := HJ2.out; have := HK2.out; omega
                    case rel => exact ⟨(x0_2.extract 1 x0_2.size), (by first | rfl | (simp; done) | (simp [*]; done) | (simp; exact isEmpty_bne _)), H', ⟨by have := HJ2.out; have := HK2.out; omega⟩, by repeat (first | exact Drawn0.refl _ | apply Drawn0.step)⟩
                · rw [if_neg c10] at H
                  exact absurd H (by simp)
              · replace c9 := Bool.eq_false_iff.mpr c9
                subst c9
                have H1 : (some false) = some r := by rw [if_neg (show ¬ (false = true) by decide)] at H; exact H
                clear H
                have H := H1
                clear H1
                obtain rfl := Option.some.inj H
                have p7 : 0 ≤ (0 : Int) := (by omega)
                have q7 : 0 < x0_2.size := (by have : (0 : Int) < (x0_2.size : Int) := of_decide_eq_true (by first | (with_reducible assumption) | assumption); omega)
                have hx7 : ∀ h : 0 < x0_2.size, ((x0_2[0]'h).toNat : Int) = bt x0_2 0 := bt_at x0_2 0
                clear p7
                have qi7 : (0 < (x0_2.size : Int)) = True := eq_true (of_decide_eq_true (by first | (with_reducible assumption) | assumption))
                replace q7 := eq_true q7
                go_wp2_with (first | ((with_reducible refine gate_callee (f := 63) rfl ?_); refine goesL_ (some 12) rfl rfl Tryd.func63 (by kernel_rfl) rfl #[.int .u8 (bt x0_2 0)] rfl (by (try simp only [List.map_toArray, List.map_cons, List.map_nil]); first | done | rfl | (simp only [List.length_drop, List.length_take]; rfl)) ?_; (with_reducible refine (coord_letter.calls (bt x0_2 0) false _ ?side1 A8.out).mono ?_); (case side1 => exact Glob.drawn HG.out (by repeat (first | exact Drawn0.refl _ | apply Drawn0.step))); rintro e w' ⟨rfl, ⟨nd, rfl⟩⟩; refine ⟨_, rfl, ?_⟩))
                (try simp only [Exit.inBlock, Exit.then, jump_ret])
                go_ret
                exact ⟨by first | rfl | (simp; done) | (simp [*]; done), by repeat (first | exact Drawn0.refl _ | apply Drawn0.step)⟩
            · rw [if_neg c6] at H
              exact absurd H (by simp)

end Go.Proofs.YtgdjfcmmpjcaaaaDoor.Q
