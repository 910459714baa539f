/- Texts put together: what functions of the program compute, and plain words about them. -/
import Derived.Test.YtgdjfcmmpjcaaaaDoorLawWordsPartsM1
import Derived.Test.YtgdjfcmmpjcaaaaDoorLawWordsPartsM3
import Derived.Test.YtgdjfcmmpjcaaaaDoorLawWordsPartsM2
import Derived.Test.YtgdjfcmmpjcaaaaDoorProg
import Derived.Test.YtgdjfcmmpjcaaaaDoorRows
import Derived.ChangeArms
import Derived.Deep.DeepHandedRow
import Derived.Shelf.Vars
import Derived.Below
import Derived.Deep.Draws
import Derived.Deep.AppendLies
import Derived.Maps.AppendAt
import Derived.OwnWalk
import Derived.Laws.BytesArg
import Derived.Laws.MakeOwn
import Derived.Laws.OwnMore
import Derived.Deep.OwnRows
import Derived.Tactics
import Derived.Lib.ConvBytes
import Derived.Laws.Slices
import Derived.WalkKit
import Derived.KernelRfl
import Derived.RowKit3
import Derived.Deep.LoopGhost
import Derived.Deep.QuietTactic
import Derived.BigQuiet
import Derived.WideLaws
import Derived.Deep.DeepCutAuto
import Derived.Deep.CutBlock
import Derived.Deep.RegionHeld3
import Derived.Laws.Rows
import Derived.Lib.AppendStr
import Derived.ArgAppend
import Derived.Laws.IdiomCopy
import Derived.OrdersHeld
import Derived.Laws.BitsLemmas
import Derived.RowKit
import Derived.Lib.IndexMore
import Derived.Lib.IndexAny

-- Printed by this session's wip/np.py over the kit's print program. Not trusted: Lean checks it.
namespace Go.Proofs.YtgdjfcmmpjcaaaaDoor.Q
open Go.RowKit Go.Proofs.YtgdjfcmmpjcaaaaDoorW.PrintWords Go.Proofs.YtgdjfcmmpjcaaaaDoorW.PrintLast Go.Proofs.YtgdjfcmmpjcaaaaDoorW.Own Go.Proofs.YtgdjfcmmpjcaaaaDoorW.PrintMore
attribute [local go_sem] max2_int min2_int max_two min_two max_three min_three max_four min_four
set_option linter.unusedVariables false
set_option linter.unusedSimpArgs false

/-! ### newellaw05_WordsParts: function 9 -/
mutual
def newellaw05_WordsParts.l0 : Nat → ByteArray → ByteArray → ByteArray → ByteArray → Int → Option (Bool)
  | 0, _, _, _, _, _ => none
  | k + 1, x2, x7, x8, x9, x10 => if x10 < (x2.size : Int) then (newellaw05_WordsParts.j1 k x2 x7 x8 x9 x10 (decide (x10 < 20))) else (newellaw05_WordsParts.j1 k x2 x7 x8 x9 x10 false)
def newellaw05_WordsParts.j1 : Nat → ByteArray → ByteArray → ByteArray → ByteArray → Int → Bool → Option (Bool)
  | 0, _, _, _, _, _, _ => none
  | k + 1, x2, x7, x8, x9, x10, x31 => if x31 = true then (if 0 ≤ x10 then (if x10 < (x2.size : Int) then (if (bt x2 x10) ≥ 97 then (if (bt x2 x10) ≤ 122 then (if x10 ≤ (wrap64 (x10 + 1)) then (if (wrap64 (x10 + 1)) ≤ (x2.size : Int) then (if x9.size + (x2.extract (x10 : Int).toNat ((wrap64 (x10 + 1)) : Int).toNat).size ≤ 9223372036854775807 then (newellaw05_WordsParts.l0 k x2 x7 x8 (x9 ++ (x2.extract (x10 : Int).toNat ((wrap64 (x10 + 1)) : Int).toNat)) (wrap64 (x10 + 1))) else (none)) else (none)) else (none)) else (newellaw05_WordsParts.l0 k x2 x7 x8 x9 (wrap64 (x10 + 1)))) else (newellaw05_WordsParts.l0 k x2 x7 x8 x9 (wrap64 (x10 + 1)))) else (none)) else (none)) else (if x7.size + x9.size ≤ 9223372036854775807 then (if (x7 ++ x9).size + x8.size ≤ 9223372036854775807 then ((words_Split.f k ((x7 ++ x9) ++ x8)).bind fun t368 => ((newellaw05_awake.f k).bind fun t371 => (if t371 = true then (if x7.size + 1 ≤ 9223372036854775807 then (if (x7 ++ (⟨#[45]⟩ : ByteArray)).size + x9.size ≤ 9223372036854775807 then (if ((x7 ++ (⟨#[45]⟩ : ByteArray)) ++ x9).size + 1 ≤ 9223372036854775807 then (if (((x7 ++ (⟨#[45]⟩ : ByteArray)) ++ x9) ++ (⟨#[45]⟩ : ByteArray)).size + x8.size ≤ 9223372036854775807 then ((words_Split.f k ((((x7 ++ (⟨#[45]⟩ : ByteArray)) ++ x9) ++ (⟨#[45]⟩ : ByteArray)) ++ x8)).bind fun t372 => ((api_Word_30.f k t368 t372).bind fun t375 => (if t375 = true then (if (x7 ++ (⟨#[46]⟩ : ByteArray)).size + x9.size ≤ 9223372036854775807 then (if ((x7 ++ (⟨#[46]⟩ : ByteArray)) ++ x9).size + 1 ≤ 9223372036854775807 then (if (((x7 ++ (⟨#[46]⟩ : ByteArray)) ++ x9) ++ (⟨#[45]⟩ : ByteArray)).size + x8.size ≤ 9223372036854775807 then ((words_Split.f k ((((x7 ++ (⟨#[46]⟩ : ByteArray)) ++ x9) ++ (⟨#[45]⟩ : ByteArray)) ++ x8)).bind fun t376 => ((api_Word_30.f k t368 t376).bind fun t379 => (if t379 = true then (if (x7 ++ (⟨#[46]⟩ : ByteArray)).size + x8.size ≤ 9223372036854775807 then ((words_Split.f k ((x7 ++ (⟨#[46]⟩ : ByteArray)) ++ x8)).bind fun t380 => (if (t380.length : Int) = 2 then ((words_Split.f k ((x7 ++ (⟨#[46]⟩ : ByteArray)) ++ x8)).bind fun t383 => (if (x7 ++ (⟨#[45]⟩ : ByteArray)).size + x8.size ≤ 9223372036854775807 then ((words_Split.f k ((x7 ++ (⟨#[45]⟩ : ByteArray)) ++ x8)).bind fun t386 => ((api_Word_30.f k t383 t386).bind fun t389 => (if t389 = true then (some false) else (if x7.size + x8.size ≤ 9223372036854775807 then ((words_Split.f k (x7 ++ x8)).bind fun t390 => (some ((t390.length : Int) == 1))) else (none))))) else (none))) else (some false))) else (none)) else (some false)))) else (none)) else (none)) else (none)) else (some false)))) else (none)) else (none)) else (none)) else (none)) else (some false)))) else (none)) else (none))
end
def newellaw05_WordsParts.f (k : Nat) (a0 : Int) (a1 : Int) (a2 : ByteArray) : Option (Bool) := (newelhelp_Digits.f k (wrap64 (1 + (wrap64 (Int.tmod (IntKind.u64.wrap (a0)) 900))))).bind fun t366 => ((newelhelp_Digits.f k (wrap64 (1 + (wrap64 (Int.tmod (IntKind.u64.wrap (a1)) 900))))).bind fun t367 => (newellaw05_WordsParts.l0 k a2 t366 t367 (⟨#[119]⟩ : ByteArray) 0))
theorem newellaw05_WordsParts.mono_l : ∀ k, (∀ y0 y1 y2 y3 y4, LeO (newellaw05_WordsParts.l0 k y0 y1 y2 y3 y4) (newellaw05_WordsParts.l0 (k + 1) y0 y1 y2 y3 y4)) ∧ (∀ y0 y1 y2 y3 y4 y5, LeO (newellaw05_WordsParts.j1 k y0 y1 y2 y3 y4 y5) (newellaw05_WordsParts.j1 (k + 1) y0 y1 y2 y3 y4 y5))
  | 0 => ⟨fun _ _ _ _ _ r h => by simp [newellaw05_WordsParts.l0] at h, fun _ _ _ _ _ _ r h => by simp [newellaw05_WordsParts.j1] at h⟩
  | k + 1 => by
    obtain ⟨ih0, ih1⟩ := newellaw05_WordsParts.mono_l k
    refine ⟨?_, ?_⟩
    · intro y0 y1 y2 y3 y4
      unfold newellaw05_WordsParts.l0
      repeat' first
      | (with_reducible exact ih0 _ _ _ _ _)
      | (with_reducible exact ih1 _ _ _ _ _ _)
      | (with_reducible exact api_Word_30.mono _ _ _)
      | (with_reducible exact newelhelp_Digits.mono _ _)
      | (with_reducible exact newellaw05_awake.mono _)
      | (with_reducible exact words_Split.mono _ _)
      | (with_reducible exact LeO.refl _)
      | (with_reducible exact LeO.none _)
      | (with_reducible refine LeO.ite ?_ ?_)
      | (with_reducible refine LeO.bind ?_ (fun _ => ?_))
      | exact ih0 _ _ _ _ _
      | exact ih1 _ _ _ _ _ _
      | exact api_Word_30.mono _ _ _
      | exact newelhelp_Digits.mono _ _
      | exact newellaw05_awake.mono _
      | exact words_Split.mono _ _
      | exact LeO.none _
      | refine LeO.ite ?_ ?_
      | refine LeO.bind ?_ (fun _ => ?_)
    · intro y0 y1 y2 y3 y4 y5
      unfold newellaw05_WordsParts.j1
      repeat' first
      | (with_reducible exact ih0 _ _ _ _ _)
      | (with_reducible exact ih1 _ _ _ _ _ _)
      | (with_reducible exact api_Word_30.mono _ _ _)
      | (with_reducible exact newelhelp_Digits.mono _ _)
      | (with_reducible exact newellaw05_awake.mono _)
      | (with_reducible exact words_Split.mono _ _)
      | (with_reducible exact LeO.refl _)
      | (with_reducible exact LeO.none _)
      | (with_reducible refine LeO.ite ?_ ?_)
      | (with_reducible refine LeO.bind ?_ (fun _ => ?_))
      | exact ih0 _ _ _ _ _
      | exact ih1 _ _ _ _ _ _
      | exact api_Word_30.mono _ _ _
      | exact newelhelp_Digits.mono _ _
      | exact newellaw05_awake.mono _
      | exact words_Split.mono _ _
      | exact LeO.none _
      | refine LeO.ite ?_ ?_
      | refine LeO.bind ?_ (fun _ => ?_)
theorem newellaw05_WordsParts.mono : ∀ a0 a1 a2 k, LeO (newellaw05_WordsParts.f k a0 a1 a2) (newellaw05_WordsParts.f (k + 1) a0 a1 a2) := by
  intro a0 a1 a2 k
  obtain ⟨ih0, ih1⟩ := newellaw05_WordsParts.mono_l k
  unfold newellaw05_WordsParts.f
  repeat' first
      | (with_reducible exact ih0 _ _ _ _ _)
      | (with_reducible exact ih1 _ _ _ _ _ _)
      | (with_reducible exact api_Word_30.mono _ _ _)
      | (with_reducible exact newelhelp_Digits.mono _ _)
      | (with_reducible exact newellaw05_awake.mono _)
      | (with_reducible exact words_Split.mono _ _)
      | (with_reducible exact LeO.refl _)
      | (with_reducible exact LeO.none _)
      | (with_reducible refine LeO.ite ?_ ?_)
      | (with_reducible refine LeO.bind ?_ (fun _ => ?_))
      | exact ih0 _ _ _ _ _
      | exact ih1 _ _ _ _ _ _
      | exact api_Word_30.mono _ _ _
      | exact newelhelp_Digits.mono _ _
      | exact newellaw05_awake.mono _
      | exact words_Split.mono _ _
      | exact LeO.none _
      | refine LeO.ite ?_ ?_
      | refine LeO.bind ?_ (fun _ => ?_)
set_option maxHeartbeats 8000000 in
set_option maxRecDepth 100000 in
theorem newellaw05_WordsParts.calls (k : Nat) (a0 : Int) (a1 : Int) (a2 : ByteArray) (r : Bool) (w : World) (hG : Glob w) (h : newellaw05_WordsParts.f k a0 a1 a2 = some r) (hr_ : r = true) :
    Calls Tryd.prog 9 #[.int .i64 a0, .int .i64 a1, .string a2] w fun e w' => e = .returned (.bool r) ∧ Below w.heap.size w w' := by
  have HG := Aside0.mk hG
  clear hG
  have HB := Aside0.mk (Below.refl w.heap.size w)
  have H : ((newelhelp_Digits.f k (wrap64 (1 + (wrap64 (Int.tmod (IntKind.u64.wrap (a0)) 900))))).bind fun t366 => ((newelhelp_Digits.f k (wrap64 (1 + (wrap64 (Int.tmod (IntKind.u64.wrap (a1)) 900))))).bind fun t367 => (newellaw05_WordsParts.l0 k a2 t366 t367 (⟨#[119]⟩ : ByteArray) 0))) = some r := h
  clear h
  replace H := Option.bind_eq_some_iff.mp H
  obtain ⟨t366, A40, H⟩ := H
  replace H : ((newelhelp_Digits.f k (wrap64 (1 + (wrap64 (Int.tmod (IntKind.u64.wrap (a1)) 900))))).bind fun t367 => (newellaw05_WordsParts.l0 k a2 t366 t367 (⟨#[119]⟩ : ByteArray) 0)) = some r := H
  have A4 := Aside0.mk A40
  clear A40
  replace H := Option.bind_eq_some_iff.mp H
  obtain ⟨t367, A50, H⟩ := H
  replace H : (newellaw05_WordsParts.l0 k a2 t366 t367 (⟨#[119]⟩ : ByteArray) 0) = some r := H
  have A5 := Aside0.mk A50
  clear A50
  have H' := Aside0.mk H
  clear H
  go_enter Tryd.func9, Tryd.ntmps9
  go_wp2_with (first | ((with_reducible refine gate_callee (f := 33) rfl ?_); refine goesL_ (some 17) rfl rfl Tryd.func33 (by kernel_rfl) rfl #[.int .i64 (wrap64 (1 + (wrap64 (Int.tmod (IntKind.u64.wrap (a0)) 900))))] rfl (by (try simp only [List.map_toArray, List.map_cons, List.map_nil]); first | done | rfl | (simp only [List.length_drop, List.length_take]; rfl)) ?_; (with_reducible refine (newelhelp_Digits.calls k (wrap64 (1 + (wrap64 (Int.tmod (IntKind.u64.wrap (a0)) 900)))) t366 _ ?side1 A4.out).mono ?_); (case side1 => exact Glob.step HG.out (by repeat (first | (with_reducible first | exact HB.out | apply below_alloc | apply pw_below_drewN | apply below_drew1) | exact HB.out))); rintro e w6 ⟨rfl, hb⟩; refine ⟨_, rfl, ?_⟩; have n0_ := Aside0.mk (below_step (by repeat (first | (with_reducible first | exact HB.out | apply below_alloc | apply pw_below_drewN | apply below_drew1) | exact HB.out)) hb); clear HB; have HB := n0_; clear n0_; (try clear hb); (try clear hb2); (try clear hk); (try clear hi)) | ((with_reducible refine gate_callee (f := 33) rfl ?_); refine goesL_ (some 23) rfl rfl Tryd.func33 (by kernel_rfl) rfl #[.int .i64 (wrap64 (1 + (wrap64 (Int.tmod (IntKind.u64.wrap (a1)) 900))))] rfl (by (try simp only [List.map_toArray, List.map_cons, List.map_nil]); first | done | rfl | (simp only [List.length_drop, List.length_take]; rfl)) ?_; (with_reducible refine (newelhelp_Digits.calls k (wrap64 (1 + (wrap64 (Int.tmod (IntKind.u64.wrap (a1)) 900)))) t367 _ ?side1 A5.out).mono ?_); (case side1 => exact Glob.step HG.out (by repeat (first | (with_reducible first | exact HB.out | apply below_alloc | apply pw_below_drewN | apply below_drew1) | exact HB.out))); rintro e w7 ⟨rfl, hb⟩; refine ⟨_, rfl, ?_⟩; have n0_ := Aside0.mk (below_step (by repeat (first | (with_reducible first | exact HB.out | apply below_alloc | apply pw_below_drewN | apply below_drew1) | exact HB.out)) hb); clear HB; have HB := n0_; clear n0_; (try clear hb); (try clear hb2); (try clear hk); (try clear hi)))
  (try simp only [Act.put, List.setIfInBounds_toArray, List.set_cons_zero, List.set_cons_succ])
  go_loopg [9, 10] k (fun kq v9 v10 w' => ∃ (x9_1 : ByteArray) (x10_1 : Int), v9 = .string x9_1 ∧ v10 = .int .i64 x10_1 ∧ Aside0 (newellaw05_WordsParts.l0 kq a2 t366 t367 x9_1 x10_1 = some r) ∧ Aside0 (kq ≤ k) ∧ Aside0 (Below w.heap.size w w'))
  case atStart => exact ⟨((⟨#[119]⟩ : ByteArray)), (0), (by first | rfl | (simp; done) | (simp [*]; done) | (simp; exact isEmpty_bne _)), (by first | rfl | (simp; done) | (simp [*]; done) | (simp; exact isEmpty_bne _)), H', ⟨Nat.le_refl _⟩, ⟨by repeat (first | (with_reducible first | exact HB.out | apply below_alloc | apply pw_below_drewN | apply below_drew1) | exact HB.out)⟩⟩
  case round =>
    clear H'
    try clear p2
    try clear c3
    try clear p6
    obtain ⟨x9_1, x10_1, rfl, rfl, HA, HK1, HB⟩ := hrel
    cases gk with
    | zero => exact absurd HA.out (by simp [newellaw05_WordsParts.l0])
    | succ k1 =>
      have H := HA.out
      clear HA
      simp only [newellaw05_WordsParts.l0] at H
      have HC8 := Aside0.mk H
      clear H
      go_upto_region 4 with (fail)
      go_cut [31] (fun v31 wc => ∃ (kq : Nat) (x31_7 : Bool), v31 = .bool x31_7 ∧ Aside0 (newellaw05_WordsParts.j1 kq a2 t366 t367 x9_1 x10_1 x31_7 = some r) ∧ Aside0 (kq ≤ k1) ∧ Aside0 (Below w.heap.size w wc))
      case first =>
        have H := HC8.out
        clear HC8
        by_cases c9 : x10_1 < (a2.size : Int)
        · rw [if_pos c9] at H
          have c9b0 : decide (x10_1 < (a2.size : Int)) = true := decide_eq_true c9
          clear c9
          (first | rw [c9b0] | (simp only [i64_w, i32_w]; rw [c9b0]) | skip)
          have H' := Aside0.mk H
          clear H
          go_wp2
          go_meet
          case rel => exact ⟨_, (decide (x10_1 < 20)), (by first | rfl | (simp; done) | (simp [*]; done) | (simp; exact isEmpty_bne _)), H', ⟨by have := HK1.out; first | omega | exact Nat.le_refl _⟩, ⟨by repeat (first | (with_reducible first | exact HB.out | apply below_alloc | apply pw_below_drewN | apply below_drew1) | exact HB.out)⟩⟩
        · rw [if_neg c9] at H
          have c9b0 : decide (x10_1 < (a2.size : Int)) = false := decide_eq_false c9
          clear c9
          (first | rw [c9b0] | (simp only [i64_w, i32_w]; rw [c9b0]) | skip)
          have H' := Aside0.mk H
          clear H
          go_wp2
          go_meet
          case rel => exact ⟨_, (false), (by first | rfl | (simp; done) | (simp [*]; done) | (simp; exact isEmpty_bne _)), H', ⟨by have := HK1.out; first | omega | exact Nat.le_refl _⟩, ⟨by repeat (first | (with_reducible first | exact HB.out | apply below_alloc | apply pw_below_drewN | apply below_drew1) | exact HB.out)⟩⟩
      case rest =>
        clear HC8
        try clear p2
        try clear c3
        try clear p6
        try clear c9
        try clear c9b0
        try clear p2
        try clear p6
        obtain ⟨kq, x31_7, rfl, HA, HJ7, HB⟩ := hcut
        cases kq with
        | zero => exact absurd HA.out (by simp [newellaw05_WordsParts.j1])
        | succ kj7 =>
          have H := HA.out
          clear HA
          simp only [newellaw05_WordsParts.j1] at H
          by_cases c10 : x31_7 = true
          · subst c10
            have H1 : (if 0 ≤ x10_1 then (if x10_1 < (a2.size : Int) then (if (bt a2 x10_1) ≥ 97 then (if (bt a2 x10_1) ≤ 122 then (if x10_1 ≤ (wrap64 (x10_1 + 1)) then (if (wrap64 (x10_1 + 1)) ≤ (a2.size : Int) then (if x9_1.size + (a2.extract (x10_1 : Int).toNat ((wrap64 (x10_1 + 1)) : Int).toNat).size ≤ 9223372036854775807 then (newellaw05_WordsParts.l0 kj7 a2 t366 t367 (x9_1 ++ (a2.extract (x10_1 : Int).toNat ((wrap64 (x10_1 + 1)) : Int).toNat)) (wrap64 (x10_1 + 1))) else (none)) else (none)) else (none)) else (newellaw05_WordsParts.l0 kj7 a2 t366 t367 x9_1 (wrap64 (x10_1 + 1)))) else (newellaw05_WordsParts.l0 kj7 a2 t366 t367 x9_1 (wrap64 (x10_1 + 1)))) else (none)) else (none)) = some r := by rw [if_pos rfl] at H; exact H
            clear H
            have H := H1
            clear H1
            by_cases c11 : 0 ≤ x10_1
            · rw [if_pos c11] at H
              have c11b0 : decide (0 ≤ x10_1) = true := decide_eq_true c11
              clear c11
              by_cases c12 : x10_1 < (a2.size : Int)
              · rw [if_pos c12] at H
                have c12b0 : decide (x10_1 < (a2.size : Int)) = true := decide_eq_true c12
                clear c12
                by_cases c14 : (bt a2 x10_1) ≥ 97
                · rw [if_pos c14] at H
                  have c14b0 : decide (97 ≤ (bt a2 x10_1)) = true := decide_eq_true c14
                  clear c14
                  by_cases c16 : (bt a2 x10_1) ≤ 122
                  · rw [if_pos c16] at H
                    have c16b0 : decide ((bt a2 x10_1) ≤ 122) = true := decide_eq_true c16
                    clear c16
                    have c17b0 := eq_true (of_decide_eq_true (by first | (with_reducible assumption) | assumption) : 0 ≤ x10_1)
                    by_cases c18 : x10_1 ≤ (wrap64 (x10_1 + 1))
                    · rw [if_pos c18] at H
                      have c18b0 := eq_true c18
                      have c18b1 : decide (x10_1 ≤ (wrap64 (x10_1 + 1))) = true := decide_eq_true c18
                      by_cases c19 : (wrap64 (x10_1 + 1)) ≤ (a2.size : Int)
                      · rw [if_pos c19] at H
                        have c19b0 := eq_true c19
                        have c19b1 : decide ((wrap64 (x10_1 + 1)) ≤ (a2.size : Int)) = true := decide_eq_true c19
                        by_cases c20 : x9_1.size + (a2.extract (x10_1 : Int).toNat ((wrap64 (x10_1 + 1)) : Int).toNat).size ≤ 9223372036854775807
                        · rw [if_pos c20] at H
                          have c20b0 := eq_true c20
                          have c20b1 : decide (x9_1.size + (a2.extract (x10_1 : Int).toNat ((wrap64 (x10_1 + 1)) : Int).toNat).size ≤ 9223372036854775807) = true := decide_eq_true c20
                          try have c20b2 : (9223372036854775807 < x9_1.size + (a2.extract (x10_1 : Int).toNat ((wrap64 (x10_1 + 1)) : Int).toNat).size) = False := eq_false (Nat.not_lt.2 c20)
                          try have c20q : (9223372036854775807 < x9_1.size + (((wrap64 (x10_1 + 1)) : Int).toNat - (x10_1 : Int).toNat)) = False := eq_false (by have z_ := c20; have y_ : ((wrap64 (x10_1 + 1)) : Int) ≤ ((a2).size : Int) := of_decide_eq_true (by assumption); simp only [ByteArray.size_extract] at z_; omega)
                          have H' := Aside0.mk H
                          clear H
                          have p13 : 0 ≤ (x10_1 : Int) := of_decide_eq_true (by first | (with_reducible assumption) | assumption)
                          have q13 : x10_1 < (a2.size : Int) := of_decide_eq_true (by first | (with_reducible assumption) | assumption)
                          have hx13 := bt_at a2 x10_1
                          replace p13 := eq_true p13
                          replace q13 := eq_true q13
                          have p15 : 0 ≤ (x10_1 : Int) := of_decide_eq_true (by first | (with_reducible assumption) | assumption)
                          have q15 : x10_1 < (a2.size : Int) := of_decide_eq_true (by first | (with_reducible assumption) | assumption)
                          have hx15 := bt_at a2 x10_1
                          replace p15 := eq_true p15
                          replace q15 := eq_true q15
                          go_wp2
                          go_roundg kj7
                          case measure => have := HK1.out; have := HJ7.out; omega
                          case rel => exact ⟨(x9_1 ++ (a2.extract (x10_1 : Int).toNat ((wrap64 (x10_1 + 1)) : Int).toNat)), (wrap64 (x10_1 + 1)), (by first | rfl | (simp; done) | (simp [*]; done) | (simp; exact isEmpty_bne _)), (by first | rfl | (simp; done) | (simp [*]; done) | (simp; exact isEmpty_bne _)), H', ⟨by have := HK1.out; have := HJ7.out; omega⟩, ⟨by repeat (first | (with_reducible first | exact HB.out | apply below_alloc | apply pw_below_drewN | apply below_drew1) | exact HB.out)⟩⟩
                        · rw [if_neg c20] at H
                          exact absurd H (by simp)
                      · rw [if_neg c19] at H
                        exact absurd H (by simp)
                    · rw [if_neg c18] at H
                      exact absurd H (by simp)
                  · rw [if_neg c16] at H
                    have c16b0 : decide ((bt a2 x10_1) ≤ 122) = false := decide_eq_false c16
                    clear c16
                    have H' := Aside0.mk H
                    clear H
                    have p13 : 0 ≤ (x10_1 : Int) := of_decide_eq_true (by first | (with_reducible assumption) | assumption)
                    have q13 : x10_1 < (a2.size : Int) := of_decide_eq_true (by first | (with_reducible assumption) | assumption)
                    have hx13 := bt_at a2 x10_1
                    replace p13 := eq_true p13
                    replace q13 := eq_true q13
                    have p15 : 0 ≤ (x10_1 : Int) := of_decide_eq_true (by first | (with_reducible assumption) | assumption)
                    have q15 : x10_1 < (a2.size : Int) := of_decide_eq_true (by first | (with_reducible assumption) | assumption)
                    have hx15 := bt_at a2 x10_1
                    replace p15 := eq_true p15
                    replace q15 := eq_true q15
                    go_wp2
                    go_roundg kj7
                    case measure => have := HK1.out; have := HJ7.out; omega
                    case rel => exact ⟨(x9_1), (wrap64 (x10_1 + 1)), (by first | rfl | (simp; done) | (simp [*]; done) | (simp; exact isEmpty_bne _)), (by first | rfl | (simp; done) | (simp [*]; done) | (simp; exact isEmpty_bne _)), H', ⟨by have := HK1.out; have := HJ7.out; omega⟩, ⟨by repeat (first | (with_reducible first | exact HB.out | apply below_alloc | apply pw_below_drewN | apply below_drew1) | exact HB.out)⟩⟩
                · rw [if_neg c14] at H
                  have c14b0 : decide (97 ≤ (bt a2 x10_1)) = false := decide_eq_false c14
                  clear c14
                  have H' := Aside0.mk H
                  clear H
                  have p13 : 0 ≤ (x10_1 : Int) := of_decide_eq_true (by first | (with_reducible assumption) | assumption)
                  have q13 : x10_1 < (a2.size : Int) := of_decide_eq_true (by first | (with_reducible assumption) | assumption)
                  have hx13 := bt_at a2 x10_1
                  replace p13 := eq_true p13
                  replace q13 := eq_true q13
                  go_wp2
                  go_roundg kj7
                  case measure => have := HK1.out; have := HJ7.out; omega
                  case rel => exact ⟨(x9_1), (wrap64 (x10_1 + 1)), (by first | rfl | (simp; done) | (simp [*]; done) | (simp; exact isEmpty_bne _)), (by first | rfl | (simp; done) | (simp [*]; done) | (simp; exact isEmpty_bne _)), H', ⟨by have := HK1.out; have := HJ7.out; omega⟩, ⟨by repeat (first | (with_reducible first | exact HB.out | apply below_alloc | apply pw_below_drewN | apply below_drew1) | exact HB.out)⟩⟩
              · rw [if_neg c12] at H
                exact absurd H (by simp)
            · rw [if_neg c11] at H
              exact absurd H (by simp)
          · replace c10 := Bool.eq_false_iff.mpr c10
            subst c10
            have H1 : (if t366.size + x9_1.size ≤ 9223372036854775807 then (if (t366 ++ x9_1).size + t367.size ≤ 9223372036854775807 then ((words_Split.f kj7 ((t366 ++ x9_1) ++ t367)).bind fun t368 => ((newellaw05_awake.f kj7).bind fun t371 => (if t371 = true then (if t366.size + 1 ≤ 9223372036854775807 then (if (t366 ++ (⟨#[45]⟩ : ByteArray)).size + x9_1.size ≤ 9223372036854775807 then (if ((t366 ++ (⟨#[45]⟩ : ByteArray)) ++ x9_1).size + 1 ≤ 9223372036854775807 then (if (((t366 ++ (⟨#[45]⟩ : ByteArray)) ++ x9_1) ++ (⟨#[45]⟩ : ByteArray)).size + t367.size ≤ 9223372036854775807 then ((words_Split.f kj7 ((((t366 ++ (⟨#[45]⟩ : ByteArray)) ++ x9_1) ++ (⟨#[45]⟩ : ByteArray)) ++ t367)).bind fun t372 => ((api_Word_30.f kj7 t368 t372).bind fun t375 => (if t375 = true then (if (t366 ++ (⟨#[46]⟩ : ByteArray)).size + x9_1.size ≤ 9223372036854775807 then (if ((t366 ++ (⟨#[46]⟩ : ByteArray)) ++ x9_1).size + 1 ≤ 9223372036854775807 then (if (((t366 ++ (⟨#[46]⟩ : ByteArray)) ++ x9_1) ++ (⟨#[45]⟩ : ByteArray)).size + t367.size ≤ 9223372036854775807 then ((words_Split.f kj7 ((((t366 ++ (⟨#[46]⟩ : ByteArray)) ++ x9_1) ++ (⟨#[45]⟩ : ByteArray)) ++ t367)).bind fun t376 => ((api_Word_30.f kj7 t368 t376).bind fun t379 => (if t379 = true then (if (t366 ++ (⟨#[46]⟩ : ByteArray)).size + t367.size ≤ 9223372036854775807 then ((words_Split.f kj7 ((t366 ++ (⟨#[46]⟩ : ByteArray)) ++ t367)).bind fun t380 => (if (t380.length : Int) = 2 then ((words_Split.f kj7 ((t366 ++ (⟨#[46]⟩ : ByteArray)) ++ t367)).bind fun t383 => (if (t366 ++ (⟨#[45]⟩ : ByteArray)).size + t367.size ≤ 9223372036854775807 then ((words_Split.f kj7 ((t366 ++ (⟨#[45]⟩ : ByteArray)) ++ t367)).bind fun t386 => ((api_Word_30.f kj7 t383 t386).bind fun t389 => (if t389 = true then (some false) else (if t366.size + t367.size ≤ 9223372036854775807 then ((words_Split.f kj7 (t366 ++ t367)).bind fun t390 => (some ((t390.length : Int) == 1))) else (none))))) else (none))) else (some false))) else (none)) else (some false)))) else (none)) else (none)) else (none)) else (some false)))) else (none)) else (none)) else (none)) else (none)) else (some false)))) else (none)) else (none)) = some r := by rw [if_neg (show ¬ (false = true) by decide)] at H; exact H
            clear H
            have H := H1
            clear H1
            by_cases c21 : t366.size + x9_1.size ≤ 9223372036854775807
            · rw [if_pos c21] at H
              have c21b0 := eq_true c21
              have c21b1 : decide (t366.size + x9_1.size ≤ 9223372036854775807) = true := decide_eq_true c21
              try have c21b2 : (9223372036854775807 < t366.size + x9_1.size) = False := eq_false (Nat.not_lt.2 c21)
              by_cases c22 : (t366 ++ x9_1).size + t367.size ≤ 9223372036854775807
              · rw [if_pos c22] at H
                have c22b0 := eq_true c22
                have c22b1 : decide ((t366 ++ x9_1).size + t367.size ≤ 9223372036854775807) = true := decide_eq_true c22
                try have c22b2 : (9223372036854775807 < (t366 ++ x9_1).size + t367.size) = False := eq_false (Nat.not_lt.2 c22)
                have c22n : (t366.size + x9_1.size) + t367.size ≤ 9223372036854775807 := by have z_ := c22; simp only [ByteArray.size_append] at z_; exact z_
                have c22m : (9223372036854775807 < (t366.size + x9_1.size) + t367.size) = False := eq_false (Nat.not_lt.2 c22n)
                clear c22 c22b0 c22b1
                try clear c22b2
                replace H := Option.bind_eq_some_iff.mp H
                obtain ⟨t368, A230, H⟩ := H
                replace H : ((newellaw05_awake.f kj7).bind fun t371 => (if t371 = true then (if t366.size + 1 ≤ 9223372036854775807 then (if (t366 ++ (⟨#[45]⟩ : ByteArray)).size + x9_1.size ≤ 9223372036854775807 then (if ((t366 ++ (⟨#[45]⟩ : ByteArray)) ++ x9_1).size + 1 ≤ 9223372036854775807 then (if (((t366 ++ (⟨#[45]⟩ : ByteArray)) ++ x9_1) ++ (⟨#[45]⟩ : ByteArray)).size + t367.size ≤ 9223372036854775807 then ((words_Split.f kj7 ((((t366 ++ (⟨#[45]⟩ : ByteArray)) ++ x9_1) ++ (⟨#[45]⟩ : ByteArray)) ++ t367)).bind fun t372 => ((api_Word_30.f kj7 t368 t372).bind fun t375 => (if t375 = true then (if (t366 ++ (⟨#[46]⟩ : ByteArray)).size + x9_1.size ≤ 9223372036854775807 then (if ((t366 ++ (⟨#[46]⟩ : ByteArray)) ++ x9_1).size + 1 ≤ 9223372036854775807 then (if (((t366 ++ (⟨#[46]⟩ : ByteArray)) ++ x9_1) ++ (⟨#[45]⟩ : ByteArray)).size + t367.size ≤ 9223372036854775807 then ((words_Split.f kj7 ((((t366 ++ (⟨#[46]⟩ : ByteArray)) ++ x9_1) ++ (⟨#[45]⟩ : ByteArray)) ++ t367)).bind fun t376 => ((api_Word_30.f kj7 t368 t376).bind fun t379 => (if t379 = true then (if (t366 ++ (⟨#[46]⟩ : ByteArray)).size + t367.size ≤ 9223372036854775807 then ((words_Split.f kj7 ((t366 ++ (⟨#[46]⟩ : ByteArray)) ++ t367)).bind fun t380 => (if (t380.length : Int) = 2 then ((words_Split.f kj7 ((t366 ++ (⟨#[46]⟩ : ByteArray)) ++ t367)).bind fun t383 => (if (t366 ++ (⟨#[45]⟩ : ByteArray)).size + t367.size ≤ 9223372036854775807 then ((words_Split.f kj7 ((t366 ++ (⟨#[45]⟩ : ByteArray)) ++ t367)).bind fun t386 => ((api_Word_30.f kj7 t383 t386).bind fun t389 => (if t389 = true then (some false) else (if t366.size + t367.size ≤ 9223372036854775807 then ((words_Split.f kj7 (t366 ++ t367)).bind fun t390 => (some ((t390.length : Int) == 1))) else (none))))) else (none))) else (some false))) else (none)) else (some false)))) else (none)) else (none)) else (none)) else (some false)))) else (none)) else (none)) else (none)) else (none)) else (some false))) = some r := H
                have A23 := Aside0.mk A230
                clear A230
                replace H := Option.bind_eq_some_iff.mp H
                obtain ⟨t371, A240, H⟩ := H
                replace H : (if t371 = true then (if t366.size + 1 ≤ 9223372036854775807 then (if (t366 ++ (⟨#[45]⟩ : ByteArray)).size + x9_1.size ≤ 9223372036854775807 then (if ((t366 ++ (⟨#[45]⟩ : ByteArray)) ++ x9_1).size + 1 ≤ 9223372036854775807 then (if (((t366 ++ (⟨#[45]⟩ : ByteArray)) ++ x9_1) ++ (⟨#[45]⟩ : ByteArray)).size + t367.size ≤ 9223372036854775807 then ((words_Split.f kj7 ((((t366 ++ (⟨#[45]⟩ : ByteArray)) ++ x9_1) ++ (⟨#[45]⟩ : ByteArray)) ++ t367)).bind fun t372 => ((api_Word_30.f kj7 t368 t372).bind fun t375 => (if t375 = true then (if (t366 ++ (⟨#[46]⟩ : ByteArray)).size + x9_1.size ≤ 9223372036854775807 then (if ((t366 ++ (⟨#[46]⟩ : ByteArray)) ++ x9_1).size + 1 ≤ 9223372036854775807 then (if (((t366 ++ (⟨#[46]⟩ : ByteArray)) ++ x9_1) ++ (⟨#[45]⟩ : ByteArray)).size + t367.size ≤ 9223372036854775807 then ((words_Split.f kj7 ((((t366 ++ (⟨#[46]⟩ : ByteArray)) ++ x9_1) ++ (⟨#[45]⟩ : ByteArray)) ++ t367)).bind fun t376 => ((api_Word_30.f kj7 t368 t376).bind fun t379 => (if t379 = true then (if (t366 ++ (⟨#[46]⟩ : ByteArray)).size + t367.size ≤ 9223372036854775807 then ((words_Split.f kj7 ((t366 ++ (⟨#[46]⟩ : ByteArray)) ++ t367)).bind fun t380 => (if (t380.length : Int) = 2 then ((words_Split.f kj7 ((t366 ++ (⟨#[46]⟩ : ByteArray)) ++ t367)).bind fun t383 => (if (t366 ++ (⟨#[45]⟩ : ByteArray)).size + t367.size ≤ 9223372036854775807 then ((words_Split.f kj7 ((t366 ++ (⟨#[45]⟩ : ByteArray)) ++ t367)).bind fun t386 => ((api_Word_30.f kj7 t383 t386).bind fun t389 => (if t389 = true then (some false) else (if t366.size + t367.size ≤ 9223372036854775807 then ((words_Split.f kj7 (t366 ++ t367)).bind fun t390 => (some ((t390.length : Int) == 1))) else (none))))) else (none))) else (some false))) else (none)) else (some false)))) else (none)) else (none)) else (none)) else (some false)))) else (none)) else (none)) else (none)) else (none)) else (some false)) = some r := H
                have A24 := Aside0.mk A240
                clear A240
                by_cases c25 : t371 = true
                · subst c25
                  have H1 : (if t366.size + 1 ≤ 9223372036854775807 then (if (t366 ++ (⟨#[45]⟩ : ByteArray)).size + x9_1.size ≤ 9223372036854775807 then (if ((t366 ++ (⟨#[45]⟩ : ByteArray)) ++ x9_1).size + 1 ≤ 9223372036854775807 then (if (((t366 ++ (⟨#[45]⟩ : ByteArray)) ++ x9_1) ++ (⟨#[45]⟩ : ByteArray)).size + t367.size ≤ 9223372036854775807 then ((words_Split.f kj7 ((((t366 ++ (⟨#[45]⟩ : ByteArray)) ++ x9_1) ++ (⟨#[45]⟩ : ByteArray)) ++ t367)).bind fun t372 => ((api_Word_30.f kj7 t368 t372).bind fun t375 => (if t375 = true then (if (t366 ++ (⟨#[46]⟩ : ByteArray)).size + x9_1.size ≤ 9223372036854775807 then (if ((t366 ++ (⟨#[46]⟩ : ByteArray)) ++ x9_1).size + 1 ≤ 9223372036854775807 then (if (((t366 ++ (⟨#[46]⟩ : ByteArray)) ++ x9_1) ++ (⟨#[45]⟩ : ByteArray)).size + t367.size ≤ 9223372036854775807 then ((words_Split.f kj7 ((((t366 ++ (⟨#[46]⟩ : ByteArray)) ++ x9_1) ++ (⟨#[45]⟩ : ByteArray)) ++ t367)).bind fun t376 => ((api_Word_30.f kj7 t368 t376).bind fun t379 => (if t379 = true then (if (t366 ++ (⟨#[46]⟩ : ByteArray)).size + t367.size ≤ 9223372036854775807 then ((words_Split.f kj7 ((t366 ++ (⟨#[46]⟩ : ByteArray)) ++ t367)).bind fun t380 => (if (t380.length : Int) = 2 then ((words_Split.f kj7 ((t366 ++ (⟨#[46]⟩ : ByteArray)) ++ t367)).bind fun t383 => (if (t366 ++ (⟨#[45]⟩ : ByteArray)).size + t367.size ≤ 9223372036854775807 then ((words_Split.f kj7 ((t366 ++ (⟨#[45]⟩ : ByteArray)) ++ t367)).bind fun t386 => ((api_Word_30.f kj7 t383 t386).bind fun t389 => (if t389 = true then (some false) else (if t366.size + t367.size ≤ 9223372036854775807 then ((words_Split.f kj7 (t366 ++ t367)).bind fun t390 => (some ((t390.length : Int) == 1))) else (none))))) else (none))) else (some false))) else (none)) else (some false)))) else (none)) else (none)) else (none)) else (some false)))) else (none)) else (none)) else (none)) else (none)) = some r := by rw [if_pos rfl] at H; exact H
                  clear H
                  have H := H1
                  clear H1
                  by_cases c26 : t366.size + 1 ≤ 9223372036854775807
                  · rw [if_pos c26] at H
                    have c26b0 := eq_true c26
                    have c26b1 : decide (t366.size + 1 ≤ 9223372036854775807) = true := decide_eq_true c26
                    try have c26b2 : (9223372036854775807 < t366.size + 1) = False := eq_false (Nat.not_lt.2 c26)
                    by_cases c27 : (t366 ++ (⟨#[45]⟩ : ByteArray)).size + x9_1.size ≤ 9223372036854775807
                    · rw [if_pos c27] at H
                      have c27b0 := eq_true c27
                      have c27b1 : decide ((t366 ++ (⟨#[45]⟩ : ByteArray)).size + x9_1.size ≤ 9223372036854775807) = true := decide_eq_true c27
                      try have c27b2 : (9223372036854775807 < (t366 ++ (⟨#[45]⟩ : ByteArray)).size + x9_1.size) = False := eq_false (Nat.not_lt.2 c27)
                      have c27n : (t366.size + 1) + x9_1.size ≤ 9223372036854775807 := by have z_ := c27; simp only [ByteArray.size_append] at z_; exact z_
                      have c27m : (9223372036854775807 < (t366.size + 1) + x9_1.size) = False := eq_false (Nat.not_lt.2 c27n)
                      clear c27 c27b0 c27b1
                      try clear c27b2
                      by_cases c28 : ((t366 ++ (⟨#[45]⟩ : ByteArray)) ++ x9_1).size + 1 ≤ 9223372036854775807
                      · rw [if_pos c28] at H
                        have c28b0 := eq_true c28
                        have c28b1 : decide (((t366 ++ (⟨#[45]⟩ : ByteArray)) ++ x9_1).size + 1 ≤ 9223372036854775807) = true := decide_eq_true c28
                        try have c28b2 : (9223372036854775807 < ((t366 ++ (⟨#[45]⟩ : ByteArray)) ++ x9_1).size + 1) = False := eq_false (Nat.not_lt.2 c28)
                        have c28n : ((t366.size + 1) + x9_1.size) + 1 ≤ 9223372036854775807 := by have z_ := c28; simp only [ByteArray.size_append] at z_; exact z_
                        have c28m : (9223372036854775807 < ((t366.size + 1) + x9_1.size) + 1) = False := eq_false (Nat.not_lt.2 c28n)
                        clear c28 c28b0 c28b1
                        try clear c28b2
                        by_cases c29 : (((t366 ++ (⟨#[45]⟩ : ByteArray)) ++ x9_1) ++ (⟨#[45]⟩ : ByteArray)).size + t367.size ≤ 9223372036854775807
                        · rw [if_pos c29] at H
                          have c29b0 := eq_true c29
                          have c29b1 : decide ((((t366 ++ (⟨#[45]⟩ : ByteArray)) ++ x9_1) ++ (⟨#[45]⟩ : ByteArray)).size + t367.size ≤ 9223372036854775807) = true := decide_eq_true c29
                          try have c29b2 : (9223372036854775807 < (((t366 ++ (⟨#[45]⟩ : ByteArray)) ++ x9_1) ++ (⟨#[45]⟩ : ByteArray)).size + t367.size) = False := eq_false (Nat.not_lt.2 c29)
                          have c29n : (((t366.size + 1) + x9_1.size) + 1) + t367.size ≤ 9223372036854775807 := by have z_ := c29; simp only [ByteArray.size_append] at z_; exact z_
                          have c29m : (9223372036854775807 < (((t366.size + 1) + x9_1.size) + 1) + t367.size) = False := eq_false (Nat.not_lt.2 c29n)
                          clear c29 c29b0 c29b1
                          try clear c29b2
                          replace H := Option.bind_eq_some_iff.mp H
                          obtain ⟨t372, A300, H⟩ := H
                          replace H : ((api_Word_30.f kj7 t368 t372).bind fun t375 => (if t375 = true then (if (t366 ++ (⟨#[46]⟩ : ByteArray)).size + x9_1.size ≤ 9223372036854775807 then (if ((t366 ++ (⟨#[46]⟩ : ByteArray)) ++ x9_1).size + 1 ≤ 9223372036854775807 then (if (((t366 ++ (⟨#[46]⟩ : ByteArray)) ++ x9_1) ++ (⟨#[45]⟩ : ByteArray)).size + t367.size ≤ 9223372036854775807 then ((words_Split.f kj7 ((((t366 ++ (⟨#[46]⟩ : ByteArray)) ++ x9_1) ++ (⟨#[45]⟩ : ByteArray)) ++ t367)).bind fun t376 => ((api_Word_30.f kj7 t368 t376).bind fun t379 => (if t379 = true then (if (t366 ++ (⟨#[46]⟩ : ByteArray)).size + t367.size ≤ 9223372036854775807 then ((words_Split.f kj7 ((t366 ++ (⟨#[46]⟩ : ByteArray)) ++ t367)).bind fun t380 => (if (t380.length : Int) = 2 then ((words_Split.f kj7 ((t366 ++ (⟨#[46]⟩ : ByteArray)) ++ t367)).bind fun t383 => (if (t366 ++ (⟨#[45]⟩ : ByteArray)).size + t367.size ≤ 9223372036854775807 then ((words_Split.f kj7 ((t366 ++ (⟨#[45]⟩ : ByteArray)) ++ t367)).bind fun t386 => ((api_Word_30.f kj7 t383 t386).bind fun t389 => (if t389 = true then (some false) else (if t366.size + t367.size ≤ 9223372036854775807 then ((words_Split.f kj7 (t366 ++ t367)).bind fun t390 => (some ((t390.length : Int) == 1))) else (none))))) else (none))) else (some false))) else (none)) else (some false)))) else (none)) else (none)) else (none)) else (some false))) = some r := H
                          have A30 := Aside0.mk A300
                          clear A300
                          replace H := Option.bind_eq_some_iff.mp H
                          obtain ⟨t375, A310, H⟩ := H
                          replace H : (if t375 = true then (if (t366 ++ (⟨#[46]⟩ : ByteArray)).size + x9_1.size ≤ 9223372036854775807 then (if ((t366 ++ (⟨#[46]⟩ : ByteArray)) ++ x9_1).size + 1 ≤ 9223372036854775807 then (if (((t366 ++ (⟨#[46]⟩ : ByteArray)) ++ x9_1) ++ (⟨#[45]⟩ : ByteArray)).size + t367.size ≤ 9223372036854775807 then ((words_Split.f kj7 ((((t366 ++ (⟨#[46]⟩ : ByteArray)) ++ x9_1) ++ (⟨#[45]⟩ : ByteArray)) ++ t367)).bind fun t376 => ((api_Word_30.f kj7 t368 t376).bind fun t379 => (if t379 = true then (if (t366 ++ (⟨#[46]⟩ : ByteArray)).size + t367.size ≤ 9223372036854775807 then ((words_Split.f kj7 ((t366 ++ (⟨#[46]⟩ : ByteArray)) ++ t367)).bind fun t380 => (if (t380.length : Int) = 2 then ((words_Split.f kj7 ((t366 ++ (⟨#[46]⟩ : ByteArray)) ++ t367)).bind fun t383 => (if (t366 ++ (⟨#[45]⟩ : ByteArray)).size + t367.size ≤ 9223372036854775807 then ((words_Split.f kj7 ((t366 ++ (⟨#[45]⟩ : ByteArray)) ++ t367)).bind fun t386 => ((api_Word_30.f kj7 t383 t386).bind fun t389 => (if t389 = true then (some false) else (if t366.size + t367.size ≤ 9223372036854775807 then ((words_Split.f kj7 (t366 ++ t367)).bind fun t390 => (some ((t390.length : Int) == 1))) else (none))))) else (none))) else (some false))) else (none)) else (some false)))) else (none)) else (none)) else (none)) else (some false)) = some r := H
                          have A31 := Aside0.mk A310
                          clear A310
                          by_cases c32 : t375 = true
                          · subst c32
                            have H1 : (if (t366 ++ (⟨#[46]⟩ : ByteArray)).size + x9_1.size ≤ 9223372036854775807 then (if ((t366 ++ (⟨#[46]⟩ : ByteArray)) ++ x9_1).size + 1 ≤ 9223372036854775807 then (if (((t366 ++ (⟨#[46]⟩ : ByteArray)) ++ x9_1) ++ (⟨#[45]⟩ : ByteArray)).size + t367.size ≤ 9223372036854775807 then ((words_Split.f kj7 ((((t366 ++ (⟨#[46]⟩ : ByteArray)) ++ x9_1) ++ (⟨#[45]⟩ : ByteArray)) ++ t367)).bind fun t376 => ((api_Word_30.f kj7 t368 t376).bind fun t379 => (if t379 = true then (if (t366 ++ (⟨#[46]⟩ : ByteArray)).size + t367.size ≤ 9223372036854775807 then ((words_Split.f kj7 ((t366 ++ (⟨#[46]⟩ : ByteArray)) ++ t367)).bind fun t380 => (if (t380.length : Int) = 2 then ((words_Split.f kj7 ((t366 ++ (⟨#[46]⟩ : ByteArray)) ++ t367)).bind fun t383 => (if (t366 ++ (⟨#[45]⟩ : ByteArray)).size + t367.size ≤ 9223372036854775807 then ((words_Split.f kj7 ((t366 ++ (⟨#[45]⟩ : ByteArray)) ++ t367)).bind fun t386 => ((api_Word_30.f kj7 t383 t386).bind fun t389 => (if t389 = true then (some false) else (if t366.size + t367.size ≤ 9223372036854775807 then ((words_Split.f kj7 (t366 ++ t367)).bind fun t390 => (some ((t390.length : Int) == 1))) else (none))))) else (none))) else (some false))) else (none)) else (some false)))) else (none)) else (none)) else (none)) = some r := by rw [if_pos rfl] at H; exact H
                            clear H
                            have H := H1
                            clear H1
                            by_cases c33 : (t366 ++ (⟨#[46]⟩ : ByteArray)).size + x9_1.size ≤ 9223372036854775807
                            · rw [if_pos c33] at H
                              have c33b0 := eq_true c33
                              have c33b1 : decide ((t366 ++ (⟨#[46]⟩ : ByteArray)).size + x9_1.size ≤ 9223372036854775807) = true := decide_eq_true c33
                              try have c33b2 : (9223372036854775807 < (t366 ++ (⟨#[46]⟩ : ByteArray)).size + x9_1.size) = False := eq_false (Nat.not_lt.2 c33)
                              have c33n : (t366.size + 1) + x9_1.size ≤ 9223372036854775807 := by have z_ := c33; simp only [ByteArray.size_append] at z_; exact z_
                              have c33m : (9223372036854775807 < (t366.size + 1) + x9_1.size) = False := eq_false (Nat.not_lt.2 c33n)
                              clear c33 c33b0 c33b1
                              try clear c33b2
                              by_cases c34 : ((t366 ++ (⟨#[46]⟩ : ByteArray)) ++ x9_1).size + 1 ≤ 9223372036854775807
                              · rw [if_pos c34] at H
                                have c34b0 := eq_true c34
                                have c34b1 : decide (((t366 ++ (⟨#[46]⟩ : ByteArray)) ++ x9_1).size + 1 ≤ 9223372036854775807) = true := decide_eq_true c34
                                try have c34b2 : (9223372036854775807 < ((t366 ++ (⟨#[46]⟩ : ByteArray)) ++ x9_1).size + 1) = False := eq_false (Nat.not_lt.2 c34)
                                have c34n : ((t366.size + 1) + x9_1.size) + 1 ≤ 9223372036854775807 := by have z_ := c34; simp only [ByteArray.size_append] at z_; exact z_
                                have c34m : (9223372036854775807 < ((t366.size + 1) + x9_1.size) + 1) = False := eq_false (Nat.not_lt.2 c34n)
                                clear c34 c34b0 c34b1
                                try clear c34b2
                                by_cases c35 : (((t366 ++ (⟨#[46]⟩ : ByteArray)) ++ x9_1) ++ (⟨#[45]⟩ : ByteArray)).size + t367.size ≤ 9223372036854775807
                                · rw [if_pos c35] at H
                                  have c35b0 := eq_true c35
                                  have c35b1 : decide ((((t366 ++ (⟨#[46]⟩ : ByteArray)) ++ x9_1) ++ (⟨#[45]⟩ : ByteArray)).size + t367.size ≤ 9223372036854775807) = true := decide_eq_true c35
                                  try have c35b2 : (9223372036854775807 < (((t366 ++ (⟨#[46]⟩ : ByteArray)) ++ x9_1) ++ (⟨#[45]⟩ : ByteArray)).size + t367.size) = False := eq_false (Nat.not_lt.2 c35)
                                  have c35n : (((t366.size + 1) + x9_1.size) + 1) + t367.size ≤ 9223372036854775807 := by have z_ := c35; simp only [ByteArray.size_append] at z_; exact z_
                                  have c35m : (9223372036854775807 < (((t366.size + 1) + x9_1.size) + 1) + t367.size) = False := eq_false (Nat.not_lt.2 c35n)
                                  clear c35 c35b0 c35b1
                                  try clear c35b2
                                  replace H := Option.bind_eq_some_iff.mp H
                                  obtain ⟨t376, A360, H⟩ := H
                                  replace H : ((api_Word_30.f kj7 t368 t376).bind fun t379 => (if t379 = true then (if (t366 ++ (⟨#[46]⟩ : ByteArray)).size + t367.size ≤ 9223372036854775807 then ((words_Split.f kj7 ((t366 ++ (⟨#[46]⟩ : ByteArray)) ++ t367)).bind fun t380 => (if (t380.length : Int) = 2 then ((words_Split.f kj7 ((t366 ++ (⟨#[46]⟩ : ByteArray)) ++ t367)).bind fun t383 => (if (t366 ++ (⟨#[45]⟩ : ByteArray)).size + t367.size ≤ 9223372036854775807 then ((words_Split.f kj7 ((t366 ++ (⟨#[45]⟩ : ByteArray)) ++ t367)).bind fun t386 => ((api_Word_30.f kj7 t383 t386).bind fun t389 => (if t389 = true then (some false) else (if t366.size + t367.size ≤ 9223372036854775807 then ((words_Split.f kj7 (t366 ++ t367)).bind fun t390 => (some ((t390.length : Int) == 1))) else (none))))) else (none))) else (some false))) else (none)) else (some false))) = some r := H
                                  have A36 := Aside0.mk A360
                                  clear A360
                                  replace H := Option.bind_eq_some_iff.mp H
                                  obtain ⟨t379, A370, H⟩ := H
                                  replace H : (if t379 = true then (if (t366 ++ (⟨#[46]⟩ : ByteArray)).size + t367.size ≤ 9223372036854775807 then ((words_Split.f kj7 ((t366 ++ (⟨#[46]⟩ : ByteArray)) ++ t367)).bind fun t380 => (if (t380.length : Int) = 2 then ((words_Split.f kj7 ((t366 ++ (⟨#[46]⟩ : ByteArray)) ++ t367)).bind fun t383 => (if (t366 ++ (⟨#[45]⟩ : ByteArray)).size + t367.size ≤ 9223372036854775807 then ((words_Split.f kj7 ((t366 ++ (⟨#[45]⟩ : ByteArray)) ++ t367)).bind fun t386 => ((api_Word_30.f kj7 t383 t386).bind fun t389 => (if t389 = true then (some false) else (if t366.size + t367.size ≤ 9223372036854775807 then ((words_Split.f kj7 (t366 ++ t367)).bind fun t390 => (some ((t390.length : Int) == 1))) else (none))))) else (none))) else (some false))) else (none)) else (some false)) = some r := H
                                  have A37 := Aside0.mk A370
                                  clear A370
                                  by_cases c38 : t379 = true
                                  · subst c38
                                    have H1 : (if (t366 ++ (⟨#[46]⟩ : ByteArray)).size + t367.size ≤ 9223372036854775807 then ((words_Split.f kj7 ((t366 ++ (⟨#[46]⟩ : ByteArray)) ++ t367)).bind fun t380 => (if (t380.length : Int) = 2 then ((words_Split.f kj7 ((t366 ++ (⟨#[46]⟩ : ByteArray)) ++ t367)).bind fun t383 => (if (t366 ++ (⟨#[45]⟩ : ByteArray)).size + t367.size ≤ 9223372036854775807 then ((words_Split.f kj7 ((t366 ++ (⟨#[45]⟩ : ByteArray)) ++ t367)).bind fun t386 => ((api_Word_30.f kj7 t383 t386).bind fun t389 => (if t389 = true then (some false) else (if t366.size + t367.size ≤ 9223372036854775807 then ((words_Split.f kj7 (t366 ++ t367)).bind fun t390 => (some ((t390.length : Int) == 1))) else (none))))) else (none))) else (some false))) else (none)) = some r := by rw [if_pos rfl] at H; exact H
                                    clear H
                                    have H := H1
                                    clear H1
                                    by_cases c39 : (t366 ++ (⟨#[46]⟩ : ByteArray)).size + t367.size ≤ 9223372036854775807
                                    · rw [if_pos c39] at H
                                      have c39b0 := eq_true c39
                                      have c39b1 : decide ((t366 ++ (⟨#[46]⟩ : ByteArray)).size + t367.size ≤ 9223372036854775807) = true := decide_eq_true c39
                                      try have c39b2 : (9223372036854775807 < (t366 ++ (⟨#[46]⟩ : ByteArray)).size + t367.size) = False := eq_false (Nat.not_lt.2 c39)
                                      have c39n : (t366.size + 1) + t367.size ≤ 9223372036854775807 := by have z_ := c39; simp only [ByteArray.size_append] at z_; exact z_
                                      have c39m : (9223372036854775807 < (t366.size + 1) + t367.size) = False := eq_false (Nat.not_lt.2 c39n)
                                      clear c39 c39b0 c39b1
                                      try clear c39b2
                                      replace H := Option.bind_eq_some_iff.mp H
                                      obtain ⟨t380, A400, H⟩ := H
                                      replace H : (if (t380.length : Int) = 2 then ((words_Split.f kj7 ((t366 ++ (⟨#[46]⟩ : ByteArray)) ++ t367)).bind fun t383 => (if (t366 ++ (⟨#[45]⟩ : ByteArray)).size + t367.size ≤ 9223372036854775807 then ((words_Split.f kj7 ((t366 ++ (⟨#[45]⟩ : ByteArray)) ++ t367)).bind fun t386 => ((api_Word_30.f kj7 t383 t386).bind fun t389 => (if t389 = true then (some false) else (if t366.size + t367.size ≤ 9223372036854775807 then ((words_Split.f kj7 (t366 ++ t367)).bind fun t390 => (some ((t390.length : Int) == 1))) else (none))))) else (none))) else (some false)) = some r := H
                                      have A40 := Aside0.mk A400
                                      clear A400
                                      by_cases c41 : (t380.length : Int) = 2
                                      · rw [if_pos c41] at H
                                        have c41b0 : ((t380.length : Int) == 2) = true := beq_iff_eq.mpr c41
                                        have c41b1 : ((t380.length : Int) != 2) = false := bne_eq_false_iff_eq.mpr c41
                                        clear c41
                                        replace H := Option.bind_eq_some_iff.mp H
                                        obtain ⟨t383, A420, H⟩ := H
                                        replace H : (if (t366 ++ (⟨#[45]⟩ : ByteArray)).size + t367.size ≤ 9223372036854775807 then ((words_Split.f kj7 ((t366 ++ (⟨#[45]⟩ : ByteArray)) ++ t367)).bind fun t386 => ((api_Word_30.f kj7 t383 t386).bind fun t389 => (if t389 = true then (some false) else (if t366.size + t367.size ≤ 9223372036854775807 then ((words_Split.f kj7 (t366 ++ t367)).bind fun t390 => (some ((t390.length : Int) == 1))) else (none))))) else (none)) = some r := H
                                        have A42 := Aside0.mk A420
                                        clear A420
                                        by_cases c43 : (t366 ++ (⟨#[45]⟩ : ByteArray)).size + t367.size ≤ 9223372036854775807
                                        · rw [if_pos c43] at H
                                          have c43b0 := eq_true c43
                                          have c43b1 : decide ((t366 ++ (⟨#[45]⟩ : ByteArray)).size + t367.size ≤ 9223372036854775807) = true := decide_eq_true c43
                                          try have c43b2 : (9223372036854775807 < (t366 ++ (⟨#[45]⟩ : ByteArray)).size + t367.size) = False := eq_false (Nat.not_lt.2 c43)
                                          have c43n : (t366.size + 1) + t367.size ≤ 9223372036854775807 := by have z_ := c43; simp only [ByteArray.size_append] at z_; exact z_
                                          have c43m : (9223372036854775807 < (t366.size + 1) + t367.size) = False := eq_false (Nat.not_lt.2 c43n)
                                          clear c43 c43b0 c43b1
                                          try clear c43b2
                                          replace H := Option.bind_eq_some_iff.mp H
                                          obtain ⟨t386, A440, H⟩ := H
                                          replace H : ((api_Word_30.f kj7 t383 t386).bind fun t389 => (if t389 = true then (some false) else (if t366.size + t367.size ≤ 9223372036854775807 then ((words_Split.f kj7 (t366 ++ t367)).bind fun t390 => (some ((t390.length : Int) == 1))) else (none)))) = some r := H
                                          have A44 := Aside0.mk A440
                                          clear A440
                                          replace H := Option.bind_eq_some_iff.mp H
                                          obtain ⟨t389, A450, H⟩ := H
                                          replace H : (if t389 = true then (some false) else (if t366.size + t367.size ≤ 9223372036854775807 then ((words_Split.f kj7 (t366 ++ t367)).bind fun t390 => (some ((t390.length : Int) == 1))) else (none))) = some r := H
                                          have A45 := Aside0.mk A450
                                          clear A450
                                          by_cases c46 : t389 = true
                                          · subst c46
                                            have H1 : (some false) = some r := by rw [if_pos rfl] at H; exact H
                                            clear H
                                            have H := H1
                                            clear H1
                                            exfalso
                                            obtain rfl := Option.some.inj H
                                            exact absurd hr_ (by decide)
                                          · replace c46 := Bool.eq_false_iff.mpr c46
                                            subst c46
                                            have H1 : (if t366.size + t367.size ≤ 9223372036854775807 then ((words_Split.f kj7 (t366 ++ t367)).bind fun t390 => (some ((t390.length : Int) == 1))) else (none)) = some r := by rw [if_neg (show ¬ (false = true) by decide)] at H; exact H
                                            clear H
                                            have H := H1
                                            clear H1
                                            by_cases c47 : t366.size + t367.size ≤ 9223372036854775807
                                            · rw [if_pos c47] at H
                                              have c47b0 := eq_true c47
                                              have c47b1 : decide (t366.size + t367.size ≤ 9223372036854775807) = true := decide_eq_true c47
                                              try have c47b2 : (9223372036854775807 < t366.size + t367.size) = False := eq_false (Nat.not_lt.2 c47)
                                              replace H := Option.bind_eq_some_iff.mp H
                                              obtain ⟨t390, A480, H⟩ := H
                                              replace H : (some ((t390.length : Int) == 1)) = some r := H
                                              have A48 := Aside0.mk A480
                                              clear A480
                                              obtain rfl := Option.some.inj H
                                              go_wp2_with (first | ((with_reducible refine gate_callee (f := 31) rfl ?_); refine goesL_ (some 56) rfl rfl Tryd.func31 (by kernel_rfl) rfl #[.string ((t366 ++ x9_1) ++ t367)] rfl (by (try simp only [List.map_toArray, List.map_cons, List.map_nil]); first | done | rfl | (simp only [List.length_drop, List.length_take]; rfl)) ?_; (with_reducible refine (words_Split.calls kj7 ((t366 ++ x9_1) ++ t367) t368 _ ?side1 A23.out).mono ?_); (case side1 => exact Glob.step HG.out (by repeat (first | (with_reducible first | exact HB.out | apply below_alloc | apply pw_below_drewN | apply below_drew1) | exact HB.out))); rintro e w49 ⟨v369, rfl, ho0, hb⟩; refine ⟨_, rfl, ?_⟩; have n0_ := Aside0.mk (Kd.R_lower ho0 (below_size (by repeat (first | (with_reducible first | exact HB.out | apply below_alloc | apply pw_below_drewN | apply below_drew1) | exact HB.out)))); have n1_ := Aside0.mk (below_step (by repeat (first | (with_reducible first | exact HB.out | apply below_alloc | apply pw_below_drewN | apply below_drew1) | exact HB.out)) hb); clear HB; have HO370 := n0_; have HB := n1_; clear n0_ n1_; (try clear hb); (try clear hb2); (try clear hk); (try clear hi); (try clear ho0)) | ((with_reducible refine gate_callee (f := 27) rfl ?_); refine goesL_ (some 57) rfl rfl Tryd.func27 (by kernel_rfl) rfl #[] rfl (by (try simp only [List.map_toArray, List.map_cons, List.map_nil]); first | done | rfl | (simp only [List.length_drop, List.length_take]; rfl)) ?_; (with_reducible refine (newellaw05_awake.calls kj7  true _ ?side1 A24.out).mono ?_); (case side1 => exact Glob.step HG.out (by repeat (first | (with_reducible first | exact HB.out | apply below_alloc | apply pw_below_drewN | apply below_drew1) | exact HB.out))); rintro e w50 ⟨rfl, hb⟩; refine ⟨_, rfl, ?_⟩; have n0_ := Aside0.mk (Kd.R_below (by (with_reducible repeat (first | apply Kd.R_alloc | apply Kd.R_drewN | apply Kd.R_drew)); exact HO370.out) hb); have n1_ := Aside0.mk (below_step (by repeat (first | (with_reducible first | exact HB.out | apply below_alloc | apply pw_below_drewN | apply below_drew1) | exact HB.out)) hb); clear HO370; clear HB; have HO370 := n0_; have HB := n1_; clear n0_ n1_; (try clear hb); (try clear hb2); (try clear hk); (try clear hi)) | (go_at_call 31; (with_reducible refine (words_Split.calls kj7 ((((t366 ++ (⟨#[45]⟩ : ByteArray)) ++ x9_1) ++ (⟨#[45]⟩ : ByteArray)) ++ t367) t372 _ ?side1 A30.out).mono ?_); (case side1 => exact Glob.step HG.out (by repeat (first | (with_reducible first | exact HB.out | apply below_alloc | apply pw_below_drewN | apply below_drew1) | exact HB.out))); rintro e w51 ⟨v373, rfl, ho0, hb⟩; have n0_ := Aside0.mk (Kd.R_elder' (by (with_reducible repeat (first | apply Kd.R_alloc | apply Kd.R_drewN | apply Kd.R_drew)); exact HO370.out) (Kd.R_base ho0) hb); have n1_ := Aside0.mk (Kd.R_lower (Kd.R_new' ho0 (Kd.R_lt (by (with_reducible repeat (first | apply Kd.R_alloc | apply Kd.R_drewN | apply Kd.R_drew)); exact HO370.out))) (below_size (by repeat (first | (with_reducible first | exact HB.out | apply below_alloc | apply pw_below_drewN | apply below_drew1) | exact HB.out)))); have n2_ := Aside0.mk (below_step (by repeat (first | (with_reducible first | exact HB.out | apply below_alloc | apply pw_below_drewN | apply below_drew1) | exact HB.out)) hb); clear HO370; clear HB; have HO370 := n0_; have HO374 := n1_; have HB := n2_; clear n0_ n1_ n2_; (try clear hb); (try clear hb2); (try clear hk); (try clear hi); (try clear ho0); obtain ⟨Ao52, co52, eo52⟩ := Kd.R_slice HO370.out; subst eo52; obtain ⟨Ao53, co53, eo53⟩ := Kd.R_slice HO374.out; subst eo53) | (go_at_call 30; (with_reducible refine (api_Word_30.calls kj7 _ _ t368 _ _ t372 true _ ?side1 ?side2 ?side3 ?side4 ?side5 A31.out).mono ?_); (case side1 => repeat (first | exact (Kd.R_reads' HO370.out).2.2 | (with_reducible refine Kd.C_alloc ?_ _) | (with_reducible refine Kd.C_drewN ?_ _) | (with_reducible refine Kd.C_drew ?_))); (case side2 => exact (Kd.R_reads' HO370.out).2.1); (case side3 => repeat (first | exact (Kd.R_reads' HO374.out).2.2 | (with_reducible refine Kd.C_alloc ?_ _) | (with_reducible refine Kd.C_drewN ?_ _) | (with_reducible refine Kd.C_drew ?_))); (case side4 => exact (Kd.R_reads' HO374.out).2.1); (case side5 => exact Glob.step HG.out (by repeat (first | (with_reducible first | exact HB.out | apply below_alloc | apply pw_below_drewN | apply below_drew1) | exact HB.out))); rintro e w54 ⟨rfl, hb⟩; have n0_ := Aside0.mk (Kd.R_below (by (with_reducible repeat (first | apply Kd.R_alloc | apply Kd.R_drewN | apply Kd.R_drew)); exact HO370.out) hb); have n1_ := Aside0.mk (Kd.R_below (by (with_reducible repeat (first | apply Kd.R_alloc | apply Kd.R_drewN | apply Kd.R_drew)); exact HO374.out) hb); have n2_ := Aside0.mk (below_step (by repeat (first | (with_reducible first | exact HB.out | apply below_alloc | apply pw_below_drewN | apply below_drew1) | exact HB.out)) hb); clear HO370; clear HO374; clear HB; have HO370 := n0_; have HO374 := n1_; have HB := n2_; clear n0_ n1_ n2_; (try clear hb); (try clear hb2); (try clear hk); (try clear hi); clear A31) | (go_at_call 31; (with_reducible refine (words_Split.calls kj7 ((((t366 ++ (⟨#[46]⟩ : ByteArray)) ++ x9_1) ++ (⟨#[45]⟩ : ByteArray)) ++ t367) t376 _ ?side1 A36.out).mono ?_); (case side1 => exact Glob.step HG.out (by repeat (first | (with_reducible first | exact HB.out | apply below_alloc | apply pw_below_drewN | apply below_drew1) | exact HB.out))); rintro e w55 ⟨v377, rfl, ho0, hb⟩; have n0_ := Aside0.mk (Kd.R_elder' (by (with_reducible repeat (first | apply Kd.R_alloc | apply Kd.R_drewN | apply Kd.R_drew)); exact HO370.out) (Kd.R_base ho0) hb); have n1_ := Aside0.mk (Kd.R_elder' (by (with_reducible repeat (first | apply Kd.R_alloc | apply Kd.R_drewN | apply Kd.R_drew)); exact HO374.out) (Kd.R_base ho0) hb); have n2_ := Aside0.mk (Kd.R_lower (Kd.R_new' (Kd.R_new' ho0 (Kd.R_lt (by (with_reducible repeat (first | apply Kd.R_alloc | apply Kd.R_drewN | apply Kd.R_drew)); exact HO370.out))) (Kd.R_lt (by (with_reducible repeat (first | apply Kd.R_alloc | apply Kd.R_drewN | apply Kd.R_drew)); exact HO374.out))) (below_size (by repeat (first | (with_reducible first | exact HB.out | apply below_alloc | apply pw_below_drewN | apply below_drew1) | exact HB.out)))); have n3_ := Aside0.mk (below_step (by repeat (first | (with_reducible first | exact HB.out | apply below_alloc | apply pw_below_drewN | apply below_drew1) | exact HB.out)) hb); clear HO370; clear HO374; clear HB; have HO370 := n0_; have HO374 := n1_; have HO378 := n2_; have HB := n3_; clear n0_ n1_ n2_ n3_; (try clear hb); (try clear hb2); (try clear hk); (try clear hi); (try clear ho0); obtain ⟨Ao56, co56, eo56⟩ := Kd.R_slice HO378.out; subst eo56) | (go_at_call 30; (with_reducible refine (api_Word_30.calls kj7 _ _ t368 _ _ t376 true _ ?side1 ?side2 ?side3 ?side4 ?side5 A37.out).mono ?_); (case side1 => repeat (first | exact (Kd.R_reads' HO370.out).2.2 | (with_reducible refine Kd.C_alloc ?_ _) | (with_reducible refine Kd.C_drewN ?_ _) | (with_reducible refine Kd.C_drew ?_))); (case side2 => exact (Kd.R_reads' HO370.out).2.1); (case side3 => repeat (first | exact (Kd.R_reads' HO378.out).2.2 | (with_reducible refine Kd.C_alloc ?_ _) | (with_reducible refine Kd.C_drewN ?_ _) | (with_reducible refine Kd.C_drew ?_))); (case side4 => exact (Kd.R_reads' HO378.out).2.1); (case side5 => exact Glob.step HG.out (by repeat (first | (with_reducible first | exact HB.out | apply below_alloc | apply pw_below_drewN | apply below_drew1) | exact HB.out))); rintro e w57 ⟨rfl, hb⟩; have n0_ := Aside0.mk (Kd.R_below (by (with_reducible repeat (first | apply Kd.R_alloc | apply Kd.R_drewN | apply Kd.R_drew)); exact HO370.out) hb); have n1_ := Aside0.mk (Kd.R_below (by (with_reducible repeat (first | apply Kd.R_alloc | apply Kd.R_drewN | apply Kd.R_drew)); exact HO374.out) hb); have n2_ := Aside0.mk (Kd.R_below (by (with_reducible repeat (first | apply Kd.R_alloc | apply Kd.R_drewN | apply Kd.R_drew)); exact HO378.out) hb); have n3_ := Aside0.mk (below_step (by repeat (first | (with_reducible first | exact HB.out | apply below_alloc | apply pw_below_drewN | apply below_drew1) | exact HB.out)) hb); clear HO370; clear HO374; clear HO378; clear HB; have HO370 := n0_; have HO374 := n1_; have HO378 := n2_; have HB := n3_; clear n0_ n1_ n2_ n3_; (try clear hb); (try clear hb2); (try clear hk); (try clear hi)) | (go_at_call 31; (with_reducible refine (words_Split.calls kj7 ((t366 ++ (⟨#[46]⟩ : ByteArray)) ++ t367) t380 _ ?side1 A40.out).mono ?_); (case side1 => exact Glob.step HG.out (by repeat (first | (with_reducible first | exact HB.out | apply below_alloc | apply pw_below_drewN | apply below_drew1) | exact HB.out))); rintro e w58 ⟨v381, rfl, ho0, hb⟩; have n0_ := Aside0.mk (Kd.R_elder' (by (with_reducible repeat (first | apply Kd.R_alloc | apply Kd.R_drewN | apply Kd.R_drew)); exact HO370.out) (Kd.R_base ho0) hb); have n1_ := Aside0.mk (Kd.R_elder' (by (with_reducible repeat (first | apply Kd.R_alloc | apply Kd.R_drewN | apply Kd.R_drew)); exact HO374.out) (Kd.R_base ho0) hb); have n2_ := Aside0.mk (Kd.R_elder' (by (with_reducible repeat (first | apply Kd.R_alloc | apply Kd.R_drewN | apply Kd.R_drew)); exact HO378.out) (Kd.R_base ho0) hb); have n3_ := Aside0.mk (Kd.R_lower (Kd.R_new' (Kd.R_new' (Kd.R_new' ho0 (Kd.R_lt (by (with_reducible repeat (first | apply Kd.R_alloc | apply Kd.R_drewN | apply Kd.R_drew)); exact HO370.out))) (Kd.R_lt (by (with_reducible repeat (first | apply Kd.R_alloc | apply Kd.R_drewN | apply Kd.R_drew)); exact HO374.out))) (Kd.R_lt (by (with_reducible repeat (first | apply Kd.R_alloc | apply Kd.R_drewN | apply Kd.R_drew)); exact HO378.out))) (below_size (by repeat (first | (with_reducible first | exact HB.out | apply below_alloc | apply pw_below_drewN | apply below_drew1) | exact HB.out)))); have n4_ := Aside0.mk (below_step (by repeat (first | (with_reducible first | exact HB.out | apply below_alloc | apply pw_below_drewN | apply below_drew1) | exact HB.out)) hb); clear HO370; clear HO374; clear HO378; clear HB; have HO370 := n0_; have HO374 := n1_; have HO378 := n2_; have HO382 := n3_; have HB := n4_; clear n0_ n1_ n2_ n3_ n4_; (try clear hb); (try clear hb2); (try clear hk); (try clear hi); (try clear ho0); obtain ⟨Ao59, co59, eo59⟩ := Kd.R_slice HO382.out; subst eo59; clear A40) | (go_at_call 31; (with_reducible refine (words_Split.calls kj7 ((t366 ++ (⟨#[46]⟩ : ByteArray)) ++ t367) t383 _ ?side1 A42.out).mono ?_); (case side1 => exact Glob.step HG.out (by repeat (first | (with_reducible first | exact HB.out | apply below_alloc | apply pw_below_drewN | apply below_drew1) | exact HB.out))); rintro e w60 ⟨v384, rfl, ho0, hb⟩; have n0_ := Aside0.mk (Kd.R_elder' (by (with_reducible repeat (first | apply Kd.R_alloc | apply Kd.R_drewN | apply Kd.R_drew)); exact HO370.out) (Kd.R_base ho0) hb); have n1_ := Aside0.mk (Kd.R_elder' (by (with_reducible repeat (first | apply Kd.R_alloc | apply Kd.R_drewN | apply Kd.R_drew)); exact HO374.out) (Kd.R_base ho0) hb); have n2_ := Aside0.mk (Kd.R_elder' (by (with_reducible repeat (first | apply Kd.R_alloc | apply Kd.R_drewN | apply Kd.R_drew)); exact HO378.out) (Kd.R_base ho0) hb); have n3_ := Aside0.mk (Kd.R_elder' (by (with_reducible repeat (first | apply Kd.R_alloc | apply Kd.R_drewN | apply Kd.R_drew)); exact HO382.out) (Kd.R_base ho0) hb); have n4_ := Aside0.mk (Kd.R_lower (Kd.R_new' (Kd.R_new' (Kd.R_new' (Kd.R_new' ho0 (Kd.R_lt (by (with_reducible repeat (first | apply Kd.R_alloc | apply Kd.R_drewN | apply Kd.R_drew)); exact HO370.out))) (Kd.R_lt (by (with_reducible repeat (first | apply Kd.R_alloc | apply Kd.R_drewN | apply Kd.R_drew)); exact HO374.out))) (Kd.R_lt (by (with_reducible repeat (first | apply Kd.R_alloc | apply Kd.R_drewN | apply Kd.R_drew)); exact HO378.out))) (Kd.R_lt (by (with_reducible repeat (first | apply Kd.R_alloc | apply Kd.R_drewN | apply Kd.R_drew)); exact HO382.out))) (below_size (by repeat (first | (with_reducible first | exact HB.out | apply below_alloc | apply pw_below_drewN | apply below_drew1) | exact HB.out)))); have n5_ := Aside0.mk (below_step (by repeat (first | (with_reducible first | exact HB.out | apply below_alloc | apply pw_below_drewN | apply below_drew1) | exact HB.out)) hb); clear HO370; clear HO374; clear HO378; clear HO382; clear HB; have HO370 := n0_; have HO374 := n1_; have HO378 := n2_; have HO382 := n3_; have HO385 := n4_; have HB := n5_; clear n0_ n1_ n2_ n3_ n4_ n5_; (try clear hb); (try clear hb2); (try clear hk); (try clear hi); (try clear ho0)) | (go_at_call 31; (with_reducible refine (words_Split.calls kj7 ((t366 ++ (⟨#[45]⟩ : ByteArray)) ++ t367) t386 _ ?side1 A44.out).mono ?_); (case side1 => exact Glob.step HG.out (by repeat (first | (with_reducible first | exact HB.out | apply below_alloc | apply pw_below_drewN | apply below_drew1) | exact HB.out))); rintro e w61 ⟨v387, rfl, ho0, hb⟩; have n0_ := Aside0.mk (Kd.R_elder' (by (with_reducible repeat (first | apply Kd.R_alloc | apply Kd.R_drewN | apply Kd.R_drew)); exact HO370.out) (Kd.R_base ho0) hb); have n1_ := Aside0.mk (Kd.R_elder' (by (with_reducible repeat (first | apply Kd.R_alloc | apply Kd.R_drewN | apply Kd.R_drew)); exact HO374.out) (Kd.R_base ho0) hb); have n2_ := Aside0.mk (Kd.R_elder' (by (with_reducible repeat (first | apply Kd.R_alloc | apply Kd.R_drewN | apply Kd.R_drew)); exact HO378.out) (Kd.R_base ho0) hb); have n3_ := Aside0.mk (Kd.R_elder' (by (with_reducible repeat (first | apply Kd.R_alloc | apply Kd.R_drewN | apply Kd.R_drew)); exact HO382.out) (Kd.R_base ho0) hb); have n4_ := Aside0.mk (Kd.R_elder' (by (with_reducible repeat (first | apply Kd.R_alloc | apply Kd.R_drewN | apply Kd.R_drew)); exact HO385.out) (Kd.R_base ho0) hb); have n5_ := Aside0.mk (Kd.R_lower (Kd.R_new' (Kd.R_new' (Kd.R_new' (Kd.R_new' (Kd.R_new' ho0 (Kd.R_lt (by (with_reducible repeat (first | apply Kd.R_alloc | apply Kd.R_drewN | apply Kd.R_drew)); exact HO370.out))) (Kd.R_lt (by (with_reducible repeat (first | apply Kd.R_alloc | apply Kd.R_drewN | apply Kd.R_drew)); exact HO374.out))) (Kd.R_lt (by (with_reducible repeat (first | apply Kd.R_alloc | apply Kd.R_drewN | apply Kd.R_drew)); exact HO378.out))) (Kd.R_lt (by (with_reducible repeat (first | apply Kd.R_alloc | apply Kd.R_drewN | apply Kd.R_drew)); exact HO382.out))) (Kd.R_lt (by (with_reducible repeat (first | apply Kd.R_alloc | apply Kd.R_drewN | apply Kd.R_drew)); exact HO385.out))) (below_size (by repeat (first | (with_reducible first | exact HB.out | apply below_alloc | apply pw_below_drewN | apply below_drew1) | exact HB.out)))); have n6_ := Aside0.mk (below_step (by repeat (first | (with_reducible first | exact HB.out | apply below_alloc | apply pw_below_drewN | apply below_drew1) | exact HB.out)) hb); clear HO370; clear HO374; clear HO378; clear HO382; clear HO385; clear HB; have HO370 := n0_; have HO374 := n1_; have HO378 := n2_; have HO382 := n3_; have HO385 := n4_; have HO388 := n5_; have HB := n6_; clear n0_ n1_ n2_ n3_ n4_ n5_ n6_; (try clear hb); (try clear hb2); (try clear hk); (try clear hi); (try clear ho0); obtain ⟨Ao62, co62, eo62⟩ := Kd.R_slice HO385.out; subst eo62; obtain ⟨Ao63, co63, eo63⟩ := Kd.R_slice HO388.out; subst eo63) | (go_at_call 30; (with_reducible refine (api_Word_30.calls kj7 _ _ t383 _ _ t386 false _ ?side1 ?side2 ?side3 ?side4 ?side5 A45.out).mono ?_); (case side1 => repeat (first | exact (Kd.R_reads' HO385.out).2.2 | (with_reducible refine Kd.C_alloc ?_ _) | (with_reducible refine Kd.C_drewN ?_ _) | (with_reducible refine Kd.C_drew ?_))); (case side2 => exact (Kd.R_reads' HO385.out).2.1); (case side3 => repeat (first | exact (Kd.R_reads' HO388.out).2.2 | (with_reducible refine Kd.C_alloc ?_ _) | (with_reducible refine Kd.C_drewN ?_ _) | (with_reducible refine Kd.C_drew ?_))); (case side4 => exact (Kd.R_reads' HO388.out).2.1); (case side5 => exact Glob.step HG.out (by repeat (first | (with_reducible first | exact HB.out | apply below_alloc | apply pw_below_drewN | apply below_drew1) | exact HB.out))); rintro e w64 ⟨rfl, hb⟩; have n0_ := Aside0.mk (Kd.R_below (by (with_reducible repeat (first | apply Kd.R_alloc | apply Kd.R_drewN | apply Kd.R_drew)); exact HO370.out) hb); have n1_ := Aside0.mk (Kd.R_below (by (with_reducible repeat (first | apply Kd.R_alloc | apply Kd.R_drewN | apply Kd.R_drew)); exact HO374.out) hb); have n2_ := Aside0.mk (Kd.R_below (by (with_reducible repeat (first | apply Kd.R_alloc | apply Kd.R_drewN | apply Kd.R_drew)); exact HO378.out) hb); have n3_ := Aside0.mk (Kd.R_below (by (with_reducible repeat (first | apply Kd.R_alloc | apply Kd.R_drewN | apply Kd.R_drew)); exact HO382.out) hb); have n4_ := Aside0.mk (Kd.R_below (by (with_reducible repeat (first | apply Kd.R_alloc | apply Kd.R_drewN | apply Kd.R_drew)); exact HO385.out) hb); have n5_ := Aside0.mk (Kd.R_below (by (with_reducible repeat (first | apply Kd.R_alloc | apply Kd.R_drewN | apply Kd.R_drew)); exact HO388.out) hb); have n6_ := Aside0.mk (below_step (by repeat (first | (with_reducible first | exact HB.out | apply below_alloc | apply pw_below_drewN | apply below_drew1) | exact HB.out)) hb); clear HO370; clear HO374; clear HO378; clear HO382; clear HO385; clear HO388; clear HB; have HO370 := n0_; have HO374 := n1_; have HO378 := n2_; have HO382 := n3_; have HO385 := n4_; have HO388 := n5_; have HB := n6_; clear n0_ n1_ n2_ n3_ n4_ n5_ n6_; (try clear hb); (try clear hb2); (try clear hk); (try clear hi)) | (go_at_call 31; (with_reducible refine (words_Split.calls kj7 (t366 ++ t367) t390 _ ?side1 A48.out).mono ?_); (case side1 => exact Glob.step HG.out (by repeat (first | (with_reducible first | exact HB.out | apply below_alloc | apply pw_below_drewN | apply below_drew1) | exact HB.out))); rintro e w65 ⟨v391, rfl, ho0, hb⟩; have n0_ := Aside0.mk (Kd.R_elder' (by (with_reducible repeat (first | apply Kd.R_alloc | apply Kd.R_drewN | apply Kd.R_drew)); exact HO370.out) (Kd.R_base ho0) hb); have n1_ := Aside0.mk (Kd.R_elder' (by (with_reducible repeat (first | apply Kd.R_alloc | apply Kd.R_drewN | apply Kd.R_drew)); exact HO374.out) (Kd.R_base ho0) hb); have n2_ := Aside0.mk (Kd.R_elder' (by (with_reducible repeat (first | apply Kd.R_alloc | apply Kd.R_drewN | apply Kd.R_drew)); exact HO378.out) (Kd.R_base ho0) hb); have n3_ := Aside0.mk (Kd.R_elder' (by (with_reducible repeat (first | apply Kd.R_alloc | apply Kd.R_drewN | apply Kd.R_drew)); exact HO382.out) (Kd.R_base ho0) hb); have n4_ := Aside0.mk (Kd.R_elder' (by (with_reducible repeat (first | apply Kd.R_alloc | apply Kd.R_drewN | apply Kd.R_drew)); exact HO385.out) (Kd.R_base ho0) hb); have n5_ := Aside0.mk (Kd.R_elder' (by (with_reducible repeat (first | apply Kd.R_alloc | apply Kd.R_drewN | apply Kd.R_drew)); exact HO388.out) (Kd.R_base ho0) hb); have n6_ := Aside0.mk (Kd.R_lower (Kd.R_new' (Kd.R_new' (Kd.R_new' (Kd.R_new' (Kd.R_new' (Kd.R_new' ho0 (Kd.R_lt (by (with_reducible repeat (first | apply Kd.R_alloc | apply Kd.R_drewN | apply Kd.R_drew)); exact HO370.out))) (Kd.R_lt (by (with_reducible repeat (first | apply Kd.R_alloc | apply Kd.R_drewN | apply Kd.R_drew)); exact HO374.out))) (Kd.R_lt (by (with_reducible repeat (first | apply Kd.R_alloc | apply Kd.R_drewN | apply Kd.R_drew)); exact HO378.out))) (Kd.R_lt (by (with_reducible repeat (first | apply Kd.R_alloc | apply Kd.R_drewN | apply Kd.R_drew)); exact HO382.out))) (Kd.R_lt (by (with_reducible repeat (first | apply Kd.R_alloc | apply Kd.R_drewN | apply Kd.R_drew)); exact HO385.out))) (Kd.R_lt (by (with_reducible repeat (first | apply Kd.R_alloc | apply Kd.R_drewN | apply Kd.R_drew)); exact HO388.out))) (below_size (by repeat (first | (with_reducible first | exact HB.out | apply below_alloc | apply pw_below_drewN | apply below_drew1) | exact HB.out)))); have n7_ := Aside0.mk (below_step (by repeat (first | (with_reducible first | exact HB.out | apply below_alloc | apply pw_below_drewN | apply below_drew1) | exact HB.out)) hb); clear HO370; clear HO374; clear HO378; clear HO382; clear HO385; clear HO388; clear HB; have HO370 := n0_; have HO374 := n1_; have HO378 := n2_; have HO382 := n3_; have HO385 := n4_; have HO388 := n5_; have HO392 := n6_; have HB := n7_; clear n0_ n1_ n2_ n3_ n4_ n5_ n6_ n7_; (try clear hb); (try clear hb2); (try clear hk); (try clear hi); (try clear ho0); obtain ⟨Ao66, co66, eo66⟩ := Kd.R_slice HO392.out; subst eo66))
                                              go_ret
                                              exact ⟨by first | rfl | (simp [errW_none, errW_some] <;> rfl) | (simp [*, errW_none, errW_some] <;> rfl), by repeat (first | (with_reducible first | exact HB.out | apply below_alloc | apply pw_below_drewN | apply below_drew1) | exact HB.out)⟩
                                            · rw [if_neg c47] at H
                                              exact absurd H (by simp)
                                        · rw [if_neg c43] at H
                                          exact absurd H (by simp)
                                      · rw [if_neg c41] at H
                                        have c41b0 : ((t380.length : Int) == 2) = false := beq_eq_false_iff_ne.mpr c41
                                        have c41b1 : ((t380.length : Int) != 2) = true := bne_iff_ne.mpr c41
                                        exfalso
                                        obtain rfl := Option.some.inj H
                                        exact absurd hr_ (by decide)
                                    · rw [if_neg c39] at H
                                      exact absurd H (by simp)
                                  · replace c38 := Bool.eq_false_iff.mpr c38
                                    subst c38
                                    have H1 : (some false) = some r := by rw [if_neg (show ¬ (false = true) by decide)] at H; exact H
                                    clear H
                                    have H := H1
                                    clear H1
                                    exfalso
                                    obtain rfl := Option.some.inj H
                                    exact absurd hr_ (by decide)
                                · rw [if_neg c35] at H
                                  exact absurd H (by simp)
                              · rw [if_neg c34] at H
                                exact absurd H (by simp)
                            · rw [if_neg c33] at H
                              exact absurd H (by simp)
                          · replace c32 := Bool.eq_false_iff.mpr c32
                            subst c32
                            have H1 : (some false) = some r := by rw [if_neg (show ¬ (false = true) by decide)] at H; exact H
                            clear H
                            have H := H1
                            clear H1
                            exfalso
                            obtain rfl := Option.some.inj H
                            exact absurd hr_ (by decide)
                        · rw [if_neg c29] at H
                          exact absurd H (by simp)
                      · rw [if_neg c28] at H
                        exact absurd H (by simp)
                    · rw [if_neg c27] at H
                      exact absurd H (by simp)
                  · rw [if_neg c26] at H
                    exact absurd H (by simp)
                · replace c25 := Bool.eq_false_iff.mpr c25
                  subst c25
                  have H1 : (some false) = some r := by rw [if_neg (show ¬ (false = true) by decide)] at H; exact H
                  clear H
                  have H := H1
                  clear H1
                  exfalso
                  obtain rfl := Option.some.inj H
                  exact absurd hr_ (by decide)
              · rw [if_neg c22] at H
                exact absurd H (by simp)
            · rw [if_neg c21] at H
              exact absurd H (by simp)

end Go.Proofs.YtgdjfcmmpjcaaaaDoor.Q

namespace Go.Proofs.YtgdjfcmmpjcaaaaDoor.Q
open Go.RowKit Go.Proofs.YtgdjfcmmpjcaaaaDoorW.PrintWords Go.Proofs.YtgdjfcmmpjcaaaaDoorW.PrintLast Go.Proofs.YtgdjfcmmpjcaaaaDoorW.Own Go.Proofs.YtgdjfcmmpjcaaaaDoorW.PrintMore
set_option linter.unusedVariables false
set_option linter.unusedSimpArgs false
namespace Rd
open Go Go.RowKit
def Opens {α : Type} (t : TypeId) (d : Kd α) (wf : α → Prop) (bulk : α → Nat) : Prop :=
  Tryd.prog.cellsOf t = d.sz ∧ ∀ (H : Type) (enc : TypeId × Value → H) (W : World) (fuel : Nat) (cs : List Value) (dd : DataW H) (ps : List MemPlace),
    DataW.trod enc Tryd.prog W 0 (fun _ => true) true fuel t cs = some (dd, ps) → ∃ x, d.K W x cs ∧ wf x ∧ bulk x ≤ Rows.uptoBulk dd
def OpensF {β : Type} (fs : List Field) (off : Nat) (d : Kd β) (wf : β → Prop) (bulk : β → Nat) : Prop :=
  ∀ (H : Type) (enc : TypeId × Value → H) (W : World) (n : Nat) (cs : List Value) (xs : List (DataW H × List MemPlace)), xs.length = fs.length →
    (∀ (i : Nat) (f : Field), fs[i]? = some f → DataW.trod enc Tryd.prog W 0 (fun _ => true) true n f.type ((cs.drop f.offset).take (Tryd.prog.cellsOf f.type)) = xs[i]?) → cs.length = off + d.sz →
    ∃ x, d.K W x (cs.drop off) ∧ wf x ∧ bulk x ≤ Rows.uptoBulkAll (xs.map (·.1))
theorem OpensF.cons {α β : Type} {f : Field} {fs : List Field} {off off' : Nat} {a : Kd α} {b : Kd β} {wf : α → Prop} {bulk : α → Nat} {wf' : β → Prop} {bulk' : β → Nat} (ho : f.offset = off) (ho' : off' = off + a.sz) (h : Opens f.type a wf bulk) (hr : OpensF fs off' b wf' bulk') :
    OpensF (f :: fs) off (Kd.pair a b) (fun x => wf x.1 ∧ wf' x.2) (fun x => bulk x.1 + bulk' x.2) := by
  intro H enc W n cs xs hl ht hc
  subst ho'
  obtain ⟨hsz, hop⟩ := h
  obtain ⟨x0, xs', rfl⟩ : ∃ x0 xs', xs = x0 :: xs' := by
    match xs, hl with
    | x0 :: xs', _ => exact ⟨x0, xs', rfl⟩
  have h0 := ht 0 f rfl
  rw [ho, hsz] at h0
  obtain ⟨x, hk, hw, hb⟩ := hop H enc W n _ _ _ h0
  have hc' : cs.length = off + a.sz + b.sz := by
    have e : (Kd.pair a b).sz = a.sz + b.sz := rfl
    rw [e] at hc
    omega
  obtain ⟨y, hk', hw', hb'⟩ := hr H enc W n cs xs' (by simpa using hl) (fun i g hg => by have := ht (i + 1) g (by simpa using hg); simpa using this) hc'
  refine ⟨(x, y), ⟨(cs.drop off).take a.sz, cs.drop (off + a.sz), ?_, hk, hk'⟩, ⟨hw, hw'⟩, ?_⟩
  · rw [← List.drop_drop, List.take_append_drop]
  · simp only [List.map_cons, Rows.uptoBulkAll]
    omega
theorem glob {W : World} (h : W.ShapedOpen Tryd.prog) : Glob W :=
  cell_of_shapedOpen_int (g := 0) (t := 3) (zero := #[.int .i64 0]) (k := .i64) h (of_decide_eq_true (by kernel_rfl)) (by kernel_rfl) rfl (by kernel_rfl) (by kernel_rfl) Tryd.underlying3
end Rd
end Go.Proofs.YtgdjfcmmpjcaaaaDoor.Q

-- Printed by this session's wip/np.py over the kit's print program. Not trusted: Lean checks it.
namespace Go.Proofs.YtgdjfcmmpjcaaaaDoor.Q
open Go.RowKit Go.Proofs.YtgdjfcmmpjcaaaaDoorW.PrintWords Go.Proofs.YtgdjfcmmpjcaaaaDoorW.PrintLast Go.Proofs.YtgdjfcmmpjcaaaaDoorW.Own Go.Proofs.YtgdjfcmmpjcaaaaDoorW.PrintMore
set_option linter.unusedVariables false
set_option linter.unusedSimpArgs false

/-- The pure statement of newellaw05_WordsParts. -/
def newellaw05_WordsParts.Pure : Prop := ∀ (a0 : Int) (a1 : Int) (a2 : ByteArray), ((Lit.int .i64 a0).wf = true) → ((Lit.int .i64 a1).wf = true) → (a2.size ≤ 140737488351232) → ∃ k, newellaw05_WordsParts.f k a0 a1 a2 = some true
end Go.Proofs.YtgdjfcmmpjcaaaaDoor.Q

namespace Go.Proofs.YtgdjfcmmpjcaaaaDoorW.Px
open Go
theorem ba_ext {a b : ByteArray} (h : a.data.toList = b.data.toList) : a = b := by
  cases a; cases b; simp at h; subst h; rfl
theorem ba_size (a : ByteArray) : a.size = a.data.toList.length := Array.length_toList.symm
theorem ba_append (a b : ByteArray) : (a ++ b).data.toList = a.data.toList ++ b.data.toList := by simp [ByteArray.data_append]
theorem ba_toList (a : ByteArray) : a.toList = a.data.toList := Lib.toList_data a
theorem ba_extract (a : ByteArray) (i j : Nat) : (a.extract i j).data.toList = (a.data.toList.take j).drop i := by
  simp [ByteArray.data_extract, List.extract_eq_take_drop, List.drop_take]
end Go.Proofs.YtgdjfcmmpjcaaaaDoorW.Px

namespace Go.Proofs.YtgdjfcmmpjcaaaaDoor.Pure
open Go Go.RowKit Go.Proofs.YtgdjfcmmpjcaaaaDoor.Q Go.Proofs.YtgdjfcmmpjcaaaaDoorW.PrintWords
theorem awake5_40 : newellaw05_awake.f 40 = some true := by kernel_rfl
theorem awake5_ge (k : Nat) (h : 40 ≤ k) : newellaw05_awake.f k = some true := by
  obtain ⟨j, rfl⟩ := Nat.exists_eq_add_of_le h
  clear h
  induction j with
  | zero => exact awake5_40
  | succ j ih => exact newellaw05_awake.mono _ _ ih
end Go.Proofs.YtgdjfcmmpjcaaaaDoor.Pure

-- Printed by this session's wip/np.py over the kit's print program. Not trusted: Lean checks it.
namespace Go.Proofs.YtgdjfcmmpjcaaaaDoor.Q
open Go.RowKit Go.Proofs.YtgdjfcmmpjcaaaaDoorW.PrintWords Go.Proofs.YtgdjfcmmpjcaaaaDoorW.PrintLast Go.Proofs.YtgdjfcmmpjcaaaaDoorW.Own Go.Proofs.YtgdjfcmmpjcaaaaDoorW.PrintMore
attribute [local go_sem] max2_int min2_int max_two min_two max_three min_three max_four min_four
set_option linter.unusedVariables false
set_option linter.unusedSimpArgs false

/-! ### newelref01_Digit: function 78 -/
def newelref01_Digit.f (a0 : Int) : Option (Bool) := if a0 ≥ 48 then (some (decide (a0 ≤ 57))) else (some false)
set_option maxHeartbeats 8000000 in
set_option maxRecDepth 100000 in
theorem newelref01_Digit.calls (a0 : Int) (r : Bool) (w : World) (hG : Glob w) (h : newelref01_Digit.f a0 = some r) :
    Calls Tryd.prog 78 #[.int .u8 a0] w fun e w' => e = .returned (.bool r) ∧ Drawn0 w w' := by
  have HG := Aside0.mk hG
  clear hG
  have H : (if a0 ≥ 48 then (some (decide (a0 ≤ 57))) else (some false)) = some r := h
  clear h
  by_cases c2 : a0 ≥ 48
  · rw [if_pos c2] at H
    have c2b0 : decide (48 ≤ a0) = true := decide_eq_true c2
    clear c2
    obtain rfl := Option.some.inj H
    go_enter Tryd.func78, Tryd.ntmps78
    go_wp2
    go_ret
    exact ⟨by first | rfl | (simp; done) | (simp [*]; done), by repeat (first | exact Drawn0.refl _ | apply Drawn0.step)⟩
  · rw [if_neg c2] at H
    have c2b0 : decide (48 ≤ a0) = false := decide_eq_false c2
    clear c2
    obtain rfl := Option.some.inj H
    go_enter Tryd.func78, Tryd.ntmps78
    go_wp2
    go_ret
    exact ⟨by first | rfl | (simp; done) | (simp [*]; done), by repeat (first | exact Drawn0.refl _ | apply Drawn0.step)⟩

end Go.Proofs.YtgdjfcmmpjcaaaaDoor.Q
