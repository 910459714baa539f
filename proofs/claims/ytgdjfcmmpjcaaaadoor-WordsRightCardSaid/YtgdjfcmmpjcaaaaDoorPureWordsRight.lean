/- The plain law of WordsRight, about the functions that the walks compute. -/
import Derived.Test.YtgdjfcmmpjcaaaaDoorBWordsRight
import Derived.Test.YtgdjfcmmpjcaaaaDoorPRight
import Derived.Test.YtgdjfcmmpjcaaaaDoorPAwake5
namespace Go.Proofs.YtgdjfcmmpjcaaaaDoor.Pure
open Go Go.RowKit Go.Proofs.YtgdjfcmmpjcaaaaDoor.Q Go.Proofs.YtgdjfcmmpjcaaaaDoorW.PrintWords Go.Proofs.YtgdjfcmmpjcaaaaDoorW.PrintLast Go.Proofs.YtgdjfcmmpjcaaaaDoorW.Own Go.Proofs.YtgdjfcmmpjcaaaaDoorW.PrintMore Go.Proofs.YtgdjfcmmpjcaaaaDoorW.Px
set_option linter.unusedSimpArgs false
set_option linter.unusedVariables false
def ones (n : Nat) : ByteArray := ⟨(List.replicate n (49 : UInt8)).toArray⟩
theorem ones_list (n : Nat) : (ones n).data.toList = List.replicate n 49 := rfl
theorem ones_size (n : Nat) : (ones n).size = n := by rw [ba_size, ones_list, List.length_replicate]
theorem ones_succ (n : Nat) : ones n ++ (⟨#[49]⟩ : ByteArray) = ones (n + 1) := by
  apply ba_ext
  rw [ba_append, ones_list, ones_list, List.replicate_succ']
theorem at_end (c : UInt8) (n : Nat) (hn : 1 ≤ n ∧ n ≤ 200) (k : Nat) (hk : 200 ≤ k) : newellaw05_WordsRight.j1 (k + 1) (c.toNat : Int) (n : Int) (ones n) (sign8 c) = some true := by
  have hy : strOfNums [(c.toNat : Int)] = (⟨#[c]⟩ : ByteArray) := by
    apply ba_ext
    show [UInt8.ofNat (Int.toNat (c.toNat : Int))] = [c]
    rw [Int.toNat_natCast]; simp
  have q1 : 1 + (⟨#[c]⟩ : ByteArray).size ≤ 9223372036854775807 := by rw [show (⟨#[c]⟩ : ByteArray).size = 1 from rfl]; omega
  have h1 : ((⟨#[49]⟩ : ByteArray) ++ (⟨#[c]⟩ : ByteArray)).data.toList = [49, c] := by rw [ba_append]; rfl
  have r1 : rightB [49, c] = sign8 c := by
    unfold rightB
    have : sign8 49 = true := by decide
    simp [this]
  have r2 : rightB (List.replicate n 49) = decide ((n : Int) ≤ 100) := by
    unfold rightB
    have e : sign8 49 = true := by decide
    have a : (List.replicate n (49 : UInt8)).all sign8 = true := by
      rw [List.all_eq_true]; intro x hx; rw [(List.mem_replicate.1 hx).2]; exact e
    rw [a, List.length_replicate, decide_eq_true hn.1, Bool.true_and, Bool.and_true]
    by_cases l : n ≤ 100
    · rw [decide_eq_true l, decide_eq_true (by omega)]
    · rw [decide_eq_false l, decide_eq_false (by omega)]
  rw [newellaw05_WordsRight.j1, awake5_ge _ (by omega), Option.bind_some, if_pos rfl, Option.bind_some, hy, if_pos q1, right_told _ _ (by omega), Option.bind_some, h1, r1, if_pos (by rw [beq_self_eq_true]), right_told _ _ (by omega), Option.bind_some, ones_list, r2, if_pos (by rw [beq_self_eq_true]), right_told _ _ (by omega), Option.bind_some]
  rfl
theorem loop (c : UInt8) (n : Nat) (hn : 1 ≤ n ∧ n ≤ 200) : ∀ (d i k : Nat), i + d = n → 201 ≤ k → newellaw05_WordsRight.l0 (k + d + 1) (c.toNat : Int) (n : Int) (ones i) (i : Int) = some true := by
  intro d
  induction d with
  | zero =>
    intro i k h hk
    obtain rfl : i = n := by omega
    obtain ⟨k, rfl⟩ : ∃ j, k = j + 1 := ⟨k - 1, by omega⟩
    have fin : ∀ b, b = sign8 c → newellaw05_WordsRight.j1 (k + 1 + 0) (c.toNat : Int) (i : Int) (ones i) b = some true := by
      rintro _ rfl
      exact at_end c i hn k (by omega)
    rw [newellaw05_WordsRight.l0, if_neg (by omega)]
    unfold sign8 sign at fin
    by_cases a : (c.toNat : Int) ≥ 33
    · rw [if_pos a]
      by_cases b : (c.toNat : Int) ≤ 126
      · rw [if_pos b]
        by_cases c1 : (c.toNat : Int) = 91
        · rw [if_pos c1]; exact fin _ (by simp [c1])
        · rw [if_neg c1]
          by_cases c2 : (c.toNat : Int) = 93
          · rw [if_pos c2]; exact fin _ (by simp [c2])
          · rw [if_neg c2]
            by_cases c3 : (c.toNat : Int) = 40
            · rw [if_pos c3]; exact fin _ (by simp [c3])
            · rw [if_neg c3]
              by_cases c4 : (c.toNat : Int) = 41
              · rw [if_pos c4]; exact fin _ (by simp [c4])
              · rw [if_neg c4]
                refine fin _ ?_
                rw [decide_eq_true a, decide_eq_true b, bne_iff_ne.2 c1, bne_iff_ne.2 c2, bne_iff_ne.2 c3, bne_iff_ne.2 c4]
                rfl
      · rw [if_neg b]; exact fin _ (by rw [decide_eq_false b, Bool.and_false]; rfl)
    · rw [if_neg a]; exact fin _ (by rw [decide_eq_false (show ¬ 33 ≤ (c.toNat : Int) from a)]; rfl)
  | succ d ih =>
    intro i k h hk
    have hw : wrap64 ((i : Int) + 1) = ((i + 1 : Nat) : Int) := by unfold wrap64; omega
    have q0 : (i : Int) < (n : Int) := by omega
    have q1 : (ones i).size + 1 ≤ 9223372036854775807 := by rw [ones_size]; omega
    rw [show k + (d + 1) + 1 = (k + d + 1) + 1 from by omega, newellaw05_WordsRight.l0, if_pos q0, if_pos q1, hw, ones_succ]
    exact ih (i + 1) k (by omega) hk
theorem of_byte5 (n : Int) (h0 : 0 ≤ n) (h1 : n < 256) : ∃ c : UInt8, (c.toNat : Int) = n := by
  refine ⟨UInt8.ofNat n.toNat, ?_⟩
  rw [UInt8.toNat_ofNat']
  omega
theorem WordsRight : newellaw05_WordsRight.Pure := by
  intro a0 a1 hw hv
  have hr : 0 ≤ a0 ∧ a0 < 256 := by
    have h : IntKind.u8.min ≤ a0 ∧ a0 ≤ IntKind.u8.max := by simpa [Lit.wf] using hw
    have e0 : IntKind.u8.min = 0 := by decide
    have e1 : IntKind.u8.max = 255 := by decide
    omega
  obtain ⟨c, hc⟩ := of_byte5 a0 hr.1 hr.2
  have hn : ∃ n : Nat, (1 ≤ n ∧ n ≤ 200) ∧ wrap64 (95 + wrap64 (Int.tmod (IntKind.u64.wrap a1) 10)) = (n : Int) := by
    have h0 : 0 ≤ IntKind.u64.wrap a1 := by
      rw [IntKind.wrap_u64]; omega
    have h1 := Int.tmod_nonneg 10 h0
    have h2 := Int.tmod_lt_of_pos (IntKind.u64.wrap a1) (show (0 : Int) < 10 by decide)
    refine ⟨(95 + Int.tmod (IntKind.u64.wrap a1) 10).toNat, by omega, ?_⟩
    unfold wrap64
    omega
  obtain ⟨n, hb, hn⟩ := hn
  refine ⟨201 + n + 1, ?_⟩
  unfold newellaw05_WordsRight.f
  rw [hn, ← hc]
  have := loop c n hb n 0 201 (by omega) (Nat.le_refl _)
  rw [show ((0 : Nat) : Int) = 0 from rfl, show ones 0 = (⟨#[]⟩ : ByteArray) from rfl] at this
  exact this
end Go.Proofs.YtgdjfcmmpjcaaaaDoor.Pure
