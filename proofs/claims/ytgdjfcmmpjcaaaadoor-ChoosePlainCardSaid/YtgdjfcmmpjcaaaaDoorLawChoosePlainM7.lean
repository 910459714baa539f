/- Texts put together: what functions of the program compute, and plain words about them. -/
import Derived.Test.YtgdjfcmmpjcaaaaDoorLawChoosePlainM3
import Derived.Test.YtgdjfcmmpjcaaaaDoorLawChoosePlainM6
import Derived.Test.YtgdjfcmmpjcaaaaDoorLawChoosePlainM4
import Derived.Test.YtgdjfcmmpjcaaaaDoorLawChoosePlainM5
import Derived.Test.YtgdjfcmmpjcaaaaDoorLawChoosePlainM2

namespace Go.Proofs.YtgdjfcmmpjcaaaaDoor.Pure
open Go Go.RowKit Go.Proofs.YtgdjfcmmpjcaaaaDoor.Q Go.Proofs.YtgdjfcmmpjcaaaaDoorW.PrintWords Go.Proofs.YtgdjfcmmpjcaaaaDoorW.PrintLast Go.Proofs.YtgdjfcmmpjcaaaaDoorW.Own Go.Proofs.YtgdjfcmmpjcaaaaDoorW.PrintMore Go.Proofs.YtgdjfcmmpjcaaaaDoorW.Px
set_option linter.unusedSimpArgs false
set_option linter.unusedVariables false
def tailP (v : List UInt8) (i : Nat) (p : Pt) : Prop := p.tx = [] ∨ ∃ n, i = n + 1 ∧ p.tx.getLast? = v[n]?
theorem tail_next (v : List UInt8) (i : Nat) (h : i < v.length) (t : List UInt8) (a b : Bool) : tailP v (i + 1) ⟨t ++ [v[i]], a, b⟩ := by
  refine Or.inr ⟨i, rfl, ?_⟩
  simp [List.getElem?_eq_getElem h]
theorem parts_loop (v : List UInt8) (hv : v.length ≤ 1000000) : ∀ (d i k : Nat) (r : List Pt × Pt), i + d = v.length → r.1.length ≤ i → r.2.tx.length ≤ i → tailP v i r.2 →
    words_parts.l0 (k + d + 1) (ts v) ((allP r).map p93) (v.length : Int) (i : Int) = some ((allP (runP r (v.drop i))).map p93) := by
  intro d
  induction d with
  | zero =>
    intro i k r h _ _ _
    rw [words_parts.l0, if_neg (by omega), List.drop_eq_nil_of_le (by omega)]
    rfl
  | succ d ih =>
    intro i k r h h1 h2 h3
    have hi : i < v.length := by omega
    have q0 : (i : Int) < (v.length : Int) := by omega
    have q0' : (i : Int) < ((ts v).size : Int) := by rw [ts_size]; omega
    have hl := all_len p93 r
    have hx : wrap64 ((((allP r).map p93).length : Int) - 1) = (r.1.length : Int) := by rw [hl]; exact last_of _ (by omega)
    have q1 : (0 : Int) ≤ (r.1.length : Int) := by omega
    have q2 : (r.1.length : Int) < (((allP r).map p93).length : Int) := by rw [hl]; omega
    have q3 : (0 : Int) ≤ (i : Int) := by omega
    have q4 : ((allP r).map p93).length < 5864062014805 := by rw [hl]; omega
    have hn := next_of i (by omega)
    have hr : rd_T93 ((allP r).map p93) (r.1.length : Int) = p93 r.2 := all_getD p93 r _
    have hb := bt_nat v i hi
    have tn := tail_next v i hi
    have step : ∀ r', stepP r v[i] = r' → r'.1.length ≤ i + 1 → r'.2.tx.length ≤ i + 1 → tailP v (i + 1) r'.2 → words_parts.l0 (k + d + 1) (ts v) ((allP r').map p93) (v.length : Int) ((i + 1 : Nat) : Int) = some ((allP (runP r (v.drop i))).map p93) := by
      intro r' e a b t
      rw [ih (i + 1) k r' (by omega) a b t, runP_drop r v i hi, e]
    rw [show k + (d + 1) + 1 = (k + d + 1) + 1 from by omega, words_parts.l0, if_pos q0, if_pos q3, if_pos q0', hx, if_pos q1, if_pos q2, hr, hb, hn]
    generalize hc : v[i] = c at *
    by_cases c1 : c = 46
    · rw [if_pos (by rw [c1]; rfl), if_pos q4, all_add p93 r ⟨[], c == 45, false⟩ _ (by rw [c1]; rfl)]
      exact step _ (stepP_sep r c (Or.inl c1)) (by simp; omega) (by simp) (Or.inl rfl)
    · rw [if_neg (by rw [show (46 : Int) = ((46 : Nat) : Int) from rfl, beq_toNat c 46 (by omega)]; exact c1)]
      by_cases c2 : c = 45
      · rw [if_pos (by rw [c2]; rfl), if_pos q4, all_add p93 r ⟨[], c == 45, false⟩ _ (by rw [c2]; rfl)]
        exact step _ (stepP_sep r c (Or.inr c2)) (by simp; omega) (by simp) (Or.inl rfl)
      · rw [if_neg (by rw [show (45 : Int) = ((45 : Nat) : Int) from rfl, beq_toNat c 45 (by omega)]; exact c2)]
        have nc : ¬ (c = 46 ∨ c = 45) := by rintro (h | h); exact c1 h; exact c2 h
        have e1 : strOfNums [(c.toNat : Int)] = ts [c] := num_byte c
        have q7 : (p93 r.2).f0.size + (ts [c]).size ≤ 9223372036854775807 := by show (ts r.2.tx).size + (ts [c]).size ≤ _; rw [ts_size, ts_size]; simp; omega
        have same : likeP r.2.tx c = true → (if (p93 r.2).f0.size + (strOfNums [(c.toNat : Int)]).size ≤ 9223372036854775807 then (words_parts.l0 (k + d + 1) (ts v) (((allP r).map p93).set ((r.1.length : Int)).toNat (⟨(p93 r.2).f0 ++ (strOfNums [(c.toNat : Int)]), (p93 r.2).f1, (p93 r.2).f2⟩ : S93)) (v.length : Int) ((i + 1 : Nat) : Int)) else none) = some ((allP (runP r (v.drop i))).map p93) := by
          intro lk
          rw [e1, if_pos q7, all_put p93 r ⟨r.2.tx ++ [c], r.2.da, r.2.nu⟩ _ (by unfold p93; rw [ts_append])]
          exact step _ (stepP_like r c nc lk) (by simp; omega) (by simp; omega) (tn _ _ _)
        by_cases z : r.2.tx = []
        · have z' : (p93 r.2).f0.toList = ([] : List UInt8) := by show (ts r.2.tx).toList = []; rw [ts_toList]; exact z
          rw [if_pos z', Option.bind_some]
          exact same (by rw [z]; rfl)
        · have z' : ¬ (p93 r.2).f0.toList = ([] : List UInt8) := by show ¬ (ts r.2.tx).toList = []; rw [ts_toList]; exact z
          obtain ⟨n, hin, hlast⟩ : ∃ n, i = n + 1 ∧ r.2.tx.getLast? = v[n]? := by
            rcases h3 with h3 | h3
            · exact absurd h3 z
            · exact h3
          have hnv : n < v.length := by omega
          have hnn : n < 4611686018427387904 := by omega
          have hg : r.2.tx.getLast z = v[n] := by
            rw [List.getLast?_eq_some_getLast z, List.getElem?_eq_getElem hnv] at hlast
            exact Option.some.inj hlast
          have hp : wrap64 ((i : Int) - 1) = (n : Int) := by rw [hin]; exact last_of n hnn
          rw [if_neg z', digit_told, Option.bind_some, hp, if_pos (by omega), if_pos (by rw [ts_size]; omega), bt_nat v n hnv, digit_told, Option.bind_some, ← hg]
          by_cases e : isD (r.2.tx.getLast z) = isD c
          · rw [if_neg (by rw [e]; simp), Option.bind_some]
            exact same (by rw [like_last _ _ z, e]; simp)
          · rw [if_pos (by simpa using fun h => e h.symm), Option.bind_some, Option.bind_some]
            have ea : ((allP r).map p93).set ((r.1.length : Int)).toNat (⟨(p93 r.2).f0, (p93 r.2).f1, isD c⟩ : S93) = (allP (r.1, ⟨r.2.tx, r.2.da, isD c⟩)).map p93 := all_put p93 r _ _ rfl
            rw [ea]
            have la := all_len p93 (r.1, ⟨r.2.tx, r.2.da, isD c⟩)
            have q8 : ((allP (r.1, ⟨r.2.tx, r.2.da, isD c⟩)).map p93).length < 5864062014805 := by rw [la]; simp; omega
            rw [if_pos q8, Option.bind_some, all_add p93 (r.1, ⟨r.2.tx, r.2.da, isD c⟩) ⟨[], true, false⟩ (⟨(⟨#[]⟩ : ByteArray), true, false⟩ : S93) rfl]
            generalize hR : ((r.1 ++ [(⟨r.2.tx, r.2.da, isD c⟩ : Pt)], (⟨[], true, false⟩ : Pt)) : List Pt × Pt) = R
            have R1 : R.1 = r.1 ++ [(⟨r.2.tx, r.2.da, isD c⟩ : Pt)] := by rw [← hR]
            have R2 : R.2 = ⟨[], true, false⟩ := by rw [← hR]
            have Rl : R.1.length = r.1.length + 1 := by rw [R1]; simp
            have lR := all_len p93 R
            have hxR : wrap64 ((((allP R).map p93).length : Int) - 1) = (R.1.length : Int) := by rw [lR]; exact last_of _ (by omega)
            have hrR : rd_T93 ((allP R).map p93) (R.1.length : Int) = p93 R.2 := all_getD p93 R _
            rw [hxR, if_pos (by omega), if_pos (by rw [lR]; omega), Option.bind_some, hrR, e1]
            have q9 : (p93 R.2).f0.size + (ts [c]).size ≤ 9223372036854775807 := by rw [R2]; show (ts []).size + (ts [c]).size ≤ _; rw [ts_size, ts_size]; simp
            rw [if_pos q9, all_put p93 R ⟨[c], true, false⟩ _ (by rw [R2]; unfold p93; rw [ts_append]; rfl)]
            exact step (R.1, ⟨[c], true, false⟩) (by rw [stepP_new r c nc (by rw [like_last _ _ z]; simpa using e), R1]) (by simp; omega) (by simp) (tn [] true false)
theorem parts_told (v : List UInt8) (hv : v.length ≤ 1000000) (k : Nat) (hk : v.length + 1 ≤ k) : words_parts.f k (ts v) = some ((partsL v).map p93) := by
  have := parts_loop v hv v.length 0 (k - v.length - 1) p0 (by omega) (by simp [p0]) (by simp [p0]) (Or.inl rfl)
  rw [show k - v.length - 1 + v.length + 1 = k from by omega, ← ts_size v] at this
  exact this
end Go.Proofs.YtgdjfcmmpjcaaaaDoor.Pure

namespace Go.Proofs.YtgdjfcmmpjcaaaaDoor.Pure
open Go Go.RowKit Go.Proofs.YtgdjfcmmpjcaaaaDoor.Q Go.Proofs.YtgdjfcmmpjcaaaaDoorW.PrintWords Go.Proofs.YtgdjfcmmpjcaaaaDoorW.PrintLast Go.Proofs.YtgdjfcmmpjcaaaaDoorW.Own Go.Proofs.YtgdjfcmmpjcaaaaDoorW.PrintMore Go.Proofs.YtgdjfcmmpjcaaaaDoorW.Px
set_option linter.unusedSimpArgs false
set_option linter.unusedVariables false
def w38 (w : Wl) : S38 := ⟨w.1, ts w.2⟩
def pr (w : Wl) : Int × ByteArray := (w.1, ts w.2)
theorem kindL_plain (t : List UInt8) (nu : Bool) (ka : ∀ c : List UInt8, (c = [97] ∨ c = [98] ∨ c = [109]) → (nu = true ∧ t = c) = False) : kindL t nu = if t = tA then 1 else if t = tB then 2 else if t = tM then 3 else if t = tRc ∨ t = tCr then 4 else if t = tS then 5 else if t = tGa ∨ t = tFi ∨ t = tRe then 6 else if t = tSp then 7 else 8 := by
  have a := ka [97] (by simp)
  have b := ka [98] (by simp)
  have c := ka [109] (by simp)
  unfold kindL
  simp only [a, b, c, or_false]
theorem letters_told (t : List UInt8) (da nu : Bool) (k : Nat) (hk : 4 ≤ k) : words_letters.f k (ts t) da nu = some (pr (letL t nu)) := by
  obtain ⟨j, rfl⟩ : ∃ j, k = j + 1 + 1 + 1 := ⟨k - 3, by omega⟩
  have gen : ∀ s x, (s = t ∨ nu = true ∧ (s = tA ∧ t = [97] ∨ s = tB ∧ t = [98] ∨ s = tM ∧ t = [109])) → (s = t → ¬ (nu = true ∧ (t = [97] ∨ t = [98] ∨ t = [109]))) → x = ts s → words_letters.j0 (j + 1 + 1 + 1) x (ts t) da nu = some (pr (letL t nu)) := by
    rintro s _ hs hne rfl
    rcases hs with rfl | ⟨hn, ⟨rfl, rfl⟩ | ⟨rfl, rfl⟩ | ⟨rfl, rfl⟩⟩
    · have hx := hne rfl
      have ka : ∀ c, (c = [97] ∨ c = [98] ∨ c = [109]) → (nu = true ∧ s = c) = False := by
        intro c hc
        apply eq_false
        rintro ⟨h1, h2⟩
        exact hx ⟨h1, h2 ▸ hc⟩
      rw [words_letters.j0, ts_toList]
      unfold letL
      rw [kindL_plain s nu ka]
      by_cases h1 : s = tA
      · rw [if_pos h1, if_pos h1]; rfl
      · rw [if_neg h1, if_neg h1]
        by_cases h2 : s = tB
        · rw [if_pos h2, if_pos h2]; rfl
        · rw [if_neg h2, if_neg h2]
          by_cases h3 : s = tM
          · rw [if_pos h3, if_pos h3]; rfl
          · rw [if_neg h3, if_neg h3]
            have j2 : ∀ b, (¬ b = true → ¬ (s = tGa ∨ s = tFi ∨ s = tRe)) → (b = true → (s = tGa ∨ s = tFi ∨ s = tRe)) → words_letters.j2 (j + 1) (ts s) b (ts s) da nu = some (pr (if (if s = tGa ∨ s = tFi ∨ s = tRe then (6 : Int) else if s = tSp then 7 else 8) = 8 then (8, s) else ((if s = tGa ∨ s = tFi ∨ s = tRe then (6 : Int) else if s = tSp then 7 else 8), []))) := by
              intro b hb1 hb2
              rw [words_letters.j2, ts_toList]
              by_cases hb : b = true
              · rw [if_pos hb, if_pos (hb2 hb)]; rfl
              · rw [if_neg hb, if_neg (hb1 hb)]
                by_cases h7 : s = tSp
                · rw [if_pos h7, if_pos h7]; rfl
                · rw [if_neg h7, if_neg h7]; rfl
            have j1 : ∀ b, (¬ b = true → ¬ (s = tRc ∨ s = tCr)) → (b = true → (s = tRc ∨ s = tCr)) → words_letters.j1 (j + 1 + 1) (ts s) b (ts s) da nu = some (pr (if (if s = tRc ∨ s = tCr then (4 : Int) else if s = tS then 5 else if s = tGa ∨ s = tFi ∨ s = tRe then (6 : Int) else if s = tSp then 7 else 8) = 8 then (8, s) else ((if s = tRc ∨ s = tCr then (4 : Int) else if s = tS then 5 else if s = tGa ∨ s = tFi ∨ s = tRe then (6 : Int) else if s = tSp then 7 else 8), []))) := by
              intro b hb1 hb2
              rw [words_letters.j1, ts_toList]
              by_cases hb : b = true
              · rw [if_pos hb, if_pos (hb2 hb)]; rfl
              · rw [if_neg hb, if_neg (hb1 hb)]
                by_cases h5 : s = tS
                · rw [if_pos h5, if_pos h5]; rfl
                · rw [if_neg h5, if_neg h5]
                  by_cases h6 : s = tGa
                  · rw [if_pos h6]; exact j2 _ (fun h => absurd (by rw [show s = [103, 97] from h6]; rfl) h) (fun _ => Or.inl h6)
                  · rw [if_neg h6]
                    by_cases h8 : s = tFi
                    · rw [if_pos h8]; exact j2 _ (fun h => absurd (by rw [show s = [102, 105, 110, 97, 108] from h8]; rfl) h) (fun _ => Or.inr (Or.inl h8))
                    · rw [if_neg h8]
                      refine j2 _ ?_ ?_
                      · rintro h (g | g | g)
                        · exact h6 g
                        · exact h8 g
                        · exact h (by rw [show s = [114, 101, 108, 101, 97, 115, 101] from g]; rfl)
                      · intro h; exact Or.inr (Or.inr (beq_iff_eq.1 h))
            by_cases h4 : s = tRc
            · rw [if_pos h4]; exact j1 _ (fun h => absurd (by rw [show s = [114, 99] from h4]; rfl) h) (fun _ => Or.inl h4)
            · rw [if_neg h4]
              refine j1 _ ?_ ?_
              · rintro h (g | g)
                · exact h4 g
                · exact h (by rw [show s = [99, 114] from g]; rfl)
              · intro h; exact Or.inr (beq_iff_eq.1 h)
    · subst hn; rw [words_letters.j0, ts_toList, if_pos rfl]; rfl
    · subst hn; rw [words_letters.j0, ts_toList, if_neg (by decide), if_pos rfl]; rfl
    · subst hn; rw [words_letters.j0, ts_toList, if_neg (by decide), if_neg (by decide), if_pos rfl]; rfl
  unfold words_letters.f
  rw [ts_toList]
  by_cases hn : nu = true
  · rw [if_pos hn]
    by_cases h1 : t = [97]
    · rw [if_pos h1]; exact gen tA _ (Or.inr ⟨hn, Or.inl ⟨rfl, h1⟩⟩) (fun h => by rw [h1] at h; exact absurd h (by decide)) rfl
    · rw [if_neg h1]
      by_cases h2 : t = [98]
      · rw [if_pos h2]; exact gen tB _ (Or.inr ⟨hn, Or.inr (Or.inl ⟨rfl, h2⟩)⟩) (fun h => by rw [h2] at h; exact absurd h (by decide)) rfl
      · rw [if_neg h2]
        by_cases h3 : t = [109]
        · rw [if_pos h3]; exact gen tM _ (Or.inr ⟨hn, Or.inr (Or.inr ⟨rfl, h3⟩)⟩) (fun h => by rw [h3] at h; exact absurd h (by decide)) rfl
        · rw [if_neg h3]
          refine gen t _ (Or.inl rfl) ?_ rfl
          rintro _ ⟨_, g | g | g⟩
          · exact h1 g
          · exact h2 g
          · exact h3 g
  · rw [if_neg hn]
    exact gen t _ (Or.inl rfl) (fun _ h => hn h.1) rfl
theorem trim_told (t : List UInt8) : strings_TrimLeft.f (ts t) (⟨#[48]⟩ : ByteArray) = some (ts (t.dropWhile (· == 48))) := by
  unfold strings_TrimLeft.f
  rw [if_pos ⟨rfl, by decide⟩]
  rfl
theorem word_told (p : Pt) (k : Nat) (hk : 5 ≤ k) : words_word.f k (p93 p).f0 (p93 p).f1 (p93 p).f2 = some (pr (wordL p)) := by
  obtain ⟨j, rfl⟩ : ∃ j, k = j + 1 := ⟨k - 1, by omega⟩
  obtain ⟨t, da, nu⟩ := p
  show words_word.f (j + 1) (ts t) da nu = _
  have nums : words_word.j0 (j + 1) false (ts t) da nu = some (pr (numL t da)) := by
    rw [words_word.j0, if_neg (by simp), trim_told, Option.bind_some, ts_toList]
    unfold numL
    by_cases z : t.dropWhile (· == 48) = []
    · rw [if_pos z, if_pos z]; rfl
    · rw [if_neg z, if_neg z]
      by_cases d : da = true
      · rw [if_pos d, if_pos d]; rfl
      · rw [if_neg d, if_neg d]; rfl
  unfold words_word.f wordL
  rw [ts_toList]
  cases t with
  | nil => rw [if_pos rfl, nums]; rfl
  | cons c t =>
    have hb : bt (ts (c :: t)) 0 = (c.toNat : Int) := bt_nat (c :: t) 0 (by simp)
    rw [if_neg (by simp), if_pos (by rw [ts_size, List.length_cons]; omega), hb, digit_told, Option.bind_some]
    show _ = some (pr (if isD c = true then numL (c :: t) da else letL (c :: t) nu))
    by_cases d : isD c = true
    · rw [if_pos d, d]; exact nums
    · rw [if_neg d, Bool.eq_false_iff.2 d]
      show words_word.j0 (j + 1) true _ _ _ = _
      rw [words_word.j0, if_pos rfl, letters_told _ _ _ _ (by omega)]
      rfl
end Go.Proofs.YtgdjfcmmpjcaaaaDoor.Pure

namespace Go.Proofs.YtgdjfcmmpjcaaaaDoor.Pure
open Go Go.RowKit Go.Proofs.YtgdjfcmmpjcaaaaDoor.Q Go.Proofs.YtgdjfcmmpjcaaaaDoorW.PrintWords Go.Proofs.YtgdjfcmmpjcaaaaDoorW.PrintLast Go.Proofs.YtgdjfcmmpjcaaaaDoorW.Own Go.Proofs.YtgdjfcmmpjcaaaaDoorW.PrintMore Go.Proofs.YtgdjfcmmpjcaaaaDoorW.Px
set_option linter.unusedSimpArgs false
set_option linter.unusedVariables false
def toN (c : UInt8) : Int := (c.toNat : Int)
theorem nums_ts (l : List UInt8) : strOfNums (l.map toN) = ts l := by
  apply ba_ext
  show (l.map toN).map (fun n => UInt8.ofNat n.toNat) = l
  rw [List.map_map]
  conv => rhs; rw [← List.map_id l]
  apply List.map_congr_left
  intro c _
  show UInt8.ofNat (Int.toNat (c.toNat : Int)) = c
  rw [Int.toNat_natCast]; simp
theorem low_num (c : UInt8) : (if 65 ≤ (c.toNat : Int) ∧ (c.toNat : Int) ≤ 90 then (c.toNat : Int) + 32 else (c.toNat : Int)) = toN (lowB c) := by
  unfold lowB toN
  by_cases h : 65 ≤ c.toNat ∧ c.toNat ≤ 90
  · rw [if_pos (by omega), if_pos h, UInt8.toNat_add]
    have : (32 : UInt8).toNat = 32 := rfl
    rw [this]; omega
  · rw [if_neg (by omega), if_neg h]
theorem lower_told (v : List UInt8) (hv : v.length ≤ 1000000) : chars_Lower.f (ts v) = some (ts (v.map lowB)) := by
  unfold chars_Lower.f
  rw [if_pos (by rw [ts_size]; omega), ← nums_ts (v.map lowB)]
  congr 2
  unfold bytesOf
  rw [ts_list, List.map_map, List.map_map]
  apply List.map_congr_left
  intro c _
  exact low_num c
theorem rev_loop : ∀ (n : Nat) (m a b : List S38) (k : Nat), m.length ≤ n → a.length + m.length + b.length ≤ 4000000 →
    api_Word_73.l0 (k + n + 1) (a ++ (m ++ b)) (a.length : Int) (((a.length + m.length : Nat) : Int) - 1) = some (a ++ (m.reverse ++ b)) := by
  intro n
  induction n with
  | zero =>
    intro m a b k h _
    obtain rfl : m = [] := List.eq_nil_of_length_eq_zero (by omega)
    rw [api_Word_73.l0, if_neg (by simp; omega)]
    rfl
  | succ n ih =>
    intro m a b k h hb
    match m, h, hb with
    | [], h, hb => rw [api_Word_73.l0, if_neg (by simp; omega)]; rfl
    | [x], h, hb => rw [api_Word_73.l0, if_neg (by simp)]; rfl
    | x :: y :: m', h, hb =>
      obtain ⟨c, z, hc⟩ : ∃ c z, y :: m' = c ++ [z] := ⟨(y :: m').dropLast, (y :: m').getLast (by simp), (List.dropLast_concat_getLast (by simp)).symm⟩
      rw [hc] at h hb ⊢
      simp only [List.length_cons, List.length_append, List.length_nil] at h hb
      have hj : (((a.length + (x :: (c ++ [z])).length : Nat) : Int) - 1) = ((a.length + 1 + c.length : Nat) : Int) := by simp; omega
      have hL : (a ++ (x :: (c ++ [z]) ++ b)).length = a.length + 1 + c.length + 1 + b.length := by simp; omega
      have gz : rd_T38 (a ++ (x :: (c ++ [z]) ++ b)) ((a.length + 1 + c.length : Nat) : Int) = z := by
        unfold rd_T38
        rw [Int.toNat_natCast, List.getD_eq_getElem?_getD, List.getElem?_append_right (by omega)]
        rw [show a.length + 1 + c.length - a.length = c.length + 1 from by omega]
        simp
      have gx : rd_T38 (a ++ (x :: (c ++ [z]) ++ b)) ((a.length : Nat) : Int) = x := by
        unfold rd_T38
        rw [Int.toNat_natCast, List.getD_eq_getElem?_getD, List.getElem?_append_right (by omega)]
        simp
      have s1 : (a ++ (x :: (c ++ [z]) ++ b)).set ((a.length : Nat) : Int).toNat z = a ++ (z :: (c ++ [z]) ++ b) := by
        rw [Int.toNat_natCast, List.set_append_right _ _ (by omega)]
        simp
      have s2 : (a ++ (z :: (c ++ [z]) ++ b)).set ((a.length + 1 + c.length : Nat) : Int).toNat x = (a ++ [z]) ++ (c ++ ([x] ++ b)) := by
        rw [Int.toNat_natCast, List.set_append_right _ _ (by omega), show a.length + 1 + c.length - a.length = c.length + 1 from by omega]
        simp
      have w1 : wrap64 (((a.length : Nat) : Int) + 1) = (((a ++ [z]).length : Nat) : Int) := by
        rw [List.length_append]; unfold wrap64; simp; omega
      have w2 : wrap64 (((a.length + 1 + c.length : Nat) : Int) - 1) = (((a ++ [z]).length + c.length : Nat) : Int) - 1 := by
        rw [List.length_append]; unfold wrap64; simp; omega
      have := ih c (a ++ [z]) ([x] ++ b) k (by omega) (by simp; omega)
      rw [show k + (n + 1) + 1 = (k + n + 1) + 1 from by omega, api_Word_73.l0, hj, if_pos (by omega), if_pos (by omega), if_pos (by rw [hL]; omega), if_pos (by omega), if_pos (by rw [hL]; omega), gz, gx]
      show api_Word_73.l0 (k + n + 1) ((((a ++ (x :: (c ++ [z]) ++ b)).set ((a.length : Nat) : Int).toNat z)).set ((a.length + 1 + c.length : Nat) : Int).toNat x) _ _ = _
      rw [s1, s2, w1, w2, this]
      simp
theorem rev_told (l : List S38) (hl : l.length ≤ 4000000) (k : Nat) (hk : l.length + 1 ≤ k) : api_Word_73.f k l = some l.reverse := by
  have := rev_loop l.length l [] [] (k - l.length - 1) (Nat.le_refl _) (by simp; omega)
  rw [show k - l.length - 1 + l.length + 1 = k from by omega, List.append_nil, List.append_nil] at this
  unfold api_Word_73.f
  rw [show wrap64 ((l.length : Int) - 1) = (((([] : List S38).length + l.length : Nat) : Int) - 1) from by unfold wrap64; simp; omega]
  exact this
theorem push_skip (w : Wl) (out : List Wl) (h : w.1 = 6) (g : aheadL out = false) : pushL w out = out := if_pos ⟨h, g⟩
theorem push_add (w : Wl) (out : List Wl) (h : ¬ (w.1 = 6 ∧ aheadL out = false)) : pushL w out = w :: out := if_neg h
theorem ahead_cons (w : Wl) (l : List Wl) : aheadL (w :: l) = false ↔ ¬ w.1 = 6 ∧ ¬ w.1 = 10 := by
  unfold aheadL; simp
theorem split_loop : ∀ (n : Nat) (l : List Pt) (out : List Wl) (k : Nat), l.length = n → out.length + l.length ≤ 1000000 → out.length + l.length + 10 ≤ k →
    words_Split.l0 (k + n + 1) ((out.map w38).reverse) (l.map p93) = some (((l.map wordL).foldr pushL out).map w38) := by
  intro n
  induction n with
  | zero =>
    intro l out k h _ hk
    obtain rfl : l = [] := List.eq_nil_of_length_eq_zero h
    rw [words_Split.l0, if_pos (by simp), rev_told _ (by simp; omega) _ (by simp; omega), Option.bind_some, List.reverse_reverse]
    rfl
  | succ n ih =>
    intro l out k h hs hk
    obtain ⟨l', p, rfl⟩ : ∃ l' p, l = l' ++ [p] := ⟨l.dropLast, l.getLast (by intro z; rw [z] at h; simp at h), (List.dropLast_concat_getLast _).symm⟩
    have hl' : l'.length = n := by simpa using h
    rw [List.length_append, List.length_singleton] at hs hk
    have hm : ((l' ++ [p]).map p93).length = n + 1 := by rw [List.length_map, List.length_append, hl']; rfl
    have hx : wrap64 ((((l' ++ [p]).map p93).length : Int) - 1) = ((n : Nat) : Int) := by rw [hm]; exact last_of n (by omega)
    have hr : rd_T93 ((l' ++ [p]).map p93) ((n : Nat) : Int) = p93 p := by
      unfold rd_T93
      rw [Int.toNat_natCast, List.map_append, List.getD_eq_getElem?_getD, List.getElem?_append_right (by simp; omega)]
      simp [hl']
    have ht : ((l' ++ [p]).map p93).take ((n : Nat) : Int).toNat = l'.map p93 := by
      rw [Int.toNat_natCast, List.map_append, List.take_append_of_le_length (by simp; omega), List.take_of_length_le (by simp; omega)]
    have fold : (((l' ++ [p]).map wordL).foldr pushL out) = (l'.map wordL).foldr pushL (pushL (wordL p) out) := by simp
    have hlen : ((out.map w38).reverse).length = out.length := by simp
    have add : ¬ ((wordL p).1 = 6 ∧ aheadL out = false) → (if ((out.map w38).reverse).length < 5864062014805 then words_Split.l0 (k + n + 1) ((out.map w38).reverse ++ [(⟨(pr (wordL p)).1, (pr (wordL p)).2⟩ : S38)]) (l'.map p93) else none) = some ((((l' ++ [p]).map wordL).foldr pushL out).map w38) := by
      intro hp
      have e : (out.map w38).reverse ++ [(⟨(pr (wordL p)).1, (pr (wordL p)).2⟩ : S38)] = (((wordL p :: out)).map w38).reverse := by
        rw [List.map_cons, List.reverse_cons]; rfl
      rw [if_pos (by rw [hlen]; omega), e, ih l' (wordL p :: out) k hl' (by simp; omega) (by simp; omega), fold, push_add _ _ hp]
    have skip : (wordL p).1 = 6 → aheadL out = false → words_Split.l0 (k + n + 1) ((out.map w38).reverse) (l'.map p93) = some ((((l' ++ [p]).map wordL).foldr pushL out).map w38) := by
      intro h1 h2
      rw [ih l' out k hl' (by omega) (by omega), fold, push_skip _ _ h1 h2]
    rw [show k + (n + 1) + 1 = (k + n + 1) + 1 from by omega, words_Split.l0, if_neg (by rw [hm]; omega), hx, if_pos (by omega), if_pos (by rw [hm]; omega), hr, word_told p _ (by omega), Option.bind_some, if_pos (by rw [hm]; omega), ht, Option.bind_some]
    by_cases h6 : (pr (wordL p)).1 = 6
    · rw [if_pos h6]
      cases out with
      | nil =>
        rw [if_neg (by simp)]
        exact skip h6 rfl
      | cons o os =>
        have ho : (((o :: os).map w38).reverse).length = os.length + 1 := by simp
        have hy : wrap64 (((((o :: os).map w38).reverse).length : Int) - 1) = ((os.length : Nat) : Int) := by rw [ho]; exact last_of _ (by simp at hs; omega)
        have hz : rd_T38 (((o :: os).map w38).reverse) ((os.length : Nat) : Int) = w38 o := by
          unfold rd_T38
          rw [Int.toNat_natCast, List.map_cons, List.reverse_cons, List.getD_eq_getElem?_getD, List.getElem?_append_right (by simp)]
          simp
        rw [if_pos (by rw [ho]; omega), hy, if_pos (by omega), if_pos (by rw [ho]; omega), hz]
        by_cases a6 : (w38 o).f0 = 6
        · rw [if_pos a6]
          exact add (fun h => ((ahead_cons o os).1 h.2).1 a6)
        · rw [if_neg a6]
          by_cases a10 : (w38 o).f0 = 10
          · rw [if_pos a10]
            exact add (fun h => ((ahead_cons o os).1 h.2).2 a10)
          · rw [if_neg a10]
            exact skip h6 ((ahead_cons o os).2 ⟨a6, a10⟩)
    · rw [if_neg h6]
      exact add (fun h => h6 h.1)
theorem stepP_B (r : List Pt × Pt) (c : UInt8) (B : Nat) (h : ∀ p ∈ allP r, p.tx.length ≤ B) : (∀ p ∈ allP (stepP r c), p.tx.length ≤ B + 1) ∧ (allP (stepP r c)).length ≤ (allP r).length + 1 := by
  have h1 : ∀ p ∈ r.1, p.tx.length ≤ B := fun p hp => h p (List.mem_append_left _ hp)
  have h2 : r.2.tx.length ≤ B := h _ (List.mem_append_right _ (List.mem_singleton.2 rfl))
  unfold stepP allP
  split
  · refine ⟨?_, by simp⟩
    intro p hp
    simp only [List.mem_append, List.mem_singleton] at hp
    rcases hp with (hp | rfl) | rfl
    · have := h1 p hp; omega
    · omega
    · simp
  · split
    · refine ⟨?_, by simp⟩
      intro p hp
      simp only [List.mem_append, List.mem_singleton] at hp
      rcases hp with hp | rfl
      · have := h1 p hp; omega
      · simp; omega
    · refine ⟨?_, by simp⟩
      intro p hp
      simp only [List.mem_append, List.mem_singleton] at hp
      rcases hp with (hp | rfl) | rfl
      · have := h1 p hp; omega
      · simp; omega
      · simp
theorem runP_B : ∀ (l : List UInt8) (r : List Pt × Pt) (B : Nat), (∀ p ∈ allP r, p.tx.length ≤ B) → (∀ p ∈ allP (runP r l), p.tx.length ≤ B + l.length) ∧ (allP (runP r l)).length ≤ (allP r).length + l.length
  | [], _, _, h => ⟨fun p hp => h p hp, Nat.le_refl _⟩
  | c :: l, r, B, h => by
    have s := stepP_B r c B h
    have i := runP_B l (stepP r c) (B + 1) s.1
    refine ⟨fun p hp => ?_, ?_⟩
    · have := i.1 p hp
      rw [List.length_cons]; omega
    · have a := i.2
      have b := s.2
      rw [List.length_cons]
      show (allP (runP (stepP r c) l)).length ≤ _
      omega
theorem partsL_B (l : List UInt8) : (∀ p ∈ partsL l, p.tx.length ≤ l.length) ∧ (partsL l).length ≤ l.length + 1 := by
  have := runP_B l p0 0 (fun p hp => by obtain rfl := List.mem_singleton.1 hp; exact Nat.le_refl _)
  refine ⟨fun p hp => ?_, ?_⟩
  · have := this.1 p hp; omega
  · have := this.2
    have e : (allP p0).length = 1 := rfl
    unfold partsL; omega
theorem split_told (v : List UInt8) (hv : v.length ≤ 100000) (k : Nat) (hk : 3 * v.length + 40 ≤ k) : words_Split.f k (ts v) = some ((splitL v).map w38) := by
  have hB := partsL_B (v.map lowB)
  rw [List.length_map] at hB
  unfold words_Split.f
  rw [lower_told v (by omega), Option.bind_some, parts_told _ (by rw [List.length_map]; omega) k (by rw [List.length_map]; omega), Option.bind_some]
  have := split_loop (partsL (v.map lowB)).length (partsL (v.map lowB)) [] (k - (partsL (v.map lowB)).length - 1) rfl (by simp; omega) (by simp; omega)
  rw [show k - (partsL (v.map lowB)).length - 1 + (partsL (v.map lowB)).length + 1 = k from by omega] at this
  exact this
theorem pushL_len (w : Wl) (out : List Wl) : (pushL w out).length ≤ out.length + 1 := by
  unfold pushL; split <;> simp
theorem splitL_len (v : List UInt8) : (splitL v).length ≤ v.length + 1 := by
  have g : ∀ l : List Wl, (l.foldr pushL []).length ≤ l.length := by
    intro l
    induction l with
    | nil => simp
    | cons w l ih => rw [List.foldr_cons]; have := pushL_len w (l.foldr pushL []); rw [List.length_cons]; omega
  have := g ((partsL (v.map lowB)).map wordL)
  have hB := (partsL_B (v.map lowB)).2
  rw [List.length_map] at this hB
  unfold splitL outL
  omega
end Go.Proofs.YtgdjfcmmpjcaaaaDoor.Pure

namespace Go.Proofs.YtgdjfcmmpjcaaaaDoor.Pure
open Go Go.RowKit Go.Proofs.YtgdjfcmmpjcaaaaDoor.Q Go.Proofs.YtgdjfcmmpjcaaaaDoorW.PrintWords Go.Proofs.YtgdjfcmmpjcaaaaDoorW.PrintLast Go.Proofs.YtgdjfcmmpjcaaaaDoorW.Own Go.Proofs.YtgdjfcmmpjcaaaaDoorW.PrintMore Go.Proofs.YtgdjfcmmpjcaaaaDoorW.Px
set_option linter.unusedSimpArgs false
set_option linter.unusedVariables false
end Go.Proofs.YtgdjfcmmpjcaaaaDoor.Pure

namespace Go.Proofs.YtgdjfcmmpjcaaaaDoor.Pure
open Go Go.RowKit Go.Proofs.YtgdjfcmmpjcaaaaDoor.Q Go.Proofs.YtgdjfcmmpjcaaaaDoorW.PrintWords Go.Proofs.YtgdjfcmmpjcaaaaDoorW.PrintLast Go.Proofs.YtgdjfcmmpjcaaaaDoorW.Own Go.Proofs.YtgdjfcmmpjcaaaaDoorW.PrintMore Go.Proofs.YtgdjfcmmpjcaaaaDoorW.Px
set_option linter.unusedSimpArgs false
set_option linter.unusedVariables false
theorem cmp_int (a b : Int) : cmp_Compare_int.f a b = some (if a < b then -1 else if a > b then 1 else 0) := by
  unfold cmp_Compare_int.f cmp_isNaN_int.f
  rw [Option.bind_some, Option.bind_some, if_neg (by simp), if_neg (by simp)]
  repeat' split
  all_goals rfl
theorem cmp_str (a b : List UInt8) : cmp_Compare_string.f (ts a) (ts b) = some (if Op.bytesLess a b = true then -1 else if Op.bytesLess b a = true then 1 else 0) := by
  unfold cmp_Compare_string.f cmp_isNaN_string.f
  rw [Option.bind_some, Option.bind_some, if_neg (by simp), if_neg (by simp), ts_toList, ts_toList]
  repeat' split
  all_goals rfl
theorem or_two (a b : Int) (k : Nat) (hk : 4 ≤ k) : cmp_Or_int.f k [a, b] = some (if a = 0 then b else a) := by
  obtain ⟨k, rfl⟩ : ∃ j, k = j + 1 + 1 + 1 := ⟨k - 3, by omega⟩
  unfold cmp_Or_int.f
  have r0 : rd [a, b] 0 = a := rfl
  have r1 : rd [a, b] 1 = b := rfl
  have w0 : wrap64 ((0 : Int) + 1) = 1 := by unfold wrap64; omega
  have w1 : wrap64 ((1 : Int) + 1) = 2 := by unfold wrap64; omega
  have l2 : (([a, b] : List Int).length : Int) = 2 := rfl
  rw [l2, cmp_Or_int.l0, if_pos (by decide), if_pos (by decide), l2, if_pos (by decide), r0, w0]
  by_cases h : a = 0
  · rw [if_pos h, if_pos h, cmp_Or_int.l0, if_pos (by decide), if_pos (by decide), l2, if_pos (by decide), r1, w1]
    by_cases g : b = 0
    · rw [if_pos g, cmp_Or_int.l0, if_neg (by decide), g]
    · rw [if_neg g]
  · rw [if_neg h, if_neg h]
end Go.Proofs.YtgdjfcmmpjcaaaaDoor.Pure

namespace Go.Proofs.YtgdjfcmmpjcaaaaDoor.Pure
open Go Go.RowKit Go.Proofs.YtgdjfcmmpjcaaaaDoor.Q Go.Proofs.YtgdjfcmmpjcaaaaDoorW.PrintWords Go.Proofs.YtgdjfcmmpjcaaaaDoorW.PrintLast Go.Proofs.YtgdjfcmmpjcaaaaDoorW.Own Go.Proofs.YtgdjfcmmpjcaaaaDoorW.PrintMore Go.Proofs.YtgdjfcmmpjcaaaaDoorW.Px
set_option linter.unusedSimpArgs false
set_option linter.unusedVariables false
def Tot {α : Type} (f : Nat → Option α) (P : α → Prop) : Prop := ∃ k r, P r ∧ ∀ j, k ≤ j → f j = some r
theorem tot_lift {α : Type} {f : Nat → Option α} {P : α → Prop} (m : ∀ k, LeO (f k) (f (k + 1))) {k : Nat} {r : α} (h : f k = some r) (p : P r) : Tot f P := by
  refine ⟨k, r, p, fun j hj => ?_⟩
  obtain ⟨i, rfl⟩ := Nat.exists_eq_add_of_le hj
  clear hj
  induction i with
  | zero => exact h
  | succ i ih => exact m _ _ ih
theorem tot_get {α : Type} {f : Nat → Option α} {P : α → Prop} (h : Tot f P) : ∃ k r, P r ∧ ∀ j, k ≤ j → f j = some r := h
theorem cmp_text (a b : ByteArray) : ∃ c, cmp_Compare_string.f a b = some c := by
  have := cmp_str a.data.toList b.data.toList
  rw [ts_data, ts_data] at this
  exact ⟨_, this⟩
theorem word_total (n : Int) (a : ByteArray) (m : Int) (b : ByteArray) : ∃ c, ∀ k, 10 ≤ k → order_word.f k n a m b = some c := by
  obtain ⟨c1, h1⟩ := cmp_text a b
  have j : ∀ x : Bool, ∃ c, ∀ k, 9 ≤ k → order_word.j0 (k + 1) x n a m b = some c := by
    intro x
    cases x with
    | false => exact ⟨0, fun k _ => by rw [order_word.j0, if_neg (by decide)]⟩
    | true =>
      refine ⟨if (if (a.size : Int) < (b.size : Int) then (-1 : Int) else if (a.size : Int) > (b.size : Int) then 1 else 0) = 0 then c1 else (if (a.size : Int) < (b.size : Int) then (-1 : Int) else if (a.size : Int) > (b.size : Int) then 1 else 0), fun k hk => ?_⟩
      rw [order_word.j0, if_pos rfl, cmp_int, Option.bind_some, h1, Option.bind_some, or_two _ _ _ (by omega), Option.bind_some]
  unfold order_word.f
  rw [cmp_int]
  by_cases z : (if n < m then (-1 : Int) else if n > m then 1 else 0) = 0
  · by_cases e8 : n = 8
    · exact ⟨c1, fun k _ => by rw [Option.bind_some, if_pos z, if_pos e8, h1, Option.bind_some]⟩
    · by_cases e9 : n = 9
      · obtain ⟨c, h⟩ := j (n == 9)
        refine ⟨c, fun k hk => ?_⟩
        obtain ⟨k, rfl⟩ : ∃ i, k = i + 1 := ⟨k - 1, by omega⟩
        rw [Option.bind_some, if_pos z, if_neg e8, if_pos e9]
        exact h k (by omega)
      · obtain ⟨c, h⟩ := j (n == 10)
        refine ⟨c, fun k hk => ?_⟩
        obtain ⟨k, rfl⟩ : ∃ i, k = i + 1 := ⟨k - 1, by omega⟩
        rw [Option.bind_some, if_pos z, if_neg e8, if_neg e9]
        exact h k (by omega)
  · exact ⟨_, fun k _ => by rw [Option.bind_some, if_neg z]⟩
theorem at_total (l : List S38) (i : Nat) : ∃ n a, order_at.f l (i : Int) = some (n, a) := by
  unfold order_at.f
  by_cases h : (i : Int) < (l.length : Int)
  · exact ⟨_, _, by rw [if_pos h, if_pos (by omega)]⟩
  · exact ⟨_, _, by rw [if_neg h]⟩
theorem words_total (x y : List S38) (hx : x.length ≤ 100000) (hy : y.length ≤ 100000) : ∀ (d i : Nat), i ≤ 100000 → x.length ≤ i + d → y.length ≤ i + d → ∃ k c, order_Words.l0 k x y (i : Int) = some c := by
  have hm : ∀ i : Nat, (i : Int) < mx (x.length : Int) (y.length : Int) → i < x.length ∨ i < y.length := by
    intro i h
    unfold mx at h
    split at h
    · right; omega
    · left; omega
  intro d
  induction d with
  | zero =>
    intro i hi h1 h2
    obtain ⟨n, a, e1⟩ := at_total x i
    obtain ⟨m, b, e2⟩ := at_total y i
    obtain ⟨c, hc⟩ := word_total n a m b
    refine ⟨10 + 1, c, ?_⟩
    rw [order_Words.l0, e1, Option.bind_some, e2, Option.bind_some]
    dsimp only
    rw [hc 10 (by omega), Option.bind_some, next_of i (by omega)]
    have nb : ¬ ((i + 1 : Nat) : Int) < mx (x.length : Int) (y.length : Int) := fun h => by have := hm _ h; omega
    by_cases z : c = 0
    · rw [if_pos z, if_neg nb]
    · rw [if_neg z]
  | succ d ih =>
    intro i hi h1 h2
    obtain ⟨n, a, e1⟩ := at_total x i
    obtain ⟨m, b, e2⟩ := at_total y i
    obtain ⟨c, hc⟩ := word_total n a m b
    by_cases nb : ((i + 1 : Nat) : Int) < mx (x.length : Int) (y.length : Int)
    · obtain ⟨k, c2, h⟩ := ih (i + 1) (by have := hm _ nb; omega) (by omega) (by omega)
      obtain ⟨k0, r, hr, hl⟩ := tot_get (tot_lift (f := fun k => order_Words.l0 k x y ((i + 1 : Nat) : Int)) (P := fun r => r = c2) (fun k => order_Words.mono_l k _ _ _) h rfl)
      by_cases z : c = 0
      · refine ⟨(k0 + 10) + 1, r, ?_⟩
        rw [order_Words.l0, e1, Option.bind_some, e2, Option.bind_some]
        dsimp only
        rw [hc (k0 + 10) (by omega), Option.bind_some, next_of i (by omega), if_pos z, if_pos nb]
        exact hl (k0 + 10) (by omega)
      · refine ⟨10 + 1, c, ?_⟩
        rw [order_Words.l0, e1, Option.bind_some, e2, Option.bind_some]
        dsimp only
        rw [hc 10 (by omega), Option.bind_some, if_neg z]
    · refine ⟨10 + 1, c, ?_⟩
      rw [order_Words.l0, e1, Option.bind_some, e2, Option.bind_some]
      dsimp only
      rw [hc 10 (by omega), Option.bind_some, next_of i (by omega)]
      by_cases z : c = 0
      · rw [if_pos z, if_neg nb]
      · rw [if_neg z]
theorem compare_total (a b : ByteArray) (ha : a.size ≤ 1000) (hb : b.size ≤ 1000) : Tot (fun k => order_Compare.f k a b) (fun _ => True) := by
  have za := ba_size a
  have zb := ba_size b
  have sa := splitL_len a.data.toList
  have sb := splitL_len b.data.toList
  obtain ⟨k, c, h⟩ := words_total ((splitL a.data.toList).map w38) ((splitL b.data.toList).map w38) (by simp; omega) (by simp; omega) 100000 0 (by omega) (by simp; omega) (by simp; omega)
  obtain ⟨k0, r, hr, hl⟩ := tot_get (tot_lift (f := fun k => order_Words.l0 k ((splitL a.data.toList).map w38) ((splitL b.data.toList).map w38) ((0 : Nat) : Int)) (P := fun r => r = c) (fun k => order_Words.mono_l k _ _ _) h rfl)
  have e1 := split_told a.data.toList (by omega) (k0 + 4000) (by omega)
  have e2 := split_told b.data.toList (by omega) (k0 + 4000) (by omega)
  rw [ts_data] at e1 e2
  refine tot_lift (k := k0 + 4000) (r := r) (fun k => order_Compare.mono _ _ _) ?_ trivial
  unfold order_Compare.f order_Words.f
  rw [e1, Option.bind_some, e2, Option.bind_some]
  have := hl (k0 + 4000) (by omega)
  rw [show ((0 : Nat) : Int) = 0 from rfl] at this
  rw [this, Option.bind_some]
theorem right_any (s : ByteArray) (k : Nat) (hk : 101 ≤ k) : ∃ b, words_Right.f k s = some b := ⟨_, right_told s k hk⟩
theorem bound_total (v : ByteArray) (i : Bool) : Tot (fun k => span_bound.f k v i) (fun _ => True) := by
  obtain ⟨b, hb⟩ := right_any v 101 (Nat.le_refl _)
  have : ∃ c, span_bound.f 101 v i = some c := by
    unfold span_bound.f
    rw [hb, Option.bind_some]
    repeat' split
    all_goals exact ⟨_, rfl⟩
  obtain ⟨c, h⟩ := this
  exact tot_lift (fun k => span_bound.mono _ _ _) h trivial
theorem may_total (lo hi : ByteArray) (il ih : Bool) (hl : lo.size ≤ 1000) (hh : hi.size ≤ 1000) : Tot (fun k => span_may.f k lo hi il ih) (fun _ => True) := by
  obtain ⟨k1, b1, _, h1⟩ := tot_get (bound_total lo il)
  obtain ⟨k2, b2, _, h2⟩ := tot_get (bound_total hi ih)
  obtain ⟨k3, c, _, h3⟩ := tot_get (compare_total lo hi hl hh)
  have j : ∀ x : Bool, ∃ r, span_may.j0 (k1 + k2 + k3 + 1) x lo hi il ih = some r := by
    intro x
    rw [span_may.j0, h3 (k1 + k2 + k3) (by omega), Option.bind_some]
    repeat' split
    all_goals exact ⟨_, rfl⟩
  have : ∃ r, span_may.f (k1 + k2 + k3 + 1) lo hi il ih = some r := by
    unfold span_may.f
    rw [h1 (k1 + k2 + k3 + 1) (by omega), Option.bind_some, h2 (k1 + k2 + k3 + 1) (by omega), Option.bind_some]
    split
    · exact j _
    · exact j _
  obtain ⟨r, h⟩ := this
  exact tot_lift (fun k => span_may.mono _ _ _ _ _) h trivial
theorem behind_total (a b c d : ByteArray) (p q r s : Bool) (hb : b.size ≤ 1000) (hc : c.size ≤ 1000) : Tot (fun k => span_behind.f k a b p q c d r s) (fun _ => True) := by
  obtain ⟨k3, x, _, h3⟩ := tot_get (compare_total b c hb hc)
  have : ∃ y, span_behind.f k3 a b p q c d r s = some y := by
    unfold span_behind.f
    rw [h3 k3 (Nat.le_refl _), Option.bind_some]
    repeat' split
    all_goals exact ⟨_, rfl⟩
  obtain ⟨y, h⟩ := this
  exact tot_lift (fun k => span_behind.mono _ _ _ _ _ _ _ _ _) h trivial
theorem holds1_total (lo hi v : ByteArray) (il ih : Bool) (hl : lo.size ≤ 1000) (hh : hi.size ≤ 1000) (hv : v.size ≤ 1000) : Tot (fun k => span_holds.f k lo hi il ih v) (fun _ => True) := by
  obtain ⟨k1, c1, _, h1⟩ := tot_get (compare_total v lo hv hl)
  obtain ⟨k2, c2, _, h2⟩ := tot_get (compare_total v hi hv hh)
  have j : ∃ r, span_holds.j0 (k1 + k2 + 1) v lo hi il ih = some r := by
    rw [span_holds.j0, h2 (k1 + k2) (by omega), Option.bind_some]
    repeat' split
    all_goals exact ⟨_, rfl⟩
  obtain ⟨r, hr⟩ := j
  have : ∃ r, span_holds.f (k1 + k2 + 1) lo hi il ih v = some r := by
    unfold span_holds.f
    rw [h1 (k1 + k2 + 1) (by omega), Option.bind_some, hr]
    repeat' split
    all_goals exact ⟨_, rfl⟩
  obtain ⟨r, h⟩ := this
  exact tot_lift (fun k => span_holds.mono _ _ _ _ _ _) h trivial
def Short (l : List S58) : Prop := ∀ s ∈ l, s.f0.size ≤ 1000 ∧ s.f1.size ≤ 1000
theorem holds_total (l : List S58) (v : ByteArray) (hs : Short l) (hl : l.length ≤ 100000) (hv : v.size ≤ 1000) : Tot (fun k => span_Holds.f k l v) (fun _ => True) := by
  have loop : ∀ (d i : Nat), i + d = l.length → ∃ k r, span_Holds.l0 k l v (i : Int) = some r := by
    intro d
    induction d with
    | zero =>
      intro i h
      exact ⟨1, -1, by rw [span_Holds.l0, if_neg (by omega)]⟩
    | succ d ih =>
      intro i h
      have hi : i < l.length := by omega
      have hr : rd_T58 l (i : Int) = l[i] := by
        unfold rd_T58
        rw [Int.toNat_natCast, List.getD_eq_getElem?_getD, List.getElem?_eq_getElem hi]; rfl
      have sh := hs l[i] (List.getElem_mem hi)
      obtain ⟨k1, b, _, h1⟩ := tot_get (holds1_total l[i].f0 l[i].f1 v l[i].f2 l[i].f3 sh.1 sh.2 hv)
      obtain ⟨k, r, h2⟩ := ih (i + 1) (by omega)
      obtain ⟨k0, r', hr', hl'⟩ := tot_get (tot_lift (f := fun k => span_Holds.l0 k l v ((i + 1 : Nat) : Int)) (P := fun x => x = r) (fun k => span_Holds.mono_l k _ _ _) h2 rfl)
      have o : span_Holds.one (k1 + k0) v l[i] = some b := h1 (k1 + k0) (by omega)
      by_cases hb : b = true
      · exact ⟨k1 + k0 + 1, (i : Int), by rw [span_Holds.l0, if_pos (by omega), if_pos (by omega), hr, o, Option.bind_some, if_pos hb]⟩
      · exact ⟨k1 + k0 + 1, r', by rw [span_Holds.l0, if_pos (by omega), if_pos (by omega), hr, o, Option.bind_some, if_neg hb, next_of i (by omega)]; exact hl' (k1 + k0) (by omega)⟩
  obtain ⟨k, r, h⟩ := loop l.length 0 (Nat.zero_add _)
  refine tot_lift (k := k) (r := decide (r ≥ 0)) (fun k => span_Holds.mono _ _ _) ?_ trivial
  unfold span_Holds.f
  rw [show (0 : Int) = ((0 : Nat) : Int) from rfl, h, Option.bind_some]
theorem rd_text (l : List ByteArray) (i : Nat) (h : i < l.length) : rdOf ByteArray.empty l (i : Int) = l[i] := by
  unfold rdOf
  rw [Int.toNat_natCast, List.getD_eq_getElem?_getD, List.getElem?_eq_getElem h]; rfl
theorem whole_total (a b : ByteArray) (ha : a.size ≤ 1000) (hb : b.size ≤ 1000) : Tot (fun k => order_whole.f k a b) (fun _ => True) := by
  obtain ⟨k, c, _, h⟩ := tot_get (compare_total a b ha hb)
  obtain ⟨c2, h2⟩ := cmp_text a b
  refine tot_lift (k := k + 4) (r := if c = 0 then c2 else c) (fun k => order_whole.mono _ _ _) ?_ trivial
  unfold order_whole.f
  rw [h (k + 4) (by omega), Option.bind_some, h2, Option.bind_some, or_two _ _ _ (by omega), Option.bind_some]
theorem max_total (l : List ByteArray) (hl : l.length ≤ 100000) (hs : ∀ s ∈ l, s.size ≤ 1000) : ∀ (d i : Nat) (m : ByteArray), m.size ≤ 1000 → i + d = l.length → ∃ k r, slices_MaxFunc_string_string.l0 k l m (i : Int) = some r := by
  intro d
  induction d with
  | zero =>
    intro i m hm h
    exact ⟨1, m, by rw [slices_MaxFunc_string_string.l0, if_neg (by omega)]⟩
  | succ d ih =>
    intro i m hm h
    have hi : i < l.length := by omega
    have sz := hs l[i] (List.getElem_mem hi)
    obtain ⟨k1, c, _, h1⟩ := tot_get (whole_total l[i] m sz hm)
    have lift : ∀ m' : ByteArray, m'.size ≤ 1000 → Tot (fun k => slices_MaxFunc_string_string.l0 k l m' ((i + 1 : Nat) : Int)) (fun _ => True) := by
      intro m' hm'
      obtain ⟨k, r, h2⟩ := ih (i + 1) m' hm' (by omega)
      exact tot_lift (fun k => slices_MaxFunc_string_string.mono_l k _ _ _) h2 trivial
    obtain ⟨k2, r2, _, h2⟩ := tot_get (lift l[i] sz)
    obtain ⟨k3, r3, _, h3⟩ := tot_get (lift m hm)
    by_cases hc : c > 0
    · exact ⟨k1 + k2 + 1, r2, by rw [slices_MaxFunc_string_string.l0, if_pos (by omega), if_pos (by omega), rd_text l i hi, h1 (k1 + k2) (by omega), Option.bind_some, if_pos hc, next_of i (by omega)]; exact h2 (k1 + k2) (by omega)⟩
    · exact ⟨k1 + k3 + 1, r3, by rw [slices_MaxFunc_string_string.l0, if_pos (by omega), if_pos (by omega), rd_text l i hi, h1 (k1 + k3) (by omega), Option.bind_some, if_neg hc, next_of i (by omega)]; exact h3 (k1 + k3) (by omega)⟩
theorem greatest_total (l : List ByteArray) (hl : l.length ≤ 100000) (hs : ∀ s ∈ l, s.size ≤ 1000) : Tot (fun k => order_Greatest.f k l) (fun _ => True) := by
  rcases Nat.eq_zero_or_pos l.length with z | z
  · refine tot_lift (k := 0) (r := ((⟨#[]⟩ : ByteArray), false)) (fun k => order_Greatest.mono _ _) ?_ trivial
    unfold order_Greatest.f
    rw [if_pos (by omega)]
  · have e0 : rdOf ByteArray.empty l 0 = l[0] := rd_text l 0 z
    obtain ⟨k, r, h⟩ := max_total l hl hs (l.length - 1) 1 l[0] (hs _ (List.getElem_mem z)) (by omega)
    refine tot_lift (k := k) (r := (r, true)) (fun k => order_Greatest.mono _ _) ?_ trivial
    unfold order_Greatest.f slices_MaxFunc_string_string.f
    rw [if_neg (by omega), if_neg (by omega), if_pos (by omega), e0]
    rw [show (1 : Int) = ((1 : Nat) : Int) from rfl, h, Option.bind_some]
theorem highest_total (l : List ByteArray) (r : List S58) (hl : l.length ≤ 1000) (hs : ∀ s ∈ l, s.size ≤ 1000) (hr : Short r) (hn : r.length ≤ 100000) : Tot (fun k => choose_Highest.f k l r) (fun _ => True) := by
  have loop : ∀ (d i : Nat) (acc : List ByteArray), i + d = l.length → acc.length ≤ i → (∀ s ∈ acc, s.size ≤ 1000) → ∃ k x, choose_Highest.l0 k l r acc (i : Int) = some x := by
    intro d
    induction d with
    | zero =>
      intro i acc h ha hz
      obtain ⟨k, x, _, hx⟩ := tot_get (greatest_total acc (by omega) hz)
      exact ⟨k + 1, x, by rw [choose_Highest.l0, if_neg (by omega), hx k (Nat.le_refl _), Option.bind_some]⟩
    | succ d ih =>
      intro i acc h ha hz
      have hi : i < l.length := by omega
      have sz := hs l[i] (List.getElem_mem hi)
      obtain ⟨k1, b, _, h1⟩ := tot_get (holds_total r l[i] hr hn sz)
      have lift : ∀ acc' : List ByteArray, acc'.length ≤ i + 1 → (∀ s ∈ acc', s.size ≤ 1000) → Tot (fun k => choose_Highest.l0 k l r acc' ((i + 1 : Nat) : Int)) (fun _ => True) := by
        intro acc' h2 h3
        obtain ⟨k, x, hx⟩ := ih (i + 1) acc' (by omega) h2 h3
        exact tot_lift (fun k => choose_Highest.mono_l k _ _ _ _) hx trivial
      have hz2 : ∀ s ∈ acc ++ [l[i]], s.size ≤ 1000 := fun s hs' => by
        rcases List.mem_append.1 hs' with q | q
        · exact hz s q
        · obtain rfl := List.mem_singleton.1 q; exact sz
      obtain ⟨k2, r2, _, h2⟩ := tot_get (lift (acc ++ [l[i]]) (by simp; omega) hz2)
      obtain ⟨k3, r3, _, h3⟩ := tot_get (lift acc (by omega) hz)
      by_cases hb : b = true
      · exact ⟨k1 + k2 + 1, r2, by rw [choose_Highest.l0, if_pos (by omega), if_pos (by omega), rd_text l i hi, h1 (k1 + k2) (by omega), Option.bind_some, if_pos hb, if_pos (by omega), next_of i (by omega)]; exact h2 (k1 + k2) (by omega)⟩
      · exact ⟨k1 + k3 + 1, r3, by rw [choose_Highest.l0, if_pos (by omega), if_pos (by omega), rd_text l i hi, h1 (k1 + k3) (by omega), Option.bind_some, if_neg hb, next_of i (by omega)]; exact h3 (k1 + k3) (by omega)⟩
  obtain ⟨k, x, h⟩ := loop l.length 0 [] (Nat.zero_add _) (Nat.le_refl _) (fun s hs' => by cases hs')
  exact tot_lift (k := k) (r := x) (fun k => choose_Highest.mono _ _ _) h trivial
end Go.Proofs.YtgdjfcmmpjcaaaaDoor.Pure

namespace Go.Proofs.YtgdjfcmmpjcaaaaDoor.Pure
open Go Go.RowKit Go.Proofs.YtgdjfcmmpjcaaaaDoor.Q Go.Proofs.YtgdjfcmmpjcaaaaDoorW.PrintWords Go.Proofs.YtgdjfcmmpjcaaaaDoorW.PrintLast Go.Proofs.YtgdjfcmmpjcaaaaDoorW.Own Go.Proofs.YtgdjfcmmpjcaaaaDoorW.PrintMore Go.Proofs.YtgdjfcmmpjcaaaaDoorW.Px
set_option linter.unusedSimpArgs false
set_option linter.unusedVariables false
theorem prefix_told (o : UInt8) (l : List UInt8) (p : UInt8) : strings_HasPrefix.f (ts (o :: l)) (ts [p]) = some (o == p) := by
  have s1 : ((ts [p]).size : Int) = 1 := by rw [ts_size]; rfl
  have s2 : ((ts (o :: l)).size : Int) = ((l.length + 1 : Nat) : Int) := by rw [ts_size]; rfl
  have e : ((ts (o :: l)).extract 0 (1 : Int).toNat).toList = [o] := by
    rw [ba_toList, ba_extract, ts_list]; rfl
  unfold strings_HasPrefix.f stringslite_HasPrefix.f
  rw [s1, s2, if_pos (by omega), if_pos (by omega), if_pos (by omega), e, Option.bind_some, ts_toList]
  congr 1
  rw [Bool.eq_iff_iff]; simp
end Go.Proofs.YtgdjfcmmpjcaaaaDoor.Pure

namespace Go.Proofs.YtgdjfcmmpjcaaaaDoor.Pure
open Go Go.RowKit Go.Proofs.YtgdjfcmmpjcaaaaDoor.Q Go.Proofs.YtgdjfcmmpjcaaaaDoorW.PrintWords Go.Proofs.YtgdjfcmmpjcaaaaDoorW.PrintLast Go.Proofs.YtgdjfcmmpjcaaaaDoorW.Own Go.Proofs.YtgdjfcmmpjcaaaaDoorW.PrintMore Go.Proofs.YtgdjfcmmpjcaaaaDoorW.Px
set_option linter.unusedSimpArgs false
set_option linter.unusedVariables false
theorem ref_right_loop (v : List UInt8) (hv : v.length ≤ 1000000) : ∀ (d i k : Nat), i + d = v.length → newelref05_Right.l0 (k + d + 1) (ts v) (i : Int) = some (decide (1 ≤ v.length) && decide (v.length ≤ 100) && (v.drop i).all sign8) := by
  intro d
  induction d with
  | zero =>
    intro i k h
    rw [newelref05_Right.l0, if_neg (by rw [ts_size]; omega), List.drop_eq_nil_of_le (by omega), ts_size, List.all_nil, Bool.and_true]
    by_cases a : 1 ≤ v.length
    · rw [if_pos (by omega), decide_eq_true a, Bool.true_and]
      by_cases b : v.length ≤ 100
      · rw [decide_eq_true b, decide_eq_true (by omega)]
      · rw [decide_eq_false b, decide_eq_false (by omega)]
    · rw [if_neg (by omega), decide_eq_false a, Bool.false_and]
  | succ d ih =>
    intro i k h
    have hi : i < v.length := by omega
    rw [show k + (d + 1) + 1 = (k + d + 1) + 1 from by omega, newelref05_Right.l0, if_pos (by rw [ts_size]; omega), if_pos (by omega), bt_nat v i hi, next_of i (by omega), List.drop_eq_getElem_cons hi, List.all_cons]
    have un : sign8 v[i] = (decide (33 ≤ ((v[i].toNat : Nat) : Int)) && decide (((v[i].toNat : Nat) : Int) ≤ 126) && ((v[i].toNat : Nat) : Int) != 91 && ((v[i].toNat : Nat) : Int) != 93 && ((v[i].toNat : Nat) : Int) != 40 && ((v[i].toNat : Nat) : Int) != 41 && ((v[i].toNat : Nat) : Int) != 44) := rfl
    generalize ((v[i].toNat : Nat) : Int) = n at *
    have bad : sign8 v[i] = false → (some false : Option Bool) = some (decide (1 ≤ v.length) && decide (v.length ≤ 100) && (sign8 v[i] && (v.drop (i + 1)).all sign8)) := by
      intro e; rw [e, Bool.false_and, Bool.and_false]
    by_cases c0 : n < 33
    · rw [if_pos c0]; exact bad (by rw [un, decide_eq_false (by omega)]; rfl)
    rw [if_neg c0]
    by_cases c1 : n > 126
    · rw [if_pos c1]; exact bad (by rw [un, decide_eq_false (show ¬ n ≤ 126 by omega), Bool.and_false]; rfl)
    rw [if_neg c1]
    by_cases c2 : n = 91
    · rw [if_pos c2]; exact bad (by rw [un, c2]; rfl)
    rw [if_neg c2]
    by_cases c3 : n = 93
    · rw [if_pos c3]; exact bad (by rw [un, c3]; rfl)
    rw [if_neg c3]
    by_cases c4 : n = 40
    · rw [if_pos c4]; exact bad (by rw [un, c4]; rfl)
    rw [if_neg c4]
    by_cases c5 : n = 41
    · rw [if_pos c5]; exact bad (by rw [un, c5]; rfl)
    rw [if_neg c5]
    by_cases c6 : n = 44
    · rw [if_pos c6]; exact bad (by rw [un, c6]; rfl)
    rw [if_neg c6, ih (i + 1) k (by omega)]
    have good : sign8 v[i] = true := by
      rw [un, decide_eq_true (by omega), decide_eq_true (by omega), bne_iff_ne.2 c2, bne_iff_ne.2 c3, bne_iff_ne.2 c4, bne_iff_ne.2 c5, bne_iff_ne.2 c6]; rfl
    rw [good, Bool.true_and]
theorem ref_right_told (v : List UInt8) (hv : v.length ≤ 1000000) (k : Nat) (hk : v.length + 1 ≤ k) : newelref05_Right.f k (ts v) = some (rightB v) := by
  have := ref_right_loop v hv v.length 0 (k - v.length - 1) (by omega)
  rw [show k - v.length - 1 + v.length + 1 = k from by omega] at this
  exact this
end Go.Proofs.YtgdjfcmmpjcaaaaDoor.Pure

/- The plain law of ChoosePlain, about the functions that the walks compute. -/
namespace Go.Proofs.YtgdjfcmmpjcaaaaDoor.Pure
open Go Go.RowKit Go.Proofs.YtgdjfcmmpjcaaaaDoor.Q Go.Proofs.YtgdjfcmmpjcaaaaDoorW.PrintWords Go.Proofs.YtgdjfcmmpjcaaaaDoorW.PrintLast Go.Proofs.YtgdjfcmmpjcaaaaDoorW.Own Go.Proofs.YtgdjfcmmpjcaaaaDoorW.PrintMore Go.Proofs.YtgdjfcmmpjcaaaaDoorW.Px
set_option linter.unusedSimpArgs false
set_option linter.unusedVariables false
def isO (o : UInt8) : Bool := o == 91 || o == 40
theorem is_cons (o : UInt8) (l : List UInt8) : span_Is.f (ts (o :: l)) = some (isO o) := by
  unfold span_Is.f isO
  rw [show (⟨#[91]⟩ : ByteArray) = ts [91] from rfl, prefix_told, Option.bind_some]
  cases h : (o == 91) with
  | true => rw [if_pos rfl, Bool.true_or]
  | false => rw [if_neg (by decide), show (⟨#[40]⟩ : ByteArray) = ts [40] from rfl, prefix_told, Option.bind_some, Bool.false_or]
theorem is_nil : span_Is.f (ts []) = some false := by kernel_rfl
theorem any_lt (chars : List UInt8) : ∀ l : List UInt8, Lib.indexAny l chars < (l.length : Int)
  | [] => by show (-1 : Int) < 0; decide
  | b :: l => by
    have ih := any_lt chars l
    show (if chars.contains b then (0 : Int) else if Lib.indexAny l chars == -1 then -1 else Lib.indexAny l chars + 1) < _
    rw [List.length_cons]
    split
    · omega
    · split <;> omega
theorem trim_len (l : List UInt8) (c : UInt8) : (Lib.trimB l c).length ≤ l.length := by
  have g : ∀ l : List UInt8, (l.dropWhile (· == c)).length ≤ l.length := fun l => (List.dropWhile_sublist _).length_le
  unfold Lib.trimB Lib.trimLeftB Lib.trimRightB
  have a := g (l.reverse.dropWhile (· == c)).reverse
  have b := g l.reverse
  rw [List.length_reverse] at a b
  omega
theorem trim_total (x : ByteArray) (hx : x.size ≤ 1000) : ∃ y, strings_Trim.f x (⟨#[32]⟩ : ByteArray) = some y ∧ y.size ≤ 1000 := by
  refine ⟨ts (Lib.trimB x.data.toList 32), ?_, ?_⟩
  · unfold strings_Trim.f
    rw [if_pos ⟨rfl, by decide, by omega⟩]
    rfl
  · rw [ts_size]
    have := trim_len x.data.toList 32
    have := ba_size x
    omega
theorem cut_total (x : ByteArray) (hx : x.size ≤ 1000) : ∃ a b f, strings_Cut.f x (⟨#[44]⟩ : ByteArray) = some (a, b, f) ∧ a.size ≤ 1000 ∧ b.size ≤ 1000 := by
  refine ⟨ts (Lib.cut x.data.toList [44]).1, ts (Lib.cut x.data.toList [44]).2.1, (Lib.cut x.data.toList [44]).2.2, ?_, ?_, ?_⟩
  · unfold strings_Cut.f
    rw [if_pos (by omega)]
    rfl
  · rw [ts_size]
    have := ba_size x
    unfold Lib.cut
    split
    · simp only [List.length_take]; omega
    · dsimp only; omega
  · rw [ts_size]
    have := ba_size x
    unfold Lib.cut
    split
    · simp only [List.length_drop]; omega
    · simp
/-- What one span's answer is like. -/
def OneP (n : Nat) (r : ByteArray × ByteArray × Bool × Bool × ByteArray × Bool) : Prop := r.1.size ≤ 1000 ∧ r.2.1.size ≤ 1000 ∧ (r.2.2.2.2.2 = true → r.2.2.2.2.1.size + 2 ≤ n)
theorem one_j0 (s : ByteArray) (hs : s.size ≤ 1000) (ix : Nat) (h1 : 1 ≤ ix) (h2 : ix < s.size) (x7 x8 : ByteArray) (hx7 : x7.size ≤ 1000) (hx8 : x8.size ≤ 1000) (x9 : Bool) (e1 e2 : ByteArray) (f2 f3 : Bool) :
    ∃ k r, span_one.j0 k s (ix : Int) x7 x8 x9 e1 e2 f2 f3 = some r ∧ OneP s.size r := by
  obtain ⟨a, ha, la⟩ := trim_total x7 hx7
  obtain ⟨b, hb, lb⟩ := trim_total x8 hx8
  obtain ⟨k, m, _, hm⟩ := tot_get (may_total a b f2 f3 la lb)
  have rs : (s.extract ((ix + 1 : Nat) : Int).toNat s.size).size + 2 ≤ s.size := by
    have z := ba_size s
    rw [ba_size, ba_extract, Int.toNat_natCast, List.length_drop, List.length_take]
    omega
  have z0 : (0 : Int) ≤ ((ix + 1 : Nat) : Int) := by omega
  have z1 : ((ix + 1 : Nat) : Int) ≤ (s.size : Int) := by omega
  have bad : OneP s.size ((⟨#[]⟩ : ByteArray), (⟨#[]⟩ : ByteArray), false, false, (⟨#[]⟩ : ByteArray), false) := ⟨by decide, by decide, fun h => by cases h⟩
  refine ⟨k + 1, ?_⟩
  rw [span_one.j0, ha, Option.bind_some, hb, Option.bind_some, next_of ix (by omega), if_pos z0, if_pos z1, hm k (Nat.le_refl _), Option.bind_some]
  cases x9 with
  | true => exact ⟨_, if_pos rfl, la, lb, fun _ => rs⟩
  | false =>
    rw [if_neg (by decide)]
    cases f2 with
    | true =>
      rw [if_pos rfl]
      cases f3 with
      | true => exact ⟨_, if_pos rfl, la, lb, fun _ => rs⟩
      | false => exact ⟨_, if_neg (by decide), bad⟩
    | false => exact ⟨_, if_neg (by decide), bad⟩
theorem one_total (s : ByteArray) (hs : s.size ≤ 1000) : Tot (fun k => span_one.f k s) (OneP s.size) := by
  have bad : OneP s.size ((⟨#[]⟩ : ByteArray), (⟨#[]⟩ : ByteArray), false, false, (⟨#[]⟩ : ByteArray), false) := ⟨by decide, by decide, fun h => by cases h⟩
  have ex : ∃ k r, span_one.f k s = some r ∧ OneP s.size r := by
    cases hl : s.data.toList with
    | nil =>
      have e : s = ts [] := by rw [← hl, ts_data]
      rw [e]
      rw [e] at bad
      exact ⟨0, _, by unfold span_one.f; rw [is_nil, Option.bind_some, if_neg (by decide)], bad⟩
    | cons o l =>
      have e : s = ts (o :: l) := by rw [← hl, ts_data]
      subst e
      rw [ts_size] at hs
      by_cases io : isO o = true
      · have hc : ([93, 41] : List UInt8).contains o = false := by
          unfold isO at io
          simp only [Bool.or_eq_true, beq_iff_eq] at io
          rcases io with rfl | rfl <;> rfl
        have hi : strings_IndexAny.f (ts (o :: l)) (⟨#[93, 41]⟩ : ByteArray) = some (Lib.indexAny (o :: l) [93, 41]) := by
          unfold strings_IndexAny.f
          rw [if_pos ⟨by rw [ts_size]; omega, by decide, by decide, by decide⟩]
          rfl
        have hlt := any_lt [93, 41] (o :: l)
        have hv : Lib.indexAny (o :: l) [93, 41] = -1 ∨ ∃ ix : Nat, Lib.indexAny (o :: l) [93, 41] = (ix : Int) ∧ 1 ≤ ix := by
          have g := Lib.indexAny_ge [93, 41] l
          show (if ([93, 41] : List UInt8).contains o then (0 : Int) else if Lib.indexAny l [93, 41] == -1 then -1 else Lib.indexAny l [93, 41] + 1) = -1 ∨ ∃ ix : Nat, (if ([93, 41] : List UInt8).contains o then (0 : Int) else if Lib.indexAny l [93, 41] == -1 then -1 else Lib.indexAny l [93, 41] + 1) = (ix : Int) ∧ 1 ≤ ix
          rw [hc, if_neg (by decide)]
          generalize Lib.indexAny l [93, 41] = q at g
          by_cases z : (q == -1) = true
          · left; rw [if_pos z]
          · right
            have zn : ¬ q = -1 := by simpa using z
            rw [if_neg z]
            exact ⟨(q + 1).toNat, by omega, by omega⟩
        rcases hv with hv | ⟨ix, hv, h1⟩
        · refine ⟨0, _, ?_, bad⟩
          unfold span_one.f
          rw [is_cons, Option.bind_some, if_pos io, hi, hv, Option.bind_some, if_pos (by decide)]
        · rw [hv] at hlt hi
          have h2 : ix < (ts (o :: l)).size := by rw [ts_size]; omega
          have hsz : (ts (o :: l)).size ≤ 1000 := by rw [ts_size]; exact hs
          have xs : ((ts (o :: l)).extract 1 ((ix : Nat) : Int).toNat).size ≤ 1000 := by
            rw [ba_size, ba_extract, Int.toNat_natCast, List.length_drop, List.length_take, ← ba_size]
            omega
          obtain ⟨a, b, f, hcut, la, lb⟩ := cut_total _ xs
          have z0 : ¬ ((ix : Nat) : Int) < 0 := by omega
          have z1 : (0 : Int) < ((ts (o :: l)).size : Int) := by omega
          have z2 : (0 : Int) ≤ ((ix : Nat) : Int) := by omega
          have z3 : ((ix : Nat) : Int) < ((ts (o :: l)).size : Int) := by omega
          have z4 : (1 : Int) ≤ ((ix : Nat) : Int) := by omega
          have z5 : ((ix : Nat) : Int) ≤ ((ts (o :: l)).size : Int) := by omega
          cases f with
          | true =>
            obtain ⟨k, r, hr, pr_⟩ := one_j0 (ts (o :: l)) hsz ix h1 h2 a b la lb true (⟨#[]⟩ : ByteArray) (⟨#[]⟩ : ByteArray) ((bt (ts (o :: l)) 0) == 91) ((bt (ts (o :: l)) (ix : Int)) == 93)
            refine ⟨k, r, ?_, pr_⟩
            unfold span_one.f
            rw [is_cons, Option.bind_some, if_pos io, hi, Option.bind_some, if_neg z0, if_pos z1, if_pos z2, if_pos z3, if_pos z4, if_pos z5, hcut, Option.bind_some]
            exact (if_pos rfl).trans hr
          | false =>
            obtain ⟨k, r, hr, pr_⟩ := one_j0 (ts (o :: l)) hsz ix h1 h2 a a la la false (⟨#[]⟩ : ByteArray) (⟨#[]⟩ : ByteArray) ((bt (ts (o :: l)) 0) == 91) ((bt (ts (o :: l)) (ix : Int)) == 93)
            refine ⟨k, r, ?_, pr_⟩
            unfold span_one.f
            rw [is_cons, Option.bind_some, if_pos io, hi, Option.bind_some, if_neg z0, if_pos z1, if_pos z2, if_pos z3, if_pos z4, if_pos z5, hcut, Option.bind_some]
            exact (if_neg (fun h => absurd h Bool.false_ne_true)).trans hr
      · refine ⟨0, _, ?_, bad⟩
        unfold span_one.f
        rw [is_cons, Option.bind_some, if_neg io]
  obtain ⟨k, r, h, p⟩ := ex
  exact tot_lift (fun k => span_one.mono _ _) h p
theorem comma_any (o : UInt8) (l : List UInt8) : ∃ x f, strings_CutPrefix.f (ts (o :: l)) (⟨#[44]⟩ : ByteArray) = some (x, f) ∧ x.size ≤ (o :: l).length ∧ (f = true → x.size + 1 ≤ (o :: l).length) := by
  have s1 : ((ts [44]).size : Int) = 1 := by rw [ts_size]; rfl
  have s2 : ((ts (o :: l)).size : Int) = ((l.length + 1 : Nat) : Int) := by rw [ts_size]; rfl
  have e : ((ts (o :: l)).extract 0 (1 : Int).toNat).toList = [o] := by rw [ba_toList, ba_extract, ts_list]; rfl
  have x : (ts (o :: l)).extract (1 : Int).toNat (ts (o :: l)).size = ts l := by
    apply ba_ext
    rw [ba_extract, ts_list, ts_list, ts_size, List.take_length]; rfl
  have z1 : ((l.length + 1 : Nat) : Int) ≥ 1 := by omega
  have z2 : (1 : Int) ≤ ((l.length + 1 : Nat) : Int) := by omega
  unfold strings_CutPrefix.f stringslite_CutPrefix.f stringslite_HasPrefix.f
  rw [show (⟨#[44]⟩ : ByteArray) = ts [44] from rfl, s1, s2, if_pos z1, if_pos (by decide), if_pos z2, e, Option.bind_some, if_pos z2, x, ts_toList]
  by_cases h : (([o] : List UInt8) == [44]) = true
  · rw [if_pos h, if_pos (by decide), Option.bind_some]
    exact ⟨ts l, true, rfl, by rw [ts_size]; simp, fun _ => by rw [ts_size]; simp⟩
  · rw [if_neg h, Option.bind_some]
    exact ⟨ts (o :: l), false, rfl, by rw [ts_size]; exact Nat.le_refl _, fun h => by cases h⟩
/-- What a range's answer is like. -/
def ParP (r : List S58 × Int) : Prop := (r.2 = 0 ∨ r.2 = 12) ∧ Short r.1 ∧ r.1.length ≤ 100000
theorem parse_any : ∀ (n : Nat) (s : ByteArray) (acc : List S58), s.size ≤ n → s.size ≤ 1000 → Short acc → acc.length + s.size ≤ 5000 → ∃ k r, span_Parse.l0 k s acc = some r ∧ ParP r := by
  have none_ : ParP (([] : List S58), 12) := ⟨Or.inr rfl, (fun s hs => by cases hs), Nat.zero_le _⟩
  intro n
  induction n with
  | zero =>
    intro s acc hn hs hc hl
    obtain ⟨k, r, p, h⟩ := tot_get (one_total s hs)
    have nf : ¬ r.2.2.2.2.2 = true := fun hf => by have := p.2.2 hf; omega
    refine ⟨k + 1 + 1, _, ?_, none_⟩
    rw [span_Parse.l0, h (k + 1) (by omega), Option.bind_some, if_neg nf, span_Parse.j1, if_pos rfl]
  | succ n ih =>
    intro s acc hn hs hc hl
    obtain ⟨k, r, p, h⟩ := tot_get (one_total s hs)
    by_cases hf : r.2.2.2.2.2 = true
    · have rs := p.2.2 hf
      have hc2 : Short (acc ++ [(⟨r.1, r.2.1, r.2.2.1, r.2.2.2.1⟩ : S58)]) := by
        intro x hx
        rcases List.mem_append.1 hx with q | q
        · exact hc x q
        · obtain rfl := List.mem_singleton.1 q; exact ⟨p.1, p.2.1⟩
      have hlim : acc.length < 3518437208883 := by omega
      have j1 : ∀ b : Bool, Tot (fun k => span_Parse.j1 k acc r.2.2.2.2.1 b r.1 r.2.1 r.2.2.1 r.2.2.2.1) ParP := by
        intro b
        have ex : ∃ k x, span_Parse.j1 k acc r.2.2.2.2.1 b r.1 r.2.1 r.2.2.1 r.2.2.2.1 = some x ∧ ParP x := by
          cases b with
          | true => exact ⟨0 + 1, _, by rw [span_Parse.j1, if_pos rfl], none_⟩
          | false =>
            cases hr : r.2.2.2.2.1.data.toList with
            | nil =>
              have e0 : r.2.2.2.2.1.toList = ([] : List UInt8) := by rw [ba_toList, hr]
              exact ⟨0 + 1, _, by rw [span_Parse.j1, if_neg (by decide), if_pos hlim, Option.bind_some, if_pos e0], Or.inl rfl, hc2, by simp; omega⟩
            | cons o l =>
              have e : r.2.2.2.2.1 = ts (o :: l) := by rw [← hr, ts_data]
              have e0 : ¬ (ts (o :: l)).toList = ([] : List UInt8) := by rw [ts_toList]; simp
              rw [e, ts_size] at rs
              obtain ⟨x, f, hx, lx, lf⟩ := comma_any o l
              rw [e]
              cases f with
              | true =>
                obtain ⟨k2, y, hy, py⟩ := ih x _ (by omega) (by omega) hc2 (by simp; omega)
                exact ⟨k2 + 1, y, by rw [span_Parse.j1, if_neg (by decide), if_pos hlim, Option.bind_some, if_neg e0, hx, Option.bind_some]; exact (if_pos rfl).trans hy, py⟩
              | false =>
                exact ⟨0 + 1, _, by rw [span_Parse.j1, if_neg (by decide), if_pos hlim, Option.bind_some, if_neg e0, hx, Option.bind_some]; exact if_neg (fun h => absurd h Bool.false_ne_true), none_⟩
        obtain ⟨k, x, hx, px⟩ := ex
        exact tot_lift (fun k => (span_Parse.mono_l k).2 _ _ _ _ _ _ _) hx px
      by_cases c20 : (acc.length : Int) ≥ 20
      · obtain ⟨k2, x, px, hx⟩ := tot_get (j1 true)
        exact ⟨k + k2 + 1, x, by rw [span_Parse.l0, h (k + k2) (by omega), Option.bind_some, if_pos hf, if_pos c20]; exact hx (k + k2) (by omega), px⟩
      · by_cases c0 : (acc.length : Int) > 0
        · obtain ⟨m, hm⟩ : ∃ m, acc.length = m + 1 := ⟨acc.length - 1, by omega⟩
          have w : wrap64 ((acc.length : Int) - 1) = (m : Int) := by rw [hm]; exact last_of m (by omega)
          have hmem : rd_T58 acc (m : Int) ∈ acc := by
            unfold rd_T58
            rw [Int.toNat_natCast, List.getD_eq_getElem?_getD, List.getElem?_eq_getElem (by omega)]
            exact List.getElem_mem _
          have sh := hc _ hmem
          obtain ⟨k3, t, _, ht⟩ := tot_get (behind_total (rd_T58 acc (m : Int)).f0 (rd_T58 acc (m : Int)).f1 r.1 r.2.1 (rd_T58 acc (m : Int)).f2 (rd_T58 acc (m : Int)).f3 r.2.2.1 r.2.2.2.1 sh.2 p.1)
          obtain ⟨k2, x, px, hx⟩ := tot_get (j1 (!t))
          exact ⟨k + k2 + k3 + 1, x, by rw [span_Parse.l0, h (k + k2 + k3) (by omega), Option.bind_some, if_pos hf, if_neg c20, if_pos c0, w, if_pos (by omega), if_pos (by omega), ht (k + k2 + k3) (by omega), Option.bind_some]; exact hx (k + k2 + k3) (by omega), px⟩
        · obtain ⟨k2, x, px, hx⟩ := tot_get (j1 false)
          exact ⟨k + k2 + 1, x, by rw [span_Parse.l0, h (k + k2) (by omega), Option.bind_some, if_pos hf, if_neg c20, if_neg c0]; exact hx (k + k2) (by omega), px⟩
    · refine ⟨k + 1 + 1, _, ?_, none_⟩
      rw [span_Parse.l0, h (k + 1) (by omega), Option.bind_some, if_neg hf, span_Parse.j1, if_pos rfl]
theorem parse_total (s : ByteArray) (hs : s.size ≤ 1000) : Tot (fun k => span_Parse.f k s) ParP := by
  obtain ⟨k, r, h, p⟩ := parse_any s.size s [] (Nat.le_refl _) hs (fun x hx => by cases hx) (by simp; omega)
  exact tot_lift (fun k => span_Parse.mono _ _) h p
theorem pick_range (l : List ByteArray) (o : UInt8) (w : List UInt8) (ho : isO o = true) (hw : (o :: w).length ≤ 1000) (hl : l.length ≤ 1000) (hs : ∀ s ∈ l, s.size ≤ 1000) : Tot (fun k => choose_Pick.f k l (ts (o :: w))) (fun r => r.2 ≠ 11) := by
  obtain ⟨k, r, p, h⟩ := tot_get (parse_total (ts (o :: w)) (by rw [ts_size]; exact hw))
  have ex : ∃ k x, choose_Pick.f k l (ts (o :: w)) = some x ∧ x.2 ≠ 11 := by
    by_cases z : r.2 = 0
    · obtain ⟨k2, x, _, hx⟩ := tot_get (highest_total l r.1 hl hs p.2.1 p.2.2)
      by_cases b : x.2 = true
      · exact ⟨k + k2, (x.1, 0), by unfold choose_Pick.f; rw [is_cons, Option.bind_some, if_pos ho, h (k + k2) (by omega), Option.bind_some, if_pos z, hx (k + k2) (by omega), Option.bind_some, if_pos b], (show (0 : Int) ≠ 11 by decide)⟩
      · exact ⟨k + k2, ((⟨#[]⟩ : ByteArray), 13), by unfold choose_Pick.f; rw [is_cons, Option.bind_some, if_pos ho, h (k + k2) (by omega), Option.bind_some, if_pos z, hx (k + k2) (by omega), Option.bind_some, if_neg b], (show (13 : Int) ≠ 11 by decide)⟩
    · have e : r.2 = 12 := by rcases p.1 with q | q; exact absurd q z; exact q
      exact ⟨k, ((⟨#[]⟩ : ByteArray), r.2), by unfold choose_Pick.f; rw [is_cons, Option.bind_some, if_pos ho, h k (Nat.le_refl _), Option.bind_some, if_neg z], by rw [e]; decide⟩
  obtain ⟨k, x, h, p⟩ := ex
  exact tot_lift (fun k => choose_Pick.mono _ _ _) h p
theorem awake8_60 : newellaw08_awake.f 60 = some true := by kernel_rfl
theorem awake8_tot : Tot (fun k => newellaw08_awake.f k) (fun r => r = true) := tot_lift (k := 60) (r := true) (fun k => newellaw08_awake.mono _) awake8_60 rfl
theorem next_big (i : Nat) (h : i < 9223372036854775807) : wrap64 ((i : Int) + 1) = ((i + 1 : Nat) : Int) := by unfold wrap64; omega
theorem few_total (l : List ByteArray) (hl : l.length ≤ 9223372036854775807) : Tot (fun k => newellaw08_few.f k l) (fun b => b = true → l.length ≤ 20 ∧ ∀ s ∈ l, s.size ≤ 100) := by
  have loop : ∀ (d i : Nat), i + d = l.length → (∀ s ∈ l.take i, s.size ≤ 100) → ∃ k b, newellaw08_few.l0 k l (i : Int) = some b ∧ (b = true → l.length ≤ 20 ∧ ∀ s ∈ l, s.size ≤ 100) := by
    intro d
    induction d with
    | zero =>
      intro i h hs
      refine ⟨0 + 1, decide ((l.length : Int) ≤ 20), ?_, ?_⟩
      · rw [newellaw08_few.l0, if_neg (by omega)]
      · intro hb
        rw [List.take_of_length_le (by omega)] at hs
        exact ⟨by have := of_decide_eq_true hb; omega, hs⟩
    | succ d ih =>
      intro i h hs
      have hi : i < l.length := by omega
      by_cases c : ((l[i].size : Nat) : Int) > 100
      · exact ⟨0 + 1, false, by rw [newellaw08_few.l0, if_pos (by omega), if_pos (by omega), rd_text l i hi, if_pos c], fun h => by cases h⟩
      · obtain ⟨k, b, h1, h2⟩ := ih (i + 1) (by omega) (by
          intro s hs'
          rw [List.take_succ_eq_append_getElem hi] at hs'
          rcases List.mem_append.1 hs' with q | q
          · exact hs s q
          · obtain rfl := List.mem_singleton.1 q; omega)
        exact ⟨k + 1, b, by rw [newellaw08_few.l0, if_pos (by omega), if_pos (by omega), rd_text l i hi, if_neg c, next_big i (by omega)]; exact h1, h2⟩
  obtain ⟨k, b, h, p⟩ := loop l.length 0 (Nat.zero_add _) (by intro s hs; rw [List.take_zero] at hs; cases hs)
  exact tot_lift (fun k => newellaw08_few.mono _ _) h p
theorem ref_right_tot (v : List UInt8) (hv : v.length ≤ 1000) : Tot (fun k => newelref05_Right.f k (ts v)) (fun b => b = rightB v) := by
  have h := ref_right_told v (by omega) 2000 (by omega)
  exact tot_lift (fun k => newelref05_Right.mono _ _) h rfl
theorem high_nil : Tot (fun k => choose_Highest.f k ([] : List ByteArray) ([(⟨(⟨#[]⟩ : ByteArray), (⟨#[]⟩ : ByteArray), false, false⟩ : S58)] : List S58)) (fun r => r.2 = false) := by
  have h : choose_Highest.f 5 ([] : List ByteArray) ([(⟨(⟨#[]⟩ : ByteArray), (⟨#[]⟩ : ByteArray), false, false⟩ : S58)] : List S58) = some ((⟨#[]⟩ : ByteArray), false) := by kernel_rfl
  exact tot_lift (fun k => choose_Highest.mono _ _ _) h rfl
theorem plain_end (l : List ByteArray) (v : List UInt8) (hv : v.length ≤ 200) (hl : l.length ≤ 20) (hs : ∀ s ∈ l, s.size ≤ 100) : ∃ k, newellaw08_ChoosePlain.j0 k l (ts v) false = some true := by
  obtain ⟨ka, aw, ea, ha⟩ := tot_get awake8_tot
  subst ea
  have tt : true = true := rfl
  have plain : ∀ k0 : Nat, (∀ k : Nat, k0 ≤ k → span_Is.f (ts v) = some false) → ∃ k : Nat, ∀ j : Nat, k ≤ j → newellaw08_ChoosePlain.j1 (j + 1) (ts v) (if rightB v = true then ts v else (⟨#[]⟩ : ByteArray)) (if rightB v = true then 0 else 11) false = some true := by
    intro k0 _
    obtain ⟨k1, x, px, hx⟩ := tot_get high_nil
    obtain ⟨k2, b, pb, hb⟩ := tot_get (ref_right_tot v (by omega))
    subst pb
    refine ⟨ka + k1 + k2, fun j hj => ?_⟩
    rw [newellaw08_ChoosePlain.j1, if_neg (by decide), hx j (by omega), Option.bind_some, ha j (by omega), Option.bind_some, if_pos tt, hb j (by omega), Option.bind_some]
    cases hr : rightB v with
    | true =>
      rw [if_pos rfl, if_pos rfl, if_pos (by decide), if_pos rfl, if_pos rfl, px]; rfl
    | false =>
      rw [show (if false = true then ts v else (⟨#[]⟩ : ByteArray)) = (⟨#[]⟩ : ByteArray) from rfl, show (if false = true then (0 : Int) else 11) = 11 from rfl, if_pos (by decide), if_neg (by decide), if_pos rfl, if_pos (show (⟨#[]⟩ : ByteArray).toList = [] from ts_toList []), px]; rfl
  have pick : ∀ k, 101 ≤ k → span_Is.f (ts v) = some false → choose_Pick.f k l (ts v) = some (if rightB v = true then ts v else (⟨#[]⟩ : ByteArray), if rightB v = true then 0 else 11) := by
    intro k hk h
    unfold choose_Pick.f
    rw [h, Option.bind_some, if_neg (by decide), right_told _ k hk, ts_list, Option.bind_some]
    cases rightB v <;> rfl
  cases v with
  | nil =>
    obtain ⟨k1, h1⟩ := plain 0 (fun _ _ => is_nil)
    refine ⟨(k1 + 101) + 1 + 1, ?_⟩
    have z : ¬ ((ts []).size : Int) > 0 := by rw [ts_size]; decide
    rw [newellaw08_ChoosePlain.j0, if_neg (by decide), pick _ (by omega) is_nil, Option.bind_some, if_neg z]
    exact h1 (k1 + 101) (by omega)
  | cons o w =>
    have z : ((ts (o :: w)).size : Int) > 0 := by rw [ts_size, List.length_cons]; omega
    have b0 : bt (ts (o :: w)) 0 = (o.toNat : Int) := bt_nat (o :: w) 0 (by simp)
    have e91 : ((o.toNat : Int) = 91) ↔ o = 91 := by rw [show (91 : Int) = ((91 : Nat) : Int) from rfl]; exact beq_toNat o 91 (by omega)
    have e40 : ((o.toNat : Int) == 40) = (o == 40) := by
      rw [Bool.eq_iff_iff, beq_iff_eq, beq_iff_eq, show (40 : Int) = ((40 : Nat) : Int) from rfl]; exact beq_toNat o 40 (by omega)
    by_cases io : isO o = true
    · obtain ⟨k1, r, pr_, h1⟩ := tot_get (pick_range l o w io (by omega) (by omega) (fun s h => by have := hs s h; omega))
      have j1 : ∀ k, ka ≤ k → newellaw08_ChoosePlain.j1 (k + 1) (ts (o :: w)) r.1 r.2 true = some true := by
        intro k hk
        rw [newellaw08_ChoosePlain.j1, if_pos tt, ha k hk, Option.bind_some, if_pos tt]
        congr 1
        simpa using pr_
      refine ⟨(k1 + ka) + 1 + 1, ?_⟩
      rw [newellaw08_ChoosePlain.j0, if_neg (by decide), h1 _ (by omega), Option.bind_some, if_pos z, if_pos z, b0]
      by_cases c : o = 91
      · rw [if_pos (e91.2 c)]; exact j1 (k1 + ka) (by omega)
      · have d : (o == 40) = true := by
          unfold isO at io
          simp only [Bool.or_eq_true, beq_iff_eq] at io ⊢
          rcases io with q | q
          · exact absurd q c
          · exact q
        rw [if_neg (fun h => c (e91.1 h)), e40, d]; exact j1 (k1 + ka) (by omega)
    · have hi : span_Is.f (ts (o :: w)) = some false := by rw [is_cons, Bool.eq_false_iff.2 io]
      obtain ⟨k1, h1⟩ := plain 0 (fun _ _ => hi)
      have c : ¬ o = 91 := fun h => io (by rw [h]; rfl)
      have d : (o == 40) = false := by rw [Bool.eq_false_iff]; intro h; rw [beq_iff_eq] at h; exact io (by rw [h]; rfl)
      refine ⟨(k1 + 101) + 1 + 1, ?_⟩
      rw [newellaw08_ChoosePlain.j0, if_neg (by decide), pick _ (by omega) hi, Option.bind_some, if_pos z, if_pos z, b0, if_neg (fun h => c (e91.1 h)), e40, d]
      exact h1 (k1 + 101) (by omega)
theorem ChoosePlain : newellaw08_ChoosePlain.Pure := by
  intro l a1 hl ha
  obtain ⟨kf, b, pb, hf⟩ := tot_get (few_total l (Nat.le_trans hl.1 (by decide)))
  obtain ⟨ka, aw, ea, hw⟩ := tot_get awake8_tot
  subst ea
  have out : ∃ k, newellaw08_ChoosePlain.j0 k l a1 true = some true := ⟨ka + 1, by rw [newellaw08_ChoosePlain.j0, if_pos rfl, hw ka (Nat.le_refl _), Option.bind_some]⟩
  have go : ∀ x : Bool, (∃ k, newellaw08_ChoosePlain.j0 k l a1 x = some true) → (b = true → x = decide ((a1.size : Int) > 200)) → (b = false → x = true) → ∃ k, newellaw08_ChoosePlain.f k l a1 = some true := by
    rintro x ⟨k, hk⟩ h1 h2
    obtain ⟨k0, r, pr_, hl'⟩ := tot_get (tot_lift (f := fun k => newellaw08_ChoosePlain.j0 k l a1 x) (P := fun r => r = true) (fun k => (newellaw08_ChoosePlain.mono_l k).1 _ _ _) hk rfl)
    subst pr_
    refine ⟨kf + k0, ?_⟩
    unfold newellaw08_ChoosePlain.f
    rw [hf (kf + k0) (by omega), Option.bind_some]
    cases b with
    | true => have e := h1 rfl; subst e; exact (if_pos rfl).trans (hl' (kf + k0) (by omega))
    | false => have e := h2 rfl; subst e; exact (if_neg (by decide)).trans (hl' (kf + k0) (by omega))
  cases b with
  | false => exact go true out (fun h => by cases h) (fun _ => rfl)
  | true =>
    by_cases c : (a1.size : Int) > 200
    · exact go true out (fun _ => (decide_eq_true c).symm) (fun h => by cases h)
    · have p := pb rfl
      have z := ba_size a1
      have e := plain_end l a1.data.toList (by omega) p.1 p.2
      rw [ts_data] at e
      exact go false e (fun _ => (decide_eq_false c).symm) (fun h => by cases h)
end Go.Proofs.YtgdjfcmmpjcaaaaDoor.Pure
