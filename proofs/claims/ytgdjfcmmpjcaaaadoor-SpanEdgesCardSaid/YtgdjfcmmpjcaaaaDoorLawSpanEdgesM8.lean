/- Texts put together: what functions of the program compute, and plain words about them. -/
import Derived.Test.YtgdjfcmmpjcaaaaDoorLawSpanEdgesM3
import Derived.Test.YtgdjfcmmpjcaaaaDoorLawSpanEdgesM7
import Derived.Test.YtgdjfcmmpjcaaaaDoorLawSpanEdgesM4
import Derived.Test.YtgdjfcmmpjcaaaaDoorLawSpanEdgesM2
import Derived.Test.YtgdjfcmmpjcaaaaDoorLawSpanEdgesM5
import Derived.Test.YtgdjfcmmpjcaaaaDoorLawSpanEdgesM6

namespace Go.Proofs.YtgdjfcmmpjcaaaaDoor.Pure
open Go Go.RowKit Go.Proofs.YtgdjfcmmpjcaaaaDoor.Q Go.Proofs.YtgdjfcmmpjcaaaaDoorW.PrintWords Go.Proofs.YtgdjfcmmpjcaaaaDoorW.PrintLast Go.Proofs.YtgdjfcmmpjcaaaaDoorW.Own Go.Proofs.YtgdjfcmmpjcaaaaDoorW.PrintMore Go.Proofs.YtgdjfcmmpjcaaaaDoorW.Px
set_option linter.unusedSimpArgs false
set_option linter.unusedVariables false
def tailP (v : List UInt8) (i : Nat) (p : Pt) : Prop := p.tx = [] ∨ ∃ n, i = n + 1 ∧ p.tx.getLast? = v[n]?
theorem tail_next (v : List UInt8) (i : Nat) (h : i < v.length) (t : List UInt8) (a b : Bool) : tailP v (i + 1) ⟨t ++ [v[i]], a, b⟩ := by
  refine Or.inr ⟨i, rfl, ?_⟩
  simp [List.getElem?_eq_getElem h]
theorem parts_loop (v : List UInt8) (hv : v.length ≤ 1000000) : ∀ (d i k : Nat) (r : List Pt × Pt), i + d = v.length → r.1.length ≤ i → r.2.tx.length ≤ i → tailP v i r.2 →
    words_parts.l0 (k + d + 1) (ts v) ((allP r).map p93) (v.length : Int) (i : Int) = some ((allP (runP r (v.drop i))).map p93) := by
  intro d
  induction d with
  | zero =>
    intro i k r h _ _ _
    rw [words_parts.l0, if_neg (by omega), List.drop_eq_nil_of_le (by omega)]
    rfl
  | succ d ih =>
    intro i k r h h1 h2 h3
    have hi : i < v.length := by omega
    have q0 : (i : Int) < (v.length : Int) := by omega
    have q0' : (i : Int) < ((ts v).size : Int) := by rw [ts_size]; omega
    have hl := all_len p93 r
    have hx : wrap64 ((((allP r).map p93).length : Int) - 1) = (r.1.length : Int) := by rw [hl]; exact last_of _ (by omega)
    have q1 : (0 : Int) ≤ (r.1.length : Int) := by omega
    have q2 : (r.1.length : Int) < (((allP r).map p93).length : Int) := by rw [hl]; omega
    have q3 : (0 : Int) ≤ (i : Int) := by omega
    have q4 : ((allP r).map p93).length < 5864062014805 := by rw [hl]; omega
    have hn := next_of i (by omega)
    have hr : rd_T93 ((allP r).map p93) (r.1.length : Int) = p93 r.2 := all_getD p93 r _
    have hb := bt_nat v i hi
    have tn := tail_next v i hi
    have step : ∀ r', stepP r v[i] = r' → r'.1.length ≤ i + 1 → r'.2.tx.length ≤ i + 1 → tailP v (i + 1) r'.2 → words_parts.l0 (k + d + 1) (ts v) ((allP r').map p93) (v.length : Int) ((i + 1 : Nat) : Int) = some ((allP (runP r (v.drop i))).map p93) := by
      intro r' e a b t
      rw [ih (i + 1) k r' (by omega) a b t, runP_drop r v i hi, e]
    rw [show k + (d + 1) + 1 = (k + d + 1) + 1 from by omega, words_parts.l0, if_pos q0, if_pos q3, if_pos q0', hx, if_pos q1, if_pos q2, hr, hb, hn]
    generalize hc : v[i] = c at *
    by_cases c1 : c = 46
    · rw [if_pos (by rw [c1]; rfl), if_pos q4, all_add p93 r ⟨[], c == 45, false⟩ _ (by rw [c1]; rfl)]
      exact step _ (stepP_sep r c (Or.inl c1)) (by simp; omega) (by simp) (Or.inl rfl)
    · rw [if_neg (by rw [show (46 : Int) = ((46 : Nat) : Int) from rfl, beq_toNat c 46 (by omega)]; exact c1)]
      by_cases c2 : c = 45
      · rw [if_pos (by rw [c2]; rfl), if_pos q4, all_add p93 r ⟨[], c == 45, false⟩ _ (by rw [c2]; rfl)]
        exact step _ (stepP_sep r c (Or.inr c2)) (by simp; omega) (by simp) (Or.inl rfl)
      · rw [if_neg (by rw [show (45 : Int) = ((45 : Nat) : Int) from rfl, beq_toNat c 45 (by omega)]; exact c2)]
        have nc : ¬ (c = 46 ∨ c = 45) := by rintro (h | h); exact c1 h; exact c2 h
        have e1 : strOfNums [(c.toNat : Int)] = ts [c] := num_byte c
        have q7 : (p93 r.2).f0.size + (ts [c]).size ≤ 9223372036854775807 := by show (ts r.2.tx).size + (ts [c]).size ≤ _; rw [ts_size, ts_size]; simp; omega
        have same : likeP r.2.tx c = true → (if (p93 r.2).f0.size + (strOfNums [(c.toNat : Int)]).size ≤ 9223372036854775807 then (words_parts.l0 (k + d + 1) (ts v) (((allP r).map p93).set ((r.1.length : Int)).toNat (⟨(p93 r.2).f0 ++ (strOfNums [(c.toNat : Int)]), (p93 r.2).f1, (p93 r.2).f2⟩ : S93)) (v.length : Int) ((i + 1 : Nat) : Int)) else none) = some ((allP (runP r (v.drop i))).map p93) := by
          intro lk
          rw [e1, if_pos q7, all_put p93 r ⟨r.2.tx ++ [c], r.2.da, r.2.nu⟩ _ (by unfold p93; rw [ts_append])]
          exact step _ (stepP_like r c nc lk) (by simp; omega) (by simp; omega) (tn _ _ _)
        by_cases z : r.2.tx = []
        · have z' : (p93 r.2).f0.toList = ([] : List UInt8) := by show (ts r.2.tx).toList = []; rw [ts_toList]; exact z
          rw [if_pos z', Option.bind_some]
          exact same (by rw [z]; rfl)
        · have z' : ¬ (p93 r.2).f0.toList = ([] : List UInt8) := by show ¬ (ts r.2.tx).toList = []; rw [ts_toList]; exact z
          obtain ⟨n, hin, hlast⟩ : ∃ n, i = n + 1 ∧ r.2.tx.getLast? = v[n]? := by
            rcases h3 with h3 | h3
            · exact absurd h3 z
            · exact h3
          have hnv : n < v.length := by omega
          have hnn : n < 4611686018427387904 := by omega
          have hg : r.2.tx.getLast z = v[n] := by
            rw [List.getLast?_eq_some_getLast z, List.getElem?_eq_getElem hnv] at hlast
            exact Option.some.inj hlast
          have hp : wrap64 ((i : Int) - 1) = (n : Int) := by rw [hin]; exact last_of n hnn
          rw [if_neg z', digit_told, Option.bind_some, hp, if_pos (by omega), if_pos (by rw [ts_size]; omega), bt_nat v n hnv, digit_told, Option.bind_some, ← hg]
          by_cases e : isD (r.2.tx.getLast z) = isD c
          · rw [if_neg (by rw [e]; simp), Option.bind_some]
            exact same (by rw [like_last _ _ z, e]; simp)
          · rw [if_pos (by simpa using fun h => e h.symm), Option.bind_some, Option.bind_some]
            have ea : ((allP r).map p93).set ((r.1.length : Int)).toNat (⟨(p93 r.2).f0, (p93 r.2).f1, isD c⟩ : S93) = (allP (r.1, ⟨r.2.tx, r.2.da, isD c⟩)).map p93 := all_put p93 r _ _ rfl
            rw [ea]
            have la := all_len p93 (r.1, ⟨r.2.tx, r.2.da, isD c⟩)
            have q8 : ((allP (r.1, ⟨r.2.tx, r.2.da, isD c⟩)).map p93).length < 5864062014805 := by rw [la]; simp; omega
            rw [if_pos q8, Option.bind_some, all_add p93 (r.1, ⟨r.2.tx, r.2.da, isD c⟩) ⟨[], true, false⟩ (⟨(⟨#[]⟩ : ByteArray), true, false⟩ : S93) rfl]
            generalize hR : ((r.1 ++ [(⟨r.2.tx, r.2.da, isD c⟩ : Pt)], (⟨[], true, false⟩ : Pt)) : List Pt × Pt) = R
            have R1 : R.1 = r.1 ++ [(⟨r.2.tx, r.2.da, isD c⟩ : Pt)] := by rw [← hR]
            have R2 : R.2 = ⟨[], true, false⟩ := by rw [← hR]
            have Rl : R.1.length = r.1.length + 1 := by rw [R1]; simp
            have lR := all_len p93 R
            have hxR : wrap64 ((((allP R).map p93).length : Int) - 1) = (R.1.length : Int) := by rw [lR]; exact last_of _ (by omega)
            have hrR : rd_T93 ((allP R).map p93) (R.1.length : Int) = p93 R.2 := all_getD p93 R _
            rw [hxR, if_pos (by omega), if_pos (by rw [lR]; omega), Option.bind_some, hrR, e1]
            have q9 : (p93 R.2).f0.size + (ts [c]).size ≤ 9223372036854775807 := by rw [R2]; show (ts []).size + (ts [c]).size ≤ _; rw [ts_size, ts_size]; simp
            rw [if_pos q9, all_put p93 R ⟨[c], true, false⟩ _ (by rw [R2]; unfold p93; rw [ts_append]; rfl)]
            exact step (R.1, ⟨[c], true, false⟩) (by rw [stepP_new r c nc (by rw [like_last _ _ z]; simpa using e), R1]) (by simp; omega) (by simp) (tn [] true false)
theorem parts_told (v : List UInt8) (hv : v.length ≤ 1000000) (k : Nat) (hk : v.length + 1 ≤ k) : words_parts.f k (ts v) = some ((partsL v).map p93) := by
  have := parts_loop v hv v.length 0 (k - v.length - 1) p0 (by omega) (by simp [p0]) (by simp [p0]) (Or.inl rfl)
  rw [show k - v.length - 1 + v.length + 1 = k from by omega, ← ts_size v] at this
  exact this
end Go.Proofs.YtgdjfcmmpjcaaaaDoor.Pure

namespace Go.Proofs.YtgdjfcmmpjcaaaaDoor.Pure
open Go Go.RowKit Go.Proofs.YtgdjfcmmpjcaaaaDoor.Q Go.Proofs.YtgdjfcmmpjcaaaaDoorW.PrintWords Go.Proofs.YtgdjfcmmpjcaaaaDoorW.PrintLast Go.Proofs.YtgdjfcmmpjcaaaaDoorW.Own Go.Proofs.YtgdjfcmmpjcaaaaDoorW.PrintMore Go.Proofs.YtgdjfcmmpjcaaaaDoorW.Px
set_option linter.unusedSimpArgs false
set_option linter.unusedVariables false
def w38 (w : Wl) : S38 := ⟨w.1, ts w.2⟩
def pr (w : Wl) : Int × ByteArray := (w.1, ts w.2)
theorem kindL_plain (t : List UInt8) (nu : Bool) (ka : ∀ c : List UInt8, (c = [97] ∨ c = [98] ∨ c = [109]) → (nu = true ∧ t = c) = False) : kindL t nu = if t = tA then 1 else if t = tB then 2 else if t = tM then 3 else if t = tRc ∨ t = tCr then 4 else if t = tS then 5 else if t = tGa ∨ t = tFi ∨ t = tRe then 6 else if t = tSp then 7 else 8 := by
  have a := ka [97] (by simp)
  have b := ka [98] (by simp)
  have c := ka [109] (by simp)
  unfold kindL
  simp only [a, b, c, or_false]
theorem letters_told (t : List UInt8) (da nu : Bool) (k : Nat) (hk : 4 ≤ k) : words_letters.f k (ts t) da nu = some (pr (letL t nu)) := by
  obtain ⟨j, rfl⟩ : ∃ j, k = j + 1 + 1 + 1 := ⟨k - 3, by omega⟩
  have gen : ∀ s x, (s = t ∨ nu = true ∧ (s = tA ∧ t = [97] ∨ s = tB ∧ t = [98] ∨ s = tM ∧ t = [109])) → (s = t → ¬ (nu = true ∧ (t = [97] ∨ t = [98] ∨ t = [109]))) → x = ts s → words_letters.j0 (j + 1 + 1 + 1) x (ts t) da nu = some (pr (letL t nu)) := by
    rintro s _ hs hne rfl
    rcases hs with rfl | ⟨hn, ⟨rfl, rfl⟩ | ⟨rfl, rfl⟩ | ⟨rfl, rfl⟩⟩
    · have hx := hne rfl
      have ka : ∀ c, (c = [97] ∨ c = [98] ∨ c = [109]) → (nu = true ∧ s = c) = False := by
        intro c hc
        apply eq_false
        rintro ⟨h1, h2⟩
        exact hx ⟨h1, h2 ▸ hc⟩
      rw [words_letters.j0, ts_toList]
      unfold letL
      rw [kindL_plain s nu ka]
      by_cases h1 : s = tA
      · rw [if_pos h1, if_pos h1]; rfl
      · rw [if_neg h1, if_neg h1]
        by_cases h2 : s = tB
        · rw [if_pos h2, if_pos h2]; rfl
        · rw [if_neg h2, if_neg h2]
          by_cases h3 : s = tM
          · rw [if_pos h3, if_pos h3]; rfl
          · rw [if_neg h3, if_neg h3]
            have j2 : ∀ b, (¬ b = true → ¬ (s = tGa ∨ s = tFi ∨ s = tRe)) → (b = true → (s = tGa ∨ s = tFi ∨ s = tRe)) → words_letters.j2 (j + 1) (ts s) b (ts s) da nu = some (pr (if (if s = tGa ∨ s = tFi ∨ s = tRe then (6 : Int) else if s = tSp then 7 else 8) = 8 then (8, s) else ((if s = tGa ∨ s = tFi ∨ s = tRe then (6 : Int) else if s = tSp then 7 else 8), []))) := by
              intro b hb1 hb2
              rw [words_letters.j2, ts_toList]
              by_cases hb : b = true
              · rw [if_pos hb, if_pos (hb2 hb)]; rfl
              · rw [if_neg hb, if_neg (hb1 hb)]
                by_cases h7 : s = tSp
                · rw [if_pos h7, if_pos h7]; rfl
                · rw [if_neg h7, if_neg h7]; rfl
            have j1 : ∀ b, (¬ b = true → ¬ (s = tRc ∨ s = tCr)) → (b = true → (s = tRc ∨ s = tCr)) → words_letters.j1 (j + 1 + 1) (ts s) b (ts s) da nu = some (pr (if (if s = tRc ∨ s = tCr then (4 : Int) else if s = tS then 5 else if s = tGa ∨ s = tFi ∨ s = tRe then (6 : Int) else if s = tSp then 7 else 8) = 8 then (8, s) else ((if s = tRc ∨ s = tCr then (4 : Int) else if s = tS then 5 else if s = tGa ∨ s = tFi ∨ s = tRe then (6 : Int) else if s = tSp then 7 else 8), []))) := by
              intro b hb1 hb2
              rw [words_letters.j1, ts_toList]
              by_cases hb : b = true
              · rw [if_pos hb, if_pos (hb2 hb)]; rfl
              · rw [if_neg hb, if_neg (hb1 hb)]
                by_cases h5 : s = tS
                · rw [if_pos h5, if_pos h5]; rfl
                · rw [if_neg h5, if_neg h5]
                  by_cases h6 : s = tGa
                  · rw [if_pos h6]; exact j2 _ (fun h => absurd (by rw [show s = [103, 97] from h6]; rfl) h) (fun _ => Or.inl h6)
                  · rw [if_neg h6]
                    by_cases h8 : s = tFi
                    · rw [if_pos h8]; exact j2 _ (fun h => absurd (by rw [show s = [102, 105, 110, 97, 108] from h8]; rfl) h) (fun _ => Or.inr (Or.inl h8))
                    · rw [if_neg h8]
                      refine j2 _ ?_ ?_
                      · rintro h (g | g | g)
                        · exact h6 g
                        · exact h8 g
                        · exact h (by rw [show s = [114, 101, 108, 101, 97, 115, 101] from g]; rfl)
                      · intro h; exact Or.inr (Or.inr (beq_iff_eq.1 h))
            by_cases h4 : s = tRc
            · rw [if_pos h4]; exact j1 _ (fun h => absurd (by rw [show s = [114, 99] from h4]; rfl) h) (fun _ => Or.inl h4)
            · rw [if_neg h4]
              refine j1 _ ?_ ?_
              · rintro h (g | g)
                · exact h4 g
                · exact h (by rw [show s = [99, 114] from g]; rfl)
              · intro h; exact Or.inr (beq_iff_eq.1 h)
    · subst hn; rw [words_letters.j0, ts_toList, if_pos rfl]; rfl
    · subst hn; rw [words_letters.j0, ts_toList, if_neg (by decide), if_pos rfl]; rfl
    · subst hn; rw [words_letters.j0, ts_toList, if_neg (by decide), if_neg (by decide), if_pos rfl]; rfl
  unfold words_letters.f
  rw [ts_toList]
  by_cases hn : nu = true
  · rw [if_pos hn]
    by_cases h1 : t = [97]
    · rw [if_pos h1]; exact gen tA _ (Or.inr ⟨hn, Or.inl ⟨rfl, h1⟩⟩) (fun h => by rw [h1] at h; exact absurd h (by decide)) rfl
    · rw [if_neg h1]
      by_cases h2 : t = [98]
      · rw [if_pos h2]; exact gen tB _ (Or.inr ⟨hn, Or.inr (Or.inl ⟨rfl, h2⟩)⟩) (fun h => by rw [h2] at h; exact absurd h (by decide)) rfl
      · rw [if_neg h2]
        by_cases h3 : t = [109]
        · rw [if_pos h3]; exact gen tM _ (Or.inr ⟨hn, Or.inr (Or.inr ⟨rfl, h3⟩)⟩) (fun h => by rw [h3] at h; exact absurd h (by decide)) rfl
        · rw [if_neg h3]
          refine gen t _ (Or.inl rfl) ?_ rfl
          rintro _ ⟨_, g | g | g⟩
          · exact h1 g
          · exact h2 g
          · exact h3 g
  · rw [if_neg hn]
    exact gen t _ (Or.inl rfl) (fun _ h => hn h.1) rfl
theorem trim_told (t : List UInt8) : strings_TrimLeft.f (ts t) (⟨#[48]⟩ : ByteArray) = some (ts (t.dropWhile (· == 48))) := by
  unfold strings_TrimLeft.f
  rw [if_pos ⟨rfl, by decide⟩]
  rfl
theorem word_told (p : Pt) (k : Nat) (hk : 5 ≤ k) : words_word.f k (p93 p).f0 (p93 p).f1 (p93 p).f2 = some (pr (wordL p)) := by
  obtain ⟨j, rfl⟩ : ∃ j, k = j + 1 := ⟨k - 1, by omega⟩
  obtain ⟨t, da, nu⟩ := p
  show words_word.f (j + 1) (ts t) da nu = _
  have nums : words_word.j0 (j + 1) false (ts t) da nu = some (pr (numL t da)) := by
    rw [words_word.j0, if_neg (by simp), trim_told, Option.bind_some, ts_toList]
    unfold numL
    by_cases z : t.dropWhile (· == 48) = []
    · rw [if_pos z, if_pos z]; rfl
    · rw [if_neg z, if_neg z]
      by_cases d : da = true
      · rw [if_pos d, if_pos d]; rfl
      · rw [if_neg d, if_neg d]; rfl
  unfold words_word.f wordL
  rw [ts_toList]
  cases t with
  | nil => rw [if_pos rfl, nums]; rfl
  | cons c t =>
    have hb : bt (ts (c :: t)) 0 = (c.toNat : Int) := bt_nat (c :: t) 0 (by simp)
    rw [if_neg (by simp), if_pos (by rw [ts_size, List.length_cons]; omega), hb, digit_told, Option.bind_some]
    show _ = some (pr (if isD c = true then numL (c :: t) da else letL (c :: t) nu))
    by_cases d : isD c = true
    · rw [if_pos d, d]; exact nums
    · rw [if_neg d, Bool.eq_false_iff.2 d]
      show words_word.j0 (j + 1) true _ _ _ = _
      rw [words_word.j0, if_pos rfl, letters_told _ _ _ _ (by omega)]
      rfl
end Go.Proofs.YtgdjfcmmpjcaaaaDoor.Pure

namespace Go.Proofs.YtgdjfcmmpjcaaaaDoor.Pure
open Go Go.RowKit Go.Proofs.YtgdjfcmmpjcaaaaDoor.Q Go.Proofs.YtgdjfcmmpjcaaaaDoorW.PrintWords Go.Proofs.YtgdjfcmmpjcaaaaDoorW.PrintLast Go.Proofs.YtgdjfcmmpjcaaaaDoorW.Own Go.Proofs.YtgdjfcmmpjcaaaaDoorW.PrintMore Go.Proofs.YtgdjfcmmpjcaaaaDoorW.Px
set_option linter.unusedSimpArgs false
set_option linter.unusedVariables false
def toN (c : UInt8) : Int := (c.toNat : Int)
theorem nums_ts (l : List UInt8) : strOfNums (l.map toN) = ts l := by
  apply ba_ext
  show (l.map toN).map (fun n => UInt8.ofNat n.toNat) = l
  rw [List.map_map]
  conv => rhs; rw [← List.map_id l]
  apply List.map_congr_left
  intro c _
  show UInt8.ofNat (Int.toNat (c.toNat : Int)) = c
  rw [Int.toNat_natCast]; simp
theorem low_num (c : UInt8) : (if 65 ≤ (c.toNat : Int) ∧ (c.toNat : Int) ≤ 90 then (c.toNat : Int) + 32 else (c.toNat : Int)) = toN (lowB c) := by
  unfold lowB toN
  by_cases h : 65 ≤ c.toNat ∧ c.toNat ≤ 90
  · rw [if_pos (by omega), if_pos h, UInt8.toNat_add]
    have : (32 : UInt8).toNat = 32 := rfl
    rw [this]; omega
  · rw [if_neg (by omega), if_neg h]
theorem lower_told (v : List UInt8) (hv : v.length ≤ 1000000) : chars_Lower.f (ts v) = some (ts (v.map lowB)) := by
  unfold chars_Lower.f
  rw [if_pos (by rw [ts_size]; omega), ← nums_ts (v.map lowB)]
  congr 2
  unfold bytesOf
  rw [ts_list, List.map_map, List.map_map]
  apply List.map_congr_left
  intro c _
  exact low_num c
theorem rev_loop : ∀ (n : Nat) (m a b : List S38) (k : Nat), m.length ≤ n → a.length + m.length + b.length ≤ 4000000 →
    api_Word_73.l0 (k + n + 1) (a ++ (m ++ b)) (a.length : Int) (((a.length + m.length : Nat) : Int) - 1) = some (a ++ (m.reverse ++ b)) := by
  intro n
  induction n with
  | zero =>
    intro m a b k h _
    obtain rfl : m = [] := List.eq_nil_of_length_eq_zero (by omega)
    rw [api_Word_73.l0, if_neg (by simp; omega)]
    rfl
  | succ n ih =>
    intro m a b k h hb
    match m, h, hb with
    | [], h, hb => rw [api_Word_73.l0, if_neg (by simp; omega)]; rfl
    | [x], h, hb => rw [api_Word_73.l0, if_neg (by simp)]; rfl
    | x :: y :: m', h, hb =>
      obtain ⟨c, z, hc⟩ : ∃ c z, y :: m' = c ++ [z] := ⟨(y :: m').dropLast, (y :: m').getLast (by simp), (List.dropLast_concat_getLast (by simp)).symm⟩
      rw [hc] at h hb ⊢
      simp only [List.length_cons, List.length_append, List.length_nil] at h hb
      have hj : (((a.length + (x :: (c ++ [z])).length : Nat) : Int) - 1) = ((a.length + 1 + c.length : Nat) : Int) := by simp; omega
      have hL : (a ++ (x :: (c ++ [z]) ++ b)).length = a.length + 1 + c.length + 1 + b.length := by simp; omega
      have gz : rd_T38 (a ++ (x :: (c ++ [z]) ++ b)) ((a.length + 1 + c.length : Nat) : Int) = z := by
        unfold rd_T38
        rw [Int.toNat_natCast, List.getD_eq_getElem?_getD, List.getElem?_append_right (by omega)]
        rw [show a.length + 1 + c.length - a.length = c.length + 1 from by omega]
        simp
      have gx : rd_T38 (a ++ (x :: (c ++ [z]) ++ b)) ((a.length : Nat) : Int) = x := by
        unfold rd_T38
        rw [Int.toNat_natCast, List.getD_eq_getElem?_getD, List.getElem?_append_right (by omega)]
        simp
      have s1 : (a ++ (x :: (c ++ [z]) ++ b)).set ((a.length : Nat) : Int).toNat z = a ++ (z :: (c ++ [z]) ++ b) := by
        rw [Int.toNat_natCast, List.set_append_right _ _ (by omega)]
        simp
      have s2 : (a ++ (z :: (c ++ [z]) ++ b)).set ((a.length + 1 + c.length : Nat) : Int).toNat x = (a ++ [z]) ++ (c ++ ([x] ++ b)) := by
        rw [Int.toNat_natCast, List.set_append_right _ _ (by omega), show a.length + 1 + c.length - a.length = c.length + 1 from by omega]
        simp
      have w1 : wrap64 (((a.length : Nat) : Int) + 1) = (((a ++ [z]).length : Nat) : Int) := by
        rw [List.length_append]; unfold wrap64; simp; omega
      have w2 : wrap64 (((a.length + 1 + c.length : Nat) : Int) - 1) = (((a ++ [z]).length + c.length : Nat) : Int) - 1 := by
        rw [List.length_append]; unfold wrap64; simp; omega
      have := ih c (a ++ [z]) ([x] ++ b) k (by omega) (by simp; omega)
      rw [show k + (n + 1) + 1 = (k + n + 1) + 1 from by omega, api_Word_73.l0, hj, if_pos (by omega), if_pos (by omega), if_pos (by rw [hL]; omega), if_pos (by omega), if_pos (by rw [hL]; omega), gz, gx]
      show api_Word_73.l0 (k + n + 1) ((((a ++ (x :: (c ++ [z]) ++ b)).set ((a.length : Nat) : Int).toNat z)).set ((a.length + 1 + c.length : Nat) : Int).toNat x) _ _ = _
      rw [s1, s2, w1, w2, this]
      simp
theorem rev_told (l : List S38) (hl : l.length ≤ 4000000) (k : Nat) (hk : l.length + 1 ≤ k) : api_Word_73.f k l = some l.reverse := by
  have := rev_loop l.length l [] [] (k - l.length - 1) (Nat.le_refl _) (by simp; omega)
  rw [show k - l.length - 1 + l.length + 1 = k from by omega, List.append_nil, List.append_nil] at this
  unfold api_Word_73.f
  rw [show wrap64 ((l.length : Int) - 1) = (((([] : List S38).length + l.length : Nat) : Int) - 1) from by unfold wrap64; simp; omega]
  exact this
theorem push_skip (w : Wl) (out : List Wl) (h : w.1 = 6) (g : aheadL out = false) : pushL w out = out := if_pos ⟨h, g⟩
theorem push_add (w : Wl) (out : List Wl) (h : ¬ (w.1 = 6 ∧ aheadL out = false)) : pushL w out = w :: out := if_neg h
theorem ahead_cons (w : Wl) (l : List Wl) : aheadL (w :: l) = false ↔ ¬ w.1 = 6 ∧ ¬ w.1 = 10 := by
  unfold aheadL; simp
theorem split_loop : ∀ (n : Nat) (l : List Pt) (out : List Wl) (k : Nat), l.length = n → out.length + l.length ≤ 1000000 → out.length + l.length + 10 ≤ k →
    words_Split.l0 (k + n + 1) ((out.map w38).reverse) (l.map p93) = some (((l.map wordL).foldr pushL out).map w38) := by
  intro n
  induction n with
  | zero =>
    intro l out k h _ hk
    obtain rfl : l = [] := List.eq_nil_of_length_eq_zero h
    rw [words_Split.l0, if_pos (by simp), rev_told _ (by simp; omega) _ (by simp; omega), Option.bind_some, List.reverse_reverse]
    rfl
  | succ n ih =>
    intro l out k h hs hk
    obtain ⟨l', p, rfl⟩ : ∃ l' p, l = l' ++ [p] := ⟨l.dropLast, l.getLast (by intro z; rw [z] at h; simp at h), (List.dropLast_concat_getLast _).symm⟩
    have hl' : l'.length = n := by simpa using h
    rw [List.length_append, List.length_singleton] at hs hk
    have hm : ((l' ++ [p]).map p93).length = n + 1 := by rw [List.length_map, List.length_append, hl']; rfl
    have hx : wrap64 ((((l' ++ [p]).map p93).length : Int) - 1) = ((n : Nat) : Int) := by rw [hm]; exact last_of n (by omega)
    have hr : rd_T93 ((l' ++ [p]).map p93) ((n : Nat) : Int) = p93 p := by
      unfold rd_T93
      rw [Int.toNat_natCast, List.map_append, List.getD_eq_getElem?_getD, List.getElem?_append_right (by simp; omega)]
      simp [hl']
    have ht : ((l' ++ [p]).map p93).take ((n : Nat) : Int).toNat = l'.map p93 := by
      rw [Int.toNat_natCast, List.map_append, List.take_append_of_le_length (by simp; omega), List.take_of_length_le (by simp; omega)]
    have fold : (((l' ++ [p]).map wordL).foldr pushL out) = (l'.map wordL).foldr pushL (pushL (wordL p) out) := by simp
    have hlen : ((out.map w38).reverse).length = out.length := by simp
    have add : ¬ ((wordL p).1 = 6 ∧ aheadL out = false) → (if ((out.map w38).reverse).length < 5864062014805 then words_Split.l0 (k + n + 1) ((out.map w38).reverse ++ [(⟨(pr (wordL p)).1, (pr (wordL p)).2⟩ : S38)]) (l'.map p93) else none) = some ((((l' ++ [p]).map wordL).foldr pushL out).map w38) := by
      intro hp
      have e : (out.map w38).reverse ++ [(⟨(pr (wordL p)).1, (pr (wordL p)).2⟩ : S38)] = (((wordL p :: out)).map w38).reverse := by
        rw [List.map_cons, List.reverse_cons]; rfl
      rw [if_pos (by rw [hlen]; omega), e, ih l' (wordL p :: out) k hl' (by simp; omega) (by simp; omega), fold, push_add _ _ hp]
    have skip : (wordL p).1 = 6 → aheadL out = false → words_Split.l0 (k + n + 1) ((out.map w38).reverse) (l'.map p93) = some ((((l' ++ [p]).map wordL).foldr pushL out).map w38) := by
      intro h1 h2
      rw [ih l' out k hl' (by omega) (by omega), fold, push_skip _ _ h1 h2]
    rw [show k + (n + 1) + 1 = (k + n + 1) + 1 from by omega, words_Split.l0, if_neg (by rw [hm]; omega), hx, if_pos (by omega), if_pos (by rw [hm]; omega), hr, word_told p _ (by omega), Option.bind_some, if_pos (by rw [hm]; omega), ht, Option.bind_some]
    by_cases h6 : (pr (wordL p)).1 = 6
    · rw [if_pos h6]
      cases out with
      | nil =>
        rw [if_neg (by simp)]
        exact skip h6 rfl
      | cons o os =>
        have ho : (((o :: os).map w38).reverse).length = os.length + 1 := by simp
        have hy : wrap64 (((((o :: os).map w38).reverse).length : Int) - 1) = ((os.length : Nat) : Int) := by rw [ho]; exact last_of _ (by simp at hs; omega)
        have hz : rd_T38 (((o :: os).map w38).reverse) ((os.length : Nat) : Int) = w38 o := by
          unfold rd_T38
          rw [Int.toNat_natCast, List.map_cons, List.reverse_cons, List.getD_eq_getElem?_getD, List.getElem?_append_right (by simp)]
          simp
        rw [if_pos (by rw [ho]; omega), hy, if_pos (by omega), if_pos (by rw [ho]; omega), hz]
        by_cases a6 : (w38 o).f0 = 6
        · rw [if_pos a6]
          exact add (fun h => ((ahead_cons o os).1 h.2).1 a6)
        · rw [if_neg a6]
          by_cases a10 : (w38 o).f0 = 10
          · rw [if_pos a10]
            exact add (fun h => ((ahead_cons o os).1 h.2).2 a10)
          · rw [if_neg a10]
            exact skip h6 ((ahead_cons o os).2 ⟨a6, a10⟩)
    · rw [if_neg h6]
      exact add (fun h => h6 h.1)
theorem stepP_B (r : List Pt × Pt) (c : UInt8) (B : Nat) (h : ∀ p ∈ allP r, p.tx.length ≤ B) : (∀ p ∈ allP (stepP r c), p.tx.length ≤ B + 1) ∧ (allP (stepP r c)).length ≤ (allP r).length + 1 := by
  have h1 : ∀ p ∈ r.1, p.tx.length ≤ B := fun p hp => h p (List.mem_append_left _ hp)
  have h2 : r.2.tx.length ≤ B := h _ (List.mem_append_right _ (List.mem_singleton.2 rfl))
  unfold stepP allP
  split
  · refine ⟨?_, by simp⟩
    intro p hp
    simp only [List.mem_append, List.mem_singleton] at hp
    rcases hp with (hp | rfl) | rfl
    · have := h1 p hp; omega
    · omega
    · simp
  · split
    · refine ⟨?_, by simp⟩
      intro p hp
      simp only [List.mem_append, List.mem_singleton] at hp
      rcases hp with hp | rfl
      · have := h1 p hp; omega
      · simp; omega
    · refine ⟨?_, by simp⟩
      intro p hp
      simp only [List.mem_append, List.mem_singleton] at hp
      rcases hp with (hp | rfl) | rfl
      · have := h1 p hp; omega
      · simp; omega
      · simp
theorem runP_B : ∀ (l : List UInt8) (r : List Pt × Pt) (B : Nat), (∀ p ∈ allP r, p.tx.length ≤ B) → (∀ p ∈ allP (runP r l), p.tx.length ≤ B + l.length) ∧ (allP (runP r l)).length ≤ (allP r).length + l.length
  | [], _, _, h => ⟨fun p hp => h p hp, Nat.le_refl _⟩
  | c :: l, r, B, h => by
    have s := stepP_B r c B h
    have i := runP_B l (stepP r c) (B + 1) s.1
    refine ⟨fun p hp => ?_, ?_⟩
    · have := i.1 p hp
      rw [List.length_cons]; omega
    · have a := i.2
      have b := s.2
      rw [List.length_cons]
      show (allP (runP (stepP r c) l)).length ≤ _
      omega
theorem partsL_B (l : List UInt8) : (∀ p ∈ partsL l, p.tx.length ≤ l.length) ∧ (partsL l).length ≤ l.length + 1 := by
  have := runP_B l p0 0 (fun p hp => by obtain rfl := List.mem_singleton.1 hp; exact Nat.le_refl _)
  refine ⟨fun p hp => ?_, ?_⟩
  · have := this.1 p hp; omega
  · have := this.2
    have e : (allP p0).length = 1 := rfl
    unfold partsL; omega
theorem split_told (v : List UInt8) (hv : v.length ≤ 100000) (k : Nat) (hk : 3 * v.length + 40 ≤ k) : words_Split.f k (ts v) = some ((splitL v).map w38) := by
  have hB := partsL_B (v.map lowB)
  rw [List.length_map] at hB
  unfold words_Split.f
  rw [lower_told v (by omega), Option.bind_some, parts_told _ (by rw [List.length_map]; omega) k (by rw [List.length_map]; omega), Option.bind_some]
  have := split_loop (partsL (v.map lowB)).length (partsL (v.map lowB)) [] (k - (partsL (v.map lowB)).length - 1) rfl (by simp; omega) (by simp; omega)
  rw [show k - (partsL (v.map lowB)).length - 1 + (partsL (v.map lowB)).length + 1 = k from by omega] at this
  exact this
end Go.Proofs.YtgdjfcmmpjcaaaaDoor.Pure

namespace Go.Proofs.YtgdjfcmmpjcaaaaDoor.Pure
open Go Go.RowKit Go.Proofs.YtgdjfcmmpjcaaaaDoor.Q Go.Proofs.YtgdjfcmmpjcaaaaDoorW.PrintWords Go.Proofs.YtgdjfcmmpjcaaaaDoorW.PrintLast Go.Proofs.YtgdjfcmmpjcaaaaDoorW.Own Go.Proofs.YtgdjfcmmpjcaaaaDoorW.PrintMore Go.Proofs.YtgdjfcmmpjcaaaaDoorW.Px
set_option linter.unusedSimpArgs false
set_option linter.unusedVariables false
theorem umod (a : Int) (m : Nat) (hm : 0 < m ∧ m ≤ 1000000) : ∃ n : Nat, n < m ∧ wrap64 (Int.tmod (IntKind.u64.wrap a) (m : Int)) = (n : Int) := by
  have h0 : 0 ≤ IntKind.u64.wrap a := by rw [IntKind.wrap_u64]; omega
  have h1 := Int.tmod_nonneg (m : Int) h0
  have h2 := Int.tmod_lt_of_pos (IntKind.u64.wrap a) (show (0 : Int) < (m : Int) by omega)
  refine ⟨(Int.tmod (IntKind.u64.wrap a) (m : Int)).toNat, by omega, ?_⟩
  unfold wrap64
  omega
theorem digits_mono (n : Int) (r : ByteArray) (h : newelhelp_Digits.f 4 n = some r) : ∀ k, 4 ≤ k → newelhelp_Digits.f k n = some r := by
  intro k hk
  obtain ⟨j, rfl⟩ := Nat.exists_eq_add_of_le hk
  clear hk
  induction j with
  | zero => exact h
  | succ j ih => exact newelhelp_Digits.mono_l _ _ _ ih
theorem run_digits (d : List Pt) (a b : Bool) : ∀ (l t : List UInt8), (∀ c ∈ t, isD c = true) → (∀ c ∈ l, isD c = true) → runP (d, ⟨t, a, b⟩) l = (d, ⟨t ++ l, a, b⟩)
  | [], t, _, _ => by rw [List.append_nil]; rfl
  | c :: l, t, ht, hl => by
    have hc := hl c (List.mem_cons_self ..)
    have nc : ¬ (c = 46 ∨ c = 45) := by rintro (rfl | rfl) <;> exact absurd hc (by decide)
    have lk : likeP t c = true := by
      by_cases z : t = []
      · rw [z]; rfl
      · rw [like_last _ _ z, ht _ (List.getLast_mem z), hc]; rfl
    have e : stepP (d, ⟨t, a, b⟩) c = (d, ⟨t ++ [c], a, b⟩) := stepP_like _ c nc lk
    show runP (stepP _ c) l = _
    rw [e, run_digits d a b l (t ++ [c]) (fun x hx => by
      rcases List.mem_append.1 hx with hx | hx
      · exact ht x hx
      · obtain rfl := List.mem_singleton.1 hx; exact hc) (fun x hx => hl x (List.mem_cons_of_mem _ hx))]
    simp
theorem low_digits (l : List UInt8) (h : ∀ c ∈ l, isD c = true) : l.map lowB = l := by
  conv => rhs; rw [← List.map_id l]
  apply List.map_congr_left
  intro c hc
  have := h c hc
  unfold isD at this
  simp only [Bool.and_eq_true, decide_eq_true_eq] at this
  show lowB c = c
  unfold lowB
  rw [if_neg (by omega)]
theorem outL_append (a b : List Pt) : outL (a ++ b) = (a.map wordL).foldr pushL (outL b) := by
  unfold outL
  rw [List.map_append, List.foldr_append]
end Go.Proofs.YtgdjfcmmpjcaaaaDoor.Pure

namespace Go.Proofs.YtgdjfcmmpjcaaaaDoor.Pure
open Go Go.RowKit Go.Proofs.YtgdjfcmmpjcaaaaDoor.Q Go.Proofs.YtgdjfcmmpjcaaaaDoorW.PrintWords Go.Proofs.YtgdjfcmmpjcaaaaDoorW.PrintLast Go.Proofs.YtgdjfcmmpjcaaaaDoorW.Own Go.Proofs.YtgdjfcmmpjcaaaaDoorW.PrintMore Go.Proofs.YtgdjfcmmpjcaaaaDoorW.Px
set_option linter.unusedSimpArgs false
set_option linter.unusedVariables false
def numD (d : List UInt8) : Bool := match d with
  | [] => false
  | c :: _ => c != 48 && d.all isD
theorem numD_all (d : List UInt8) (h : numD d = true) : d ≠ [] ∧ ∀ c ∈ d, isD c = true := by
  cases d with
  | nil => cases h
  | cons c d =>
    simp only [numD, Bool.and_eq_true] at h
    exact ⟨by simp, List.all_eq_true.1 h.2⟩
theorem numD_word (d : List UInt8) (h : numD d = true) (da nu : Bool) : wordL ⟨d, da, nu⟩ = (if da = true then 9 else 10, d) := by
  cases d with
  | nil => cases h
  | cons c d =>
    simp only [numD, Bool.and_eq_true, bne_iff_ne] at h
    have hd : (c :: d).dropWhile (· == 48) = c :: d := by rw [List.dropWhile_cons, if_neg (by simpa using h.1)]
    have hc : isD c = true := List.all_eq_true.1 h.2 c (List.mem_cons_self ..)
    unfold wordL
    rw [if_pos (show numb (c :: d) = true from hc)]
    unfold numL
    rw [hd, if_neg (List.cons_ne_nil c d)]
    cases da <;> rfl
theorem parts_one (x : List UInt8) (hx : numD x = true) : splitL x = [(10, x)] := by
  have xa := numD_all x hx
  unfold splitL
  rw [low_digits x xa.2]
  unfold partsL p0
  rw [run_digits [] false false x [] (fun c hc => by cases hc) xa.2, List.nil_append]
  show outL [⟨x, false, false⟩] = _
  unfold outL
  simp only [List.map_cons, List.map_nil, List.foldr_cons, List.foldr_nil, numD_word x hx]
  rw [push_add _ [] (by simp)]
  rfl
theorem parts_nought (x : List UInt8) (hx : numD x = true) : splitL (x ++ [46, 48]) = [(10, x)] := by
  have xa := numD_all x hx
  have e : (x ++ [46, 48] : List UInt8).map lowB = x ++ 46 :: [48] := by rw [List.map_append, low_digits x xa.2]; rfl
  unfold splitL
  rw [e]
  unfold partsL
  rw [runP_append, parts_sep _ 46 _ (by decide)]
  unfold p0
  rw [run_digits [] false false x [] (fun c hc => by cases hc) xa.2, List.nil_append]
  show outL ([⟨x, false, false⟩] ++ [⟨[48], false, false⟩]) = _
  rw [outL_append, show outL [⟨[48], false, false⟩] = [] from by rfl]
  simp only [List.map_cons, List.map_nil, List.foldr_cons, List.foldr_nil, numD_word x hx]
  rw [push_add _ [] (by simp)]
  rfl
def cmpL (a b : List UInt8) : Int :=
  if a.length < b.length then -1 else if b.length < a.length then 1 else if Op.bytesLess a b = true then -1 else if Op.bytesLess b a = true then 1 else 0
theorem cmp_int (a b : Int) : cmp_Compare_int.f a b = some (if a < b then -1 else if a > b then 1 else 0) := by
  unfold cmp_Compare_int.f cmp_isNaN_int.f
  rw [Option.bind_some, Option.bind_some, if_neg (by simp), if_neg (by simp)]
  repeat' split
  all_goals rfl
theorem cmp_str (a b : List UInt8) : cmp_Compare_string.f (ts a) (ts b) = some (if Op.bytesLess a b = true then -1 else if Op.bytesLess b a = true then 1 else 0) := by
  unfold cmp_Compare_string.f cmp_isNaN_string.f
  rw [Option.bind_some, Option.bind_some, if_neg (by simp), if_neg (by simp), ts_toList, ts_toList]
  repeat' split
  all_goals rfl
theorem or_two (a b : Int) (k : Nat) (hk : 4 ≤ k) : cmp_Or_int.f k [a, b] = some (if a = 0 then b else a) := by
  obtain ⟨k, rfl⟩ : ∃ j, k = j + 1 + 1 + 1 := ⟨k - 3, by omega⟩
  unfold cmp_Or_int.f
  have r0 : rd [a, b] 0 = a := rfl
  have r1 : rd [a, b] 1 = b := rfl
  have w0 : wrap64 ((0 : Int) + 1) = 1 := by unfold wrap64; omega
  have w1 : wrap64 ((1 : Int) + 1) = 2 := by unfold wrap64; omega
  have l2 : (([a, b] : List Int).length : Int) = 2 := rfl
  rw [l2, cmp_Or_int.l0, if_pos (by decide), if_pos (by decide), l2, if_pos (by decide), r0, w0]
  by_cases h : a = 0
  · rw [if_pos h, if_pos h, cmp_Or_int.l0, if_pos (by decide), if_pos (by decide), l2, if_pos (by decide), r1, w1]
    by_cases g : b = 0
    · rw [if_pos g, cmp_Or_int.l0, if_neg (by decide), g]
    · rw [if_neg g]
  · rw [if_neg h, if_neg h]
theorem compare_told (x y a b : List UInt8) (hx : splitL x = [(10, a)]) (hy : splitL y = [(10, b)]) (lx : x.length ≤ 1000) (ly : y.length ≤ 1000) (la : a.length ≤ 1000) (lb : b.length ≤ 1000) (k : Nat) (hk : 4000 ≤ k) : order_Compare.f k (ts x) (ts y) = some (cmpL a b) := by
  obtain ⟨k, rfl⟩ : ∃ j, k = j + 1 + 1 := ⟨k - 2, by omega⟩
  unfold order_Compare.f
  rw [split_told x (by omega) _ (by omega), Option.bind_some, split_told y (by omega) _ (by omega), Option.bind_some, hx, hy]
  unfold order_Words.f
  have at0 : ∀ d : List UInt8, order_at.f ([((10, d) : Wl)].map w38) 0 = some (10, ts d) := fun d => rfl
  have w1 : wrap64 ((0 : Int) + 1) = 1 := by unfold wrap64; omega
  have sz : ∀ d : List UInt8, ((ts d).size : Int) = (d.length : Int) := fun d => by rw [ts_size]
  have word : order_word.f (k + 1) 10 (ts a) 10 (ts b) = some (cmpL a b) := by
    unfold order_word.f
    rw [cmp_int, if_neg (by decide), if_neg (by decide), Option.bind_some, if_pos rfl, if_neg (by decide), if_neg (by decide), order_word.j0, if_pos (by decide), sz, sz, cmp_int, Option.bind_some, cmp_str, Option.bind_some, or_two _ _ _ (by omega), Option.bind_some]
    unfold cmpL
    by_cases h1 : a.length < b.length
    · rw [if_pos (show (a.length : Int) < (b.length : Int) by omega), if_pos h1, if_neg (by decide)]
    · rw [if_neg (show ¬ (a.length : Int) < (b.length : Int) by omega), if_neg h1]
      by_cases h2 : b.length < a.length
      · rw [if_pos (show (a.length : Int) > (b.length : Int) by omega), if_pos h2, if_neg (by decide)]
      · rw [if_neg (show ¬ (a.length : Int) > (b.length : Int) by omega), if_neg h2, if_pos rfl]
  rw [order_Words.l0, at0, Option.bind_some, at0, Option.bind_some]
  dsimp only
  rw [word, Option.bind_some, w1]
  by_cases z : cmpL a b = 0
  · rw [if_pos z, if_neg (show ¬ (1 : Int) < mx ((([((10, a) : Wl)].map w38).length : Nat) : Int) ((([((10, b) : Wl)].map w38).length : Nat) : Int) by show ¬ (1 : Int) < mx 1 1; decide), Option.bind_some]
  · rw [if_neg z, Option.bind_some]
def dig (n : Nat) : List UInt8 := match newelhelp_Digits.f 4 (n : Int) with
  | some s => s.data.toList
  | none => []
theorem dig_all : (List.range 202).all (fun n => n == 0 || (newelhelp_Digits.f 4 (n : Int)).isSome && numD (dig n) && decide ((dig n).length ≤ 4)) = true := by kernel_rfl
theorem dig_told (n : Nat) (h0 : 1 ≤ n) (h : n < 202) : (∀ k, 4 ≤ k → newelhelp_Digits.f k (n : Int) = some (ts (dig n))) ∧ numD (dig n) = true ∧ (dig n).length ≤ 4 := by
  have := List.all_eq_true.1 dig_all n (by simp; omega)
  have hn : (n == 0) = false := by simp; omega
  rw [hn, Bool.false_or, Bool.and_eq_true, Bool.and_eq_true, decide_eq_true_iff] at this
  refine ⟨fun k hk => ?_, this.1.2, this.2⟩
  obtain ⟨s, hs⟩ := Option.isSome_iff_exists.1 this.1.1
  have e : dig n = s.data.toList := by unfold dig; rw [hs]
  rw [e, ts_data]
  exact digits_mono _ _ hs k hk
end Go.Proofs.YtgdjfcmmpjcaaaaDoor.Pure

namespace Go.Proofs.YtgdjfcmmpjcaaaaDoor.Pure
open Go Go.RowKit Go.Proofs.YtgdjfcmmpjcaaaaDoor.Q Go.Proofs.YtgdjfcmmpjcaaaaDoorW.PrintWords Go.Proofs.YtgdjfcmmpjcaaaaDoorW.PrintLast Go.Proofs.YtgdjfcmmpjcaaaaDoorW.Own Go.Proofs.YtgdjfcmmpjcaaaaDoorW.PrintMore Go.Proofs.YtgdjfcmmpjcaaaaDoorW.Px
set_option linter.unusedSimpArgs false
set_option linter.unusedVariables false
theorem cut_head {s sub : List UInt8} {c : UInt8} {j : Nat} (h : Lib.occAt s (c :: sub) j = true) : s[j]? = some c := by
  unfold Lib.occAt at h
  obtain ⟨t, ht⟩ := List.isPrefixOf_iff_prefix.1 h
  have : (s.drop j)[0]? = some c := by rw [← ht]; rfl
  simpa using this
theorem cut_there (t r sub : List UInt8) (c : UInt8) (h : ∀ x ∈ t, x ≠ c) : Lib.cut (t ++ ((c :: sub) ++ r)) (c :: sub) = (t, r, true) := by
  have e : Lib.index (t ++ ((c :: sub) ++ r)) (c :: sub) = (t.length : Int) := by
    refine Lib.index_first (by simp) ?_ ?_
    · unfold Lib.occAt
      rw [List.drop_left]
      exact List.isPrefixOf_iff_prefix.2 ⟨r, rfl⟩
    · intro j hj
      rw [Bool.eq_false_iff]
      intro ho
      have := cut_head ho
      rw [List.getElem?_append_left hj] at this
      exact h c (List.mem_of_getElem? this) rfl
  unfold Lib.cut
  rw [e, if_pos (by omega), Int.toNat_natCast, List.take_left, show t.length + (c :: sub).length = (t ++ (c :: sub)).length by simp, ← List.append_assoc, List.drop_left]
theorem cut_away (t sub : List UInt8) (c : UInt8) (h : ∀ x ∈ t, x ≠ c) : Lib.cut t (c :: sub) = (t, [], false) := by
  have e : Lib.index t (c :: sub) = -1 := by
    refine Lib.index_none ?_
    intro j hj
    rw [Bool.eq_false_iff]
    intro ho
    exact h c (List.mem_of_getElem? (cut_head ho)) rfl
  unfold Lib.cut
  rw [e]; rfl
theorem any_there (chars : List UInt8) (c : UInt8) (r : List UInt8) (hc : chars.contains c = true) : ∀ p : List UInt8, (∀ x ∈ p, chars.contains x = false) → Lib.indexAny (p ++ c :: r) chars = (p.length : Int)
  | [], _ => by
    show (if chars.contains c then (0 : Int) else _) = 0
    rw [if_pos hc]
  | x :: p, h => by
    have ih := any_there chars c r hc p (fun y hy => h y (List.mem_cons_of_mem _ hy))
    show (if chars.contains x then (0 : Int) else if Lib.indexAny (p ++ c :: r) chars == -1 then -1 else Lib.indexAny (p ++ c :: r) chars + 1) = _
    rw [h x (List.mem_cons_self ..), ih]
    have : ((p.length : Int) == -1) = false := by rw [Bool.eq_false_iff]; intro h; have := beq_iff_eq.1 h; omega
    rw [this]
    simp
theorem trim_plain (l : List UInt8) (c : UInt8) (h : ∀ x ∈ l, x ≠ c) : Lib.trimB l c = l := by
  have g : ∀ l : List UInt8, (∀ x ∈ l, x ≠ c) → l.dropWhile (· == c) = l := by
    intro l h
    cases l with
    | nil => rfl
    | cons x l => rw [List.dropWhile_cons, if_neg (by simpa using h x (List.mem_cons_self ..))]
  unfold Lib.trimB Lib.trimRightB Lib.trimLeftB
  rw [g l.reverse (fun x hx => h x (List.mem_reverse.1 hx)), List.reverse_reverse, g l h]
theorem dig_ne (d : List UInt8) (h : numD d = true) (c : UInt8) (hc : isD c = false) : ∀ x ∈ d, x ≠ c := by
  intro x hx e
  rw [e] at hx
  have := (numD_all d h).2 c hx
  rw [hc] at this; cases this
theorem prefix_told (o : UInt8) (l : List UInt8) (p : UInt8) : strings_HasPrefix.f (ts (o :: l)) (ts [p]) = some (o == p) := by
  have s1 : ((ts [p]).size : Int) = 1 := by rw [ts_size]; rfl
  have s2 : ((ts (o :: l)).size : Int) = ((l.length + 1 : Nat) : Int) := by rw [ts_size]; rfl
  have e : ((ts (o :: l)).extract 0 (1 : Int).toNat).toList = [o] := by
    rw [ba_toList, ba_extract, ts_list]; rfl
  unfold strings_HasPrefix.f stringslite_HasPrefix.f
  rw [s1, s2, if_pos (by omega), if_pos (by omega), if_pos (by omega), e, Option.bind_some, ts_toList]
  congr 1
  rw [Bool.eq_iff_iff]; simp
theorem is_told (o : UInt8) (l : List UInt8) (ho : o = 91 ∨ o = 40) : span_Is.f (ts (o :: l)) = some true := by
  unfold span_Is.f
  rw [show (⟨#[91]⟩ : ByteArray) = ts [91] from rfl, prefix_told, Option.bind_some]
  rcases ho with rfl | rfl
  · rw [if_pos (by decide)]
  · rw [if_neg (by decide), show (⟨#[40]⟩ : ByteArray) = ts [40] from rfl, prefix_told]; rfl
theorem right_dig (d : List UInt8) (h : numD d = true) (l : d.length ≤ 100) (k : Nat) (hk : 101 ≤ k) : words_Right.f k (ts d) = some true := by
  rw [right_told _ _ hk, ts_list]
  congr 1
  have a := numD_all d h
  unfold rightB
  rw [decide_eq_true (show 1 ≤ d.length from List.length_pos_iff.2 a.1), decide_eq_true l, Bool.true_and, Bool.true_and, List.all_eq_true]
  intro c hc
  have := a.2 c hc
  unfold isD at this
  simp only [Bool.and_eq_true, decide_eq_true_eq] at this
  unfold sign8 sign
  rw [decide_eq_true (show (33 : Int) ≤ (c.toNat : Int) by omega), decide_eq_true (show (c.toNat : Int) ≤ 126 by omega), bne_iff_ne.2 (show (c.toNat : Int) ≠ 91 by omega), bne_iff_ne.2 (show (c.toNat : Int) ≠ 93 by omega), bne_iff_ne.2 (show (c.toNat : Int) ≠ 40 by omega), bne_iff_ne.2 (show (c.toNat : Int) ≠ 41 by omega), bne_iff_ne.2 (show (c.toNat : Int) ≠ 44 by omega)]
  rfl
def mayL (c : Int) (il ih : Bool) : Bool := if c < 0 then true else if c = 0 then (if il = true then ih else false) else false
theorem cmp_told (a b : List UInt8) (ha : numD a = true) (hb : numD b = true) (la : a.length ≤ 100) (lb : b.length ≤ 100) (k : Nat) (hk : 4000 ≤ k) : order_Compare.f k (ts a) (ts b) = some (cmpL a b) :=
  compare_told a b a b (parts_one a ha) (parts_one b hb) (by omega) (by omega) (by omega) (by omega) k hk
theorem may_told (a b : List UInt8) (ha : numD a = true) (hb : numD b = true) (la : a.length ≤ 100) (lb : b.length ≤ 100) (il ih : Bool) (k : Nat) (hk : 4001 ≤ k) : span_may.f k (ts a) (ts b) il ih = some (mayL (cmpL a b) il ih) := by
  obtain ⟨k, rfl⟩ : ∃ j, k = j + 1 := ⟨k - 1, by omega⟩
  have na : ¬ (ts a).toList = ([] : List UInt8) := by rw [ts_toList]; exact (numD_all a ha).1
  have nb : ¬ (ts b).toList = ([] : List UInt8) := by rw [ts_toList]; exact (numD_all b hb).1
  unfold span_may.f span_bound.f
  have tt : true = true := rfl
  rw [right_dig a ha la _ (by omega), Option.bind_some, if_pos tt, Option.bind_some, if_pos tt, right_dig b hb lb _ (by omega), Option.bind_some, if_pos tt, Option.bind_some]
  show span_may.j0 (k + 1) false _ _ _ _ = _
  rw [span_may.j0, if_neg (by decide), if_neg na, if_neg nb, cmp_told a b ha hb la lb k (by omega), Option.bind_some]
  unfold mayL
  repeat' split
  all_goals rfl
theorem one_pair (a b : List UInt8) (ha : numD a = true) (hb : numD b = true) (la : a.length ≤ 100) (lb : b.length ≤ 100) (o c : UInt8) (ho : o = 91 ∨ o = 40) (hc : c = 93 ∨ c = 41) (r : List UInt8) (lr : r.length ≤ 100000) (k : Nat) (hk : 4002 ≤ k) :
    span_one.f k (ts (o :: ((a ++ 44 :: b) ++ c :: r))) = some (ts a, ts b, o == 91, c == 93, ts r, mayL (cmpL a b) (o == 91) (c == 93)) := by
  obtain ⟨k, rfl⟩ : ∃ j, k = j + 1 := ⟨k - 1, by omega⟩
  have hs : ((ts (o :: ((a ++ 44 :: b) ++ c :: r))).size : Int) = ((a.length + b.length + 3 + r.length : Nat) : Int) := by
    rw [ts_size]; congr 1
    simp only [List.length_cons, List.length_append]; omega
  have hsz : (ts (o :: ((a ++ 44 :: b) ++ c :: r))).size < 4294967281 := by omega
  have z1 : ¬ ((a.length + b.length + 2 : Nat) : Int) < 0 := by omega
  have z2 : (0 : Int) ≤ ((a.length + b.length + 2 : Nat) : Int) := by omega
  have z3 : (1 : Int) ≤ ((a.length + b.length + 2 : Nat) : Int) := by omega
  have z4 : (0 : Int) ≤ ((a.length + b.length + 3 : Nat) : Int) := by omega
  have s0 : (0 : Int) < ((ts (o :: ((a ++ 44 :: b) ++ c :: r))).size : Int) := by rw [hs]; omega
  have s1 : ((a.length + b.length + 2 : Nat) : Int) < ((ts (o :: ((a ++ 44 :: b) ++ c :: r))).size : Int) := by rw [hs]; omega
  have s2 : ((a.length + b.length + 2 : Nat) : Int) ≤ ((ts (o :: ((a ++ 44 :: b) ++ c :: r))).size : Int) := by rw [hs]; omega
  have s3 : ((a.length + b.length + 3 : Nat) : Int) ≤ ((ts (o :: ((a ++ 44 :: b) ++ c :: r))).size : Int) := by rw [hs]; omega
  have hn : wrap64 (((a.length + b.length + 2 : Nat) : Int) + 1) = ((a.length + b.length + 3 : Nat) : Int) := by unfold wrap64; omega
  have k1 : 4001 ≤ k := by omega
  have ht : Lib.indexAny (o :: ((a ++ 44 :: b) ++ c :: r)) [93, 41] = ((a.length + b.length + 2 : Nat) : Int) := by
    have := any_there [93, 41] c r (by rcases hc with rfl | rfl <;> rfl) (o :: (a ++ 44 :: b)) (by
      intro x hx
      rw [List.contains_eq_mem]
      simp only [List.mem_cons, List.mem_append, List.not_mem_nil, or_false, decide_eq_false_iff_not, not_or] at hx ⊢
      rcases hx with rfl | hx | rfl | hx
      · rcases ho with rfl | rfl <;> decide
      · exact ⟨dig_ne a ha 93 (by decide) x hx, dig_ne a ha 41 (by decide) x hx⟩
      · decide
      · exact ⟨dig_ne b hb 93 (by decide) x hx, dig_ne b hb 41 (by decide) x hx⟩)
    rw [List.cons_append] at this
    rw [this]
    congr 1
    simp only [List.length_cons, List.length_append]; omega
  have hi : strings_IndexAny.f (ts (o :: ((a ++ 44 :: b) ++ c :: r))) (⟨#[93, 41]⟩ : ByteArray) = some ((a.length + b.length + 2 : Nat) : Int) := by
    unfold strings_IndexAny.f
    rw [if_pos ⟨hsz, by decide, by decide, by decide⟩, ts_list, ← ht]
  have hx : (ts (o :: ((a ++ 44 :: b) ++ c :: r))).extract 1 ((a.length + b.length + 2 : Nat) : Int).toNat = ts (a ++ 44 :: b) := by
    apply ba_ext
    rw [ba_extract, ts_list, ts_list, Int.toNat_natCast]
    have : (o :: ((a ++ 44 :: b) ++ c :: r)).take (a.length + b.length + 2) = o :: (a ++ 44 :: b) := by
      rw [show a.length + b.length + 2 = (a.length + b.length + 1) + 1 from rfl, List.take_succ_cons, List.take_append_of_le_length (by simp; omega), List.take_of_length_le (by simp; omega)]
    rw [this]; rfl
  have hcut : strings_Cut.f (ts (a ++ 44 :: b)) (⟨#[44]⟩ : ByteArray) = some (ts a, ts b, true) := by
    unfold strings_Cut.f
    rw [if_pos (by rw [ts_size]; simp; omega), ts_list]
    have : Lib.cut (a ++ 44 :: b) [44] = (a, b, true) := cut_there a b [] 44 (dig_ne a ha 44 (by decide))
    show some ((⟨(Lib.cut (a ++ 44 :: b) [44]).1.toArray⟩ : ByteArray), (⟨(Lib.cut (a ++ 44 :: b) [44]).2.1.toArray⟩ : ByteArray), (Lib.cut (a ++ 44 :: b) [44]).2.2) = _
    rw [this]; rfl
  have b0 : bt (ts (o :: ((a ++ 44 :: b) ++ c :: r))) 0 = (o.toNat : Int) := bt_nat (o :: ((a ++ 44 :: b) ++ c :: r)) 0 (by simp)
  have bc : bt (ts (o :: ((a ++ 44 :: b) ++ c :: r))) ((a.length + b.length + 2 : Nat) : Int) = (c.toNat : Int) := by
    rw [bt_nat _ _ (by simp; omega)]
    have : (o :: ((a ++ 44 :: b) ++ c :: r))[a.length + b.length + 2]? = some c := by
      rw [show a.length + b.length + 2 = (a.length + b.length + 1) + 1 from rfl, List.getElem?_cons_succ, List.getElem?_append_right (by simp; omega)]
      rw [show a.length + b.length + 1 - (a ++ 44 :: b).length = 0 from by simp; omega]
      rfl
    rw [List.getElem?_eq_getElem (by simp; omega)] at this
    rw [Option.some.inj this]
  have eo : ((o.toNat : Int) == 91) = (o == 91) := by rcases ho with rfl | rfl <;> rfl
  have ec : ((c.toNat : Int) == 93) = (c == 93) := by rcases hc with rfl | rfl <;> rfl
  have tr : ∀ d : List UInt8, numD d = true → d.length ≤ 100 → strings_Trim.f (ts d) (⟨#[32]⟩ : ByteArray) = some (ts d) := by
    intro d hd ld
    unfold strings_Trim.f
    rw [if_pos ⟨rfl, by decide, by rw [ts_size]; omega⟩]
    show some (ts (Lib.trimB d 32)) = _
    rw [trim_plain d 32 (dig_ne d hd 32 (by decide))]
  have hr : (ts (o :: ((a ++ 44 :: b) ++ c :: r))).extract ((a.length + b.length + 3 : Nat) : Int).toNat (ts (o :: ((a ++ 44 :: b) ++ c :: r))).size = ts r := by
    apply ba_ext
    rw [ba_extract, ts_list, ts_list, ts_size, List.take_length, Int.toNat_natCast]
    rw [show a.length + b.length + 3 = (o :: ((a ++ 44 :: b) ++ [c])).length from by simp; omega]
    rw [show (o :: ((a ++ 44 :: b) ++ c :: r)) = (o :: ((a ++ 44 :: b) ++ [c])) ++ r from by simp, List.drop_left]
  unfold span_one.f
  have tt : true = true := rfl
  rw [is_told o _ ho, Option.bind_some, if_pos tt, hi, Option.bind_some, if_neg z1, if_pos s0, if_pos z2, if_pos s1, if_pos z3, if_pos s2, hx, hcut, Option.bind_some, if_pos tt, b0, bc, eo, ec]
  rw [span_one.j0, tr a ha la, Option.bind_some, tr b hb lb, Option.bind_some, if_pos tt, hn, if_pos z4, if_pos s3, may_told a b ha hb la lb _ _ k k1, Option.bind_some, hr]
end Go.Proofs.YtgdjfcmmpjcaaaaDoor.Pure

namespace Go.Proofs.YtgdjfcmmpjcaaaaDoor.Pure
open Go Go.RowKit Go.Proofs.YtgdjfcmmpjcaaaaDoor.Q Go.Proofs.YtgdjfcmmpjcaaaaDoorW.PrintWords Go.Proofs.YtgdjfcmmpjcaaaaDoorW.PrintLast Go.Proofs.YtgdjfcmmpjcaaaaDoorW.Own Go.Proofs.YtgdjfcmmpjcaaaaDoorW.PrintMore Go.Proofs.YtgdjfcmmpjcaaaaDoorW.Px
set_option linter.unusedSimpArgs false
set_option linter.unusedVariables false
theorem less_self : ∀ a : List UInt8, Op.bytesLess a a = false
  | [] => rfl
  | x :: a => by
    have h1 : decide (x < x) = false := decide_eq_false (fun g => by have := UInt8.lt_iff_toNat_lt.1 g; omega)
    simp [Op.bytesLess, h1, less_self a]
theorem cmp_self (a : List UInt8) : cmpL a a = 0 := by
  unfold cmpL
  rw [if_neg (Nat.lt_irrefl _), if_neg (Nat.lt_irrefl _), less_self, if_neg (by decide), if_neg (by decide)]
theorem one_single (a : List UInt8) (ha : numD a = true) (la : a.length ≤ 100) (r : List UInt8) (lr : r.length ≤ 100000) (k : Nat) (hk : 4002 ≤ k) :
    span_one.f k (ts (91 :: (a ++ 93 :: r))) = some (ts a, ts a, true, true, ts r, true) := by
  obtain ⟨k, rfl⟩ : ∃ j, k = j + 1 := ⟨k - 1, by omega⟩
  have hs : ((ts (91 :: (a ++ 93 :: r))).size : Int) = ((a.length + 2 + r.length : Nat) : Int) := by
    rw [ts_size]; congr 1
    simp only [List.length_cons, List.length_append]; omega
  have hsz : (ts (91 :: (a ++ 93 :: r))).size < 4294967281 := by omega
  have z1 : ¬ ((a.length + 1 : Nat) : Int) < 0 := by omega
  have z2 : (0 : Int) ≤ ((a.length + 1 : Nat) : Int) := by omega
  have z3 : (1 : Int) ≤ ((a.length + 1 : Nat) : Int) := by omega
  have z4 : (0 : Int) ≤ ((a.length + 2 : Nat) : Int) := by omega
  have s0 : (0 : Int) < ((ts (91 :: (a ++ 93 :: r))).size : Int) := by rw [hs]; omega
  have s1 : ((a.length + 1 : Nat) : Int) < ((ts (91 :: (a ++ 93 :: r))).size : Int) := by rw [hs]; omega
  have s2 : ((a.length + 1 : Nat) : Int) ≤ ((ts (91 :: (a ++ 93 :: r))).size : Int) := by rw [hs]; omega
  have s3 : ((a.length + 2 : Nat) : Int) ≤ ((ts (91 :: (a ++ 93 :: r))).size : Int) := by rw [hs]; omega
  have hn : wrap64 (((a.length + 1 : Nat) : Int) + 1) = ((a.length + 2 : Nat) : Int) := by unfold wrap64; omega
  have k1 : 4001 ≤ k := by omega
  have ht : Lib.indexAny (91 :: (a ++ 93 :: r)) [93, 41] = ((a.length + 1 : Nat) : Int) := by
    have := any_there [93, 41] 93 r (by rfl) (91 :: a) (by
      intro x hx
      rw [List.contains_eq_mem]
      simp only [List.mem_cons, List.not_mem_nil, or_false, decide_eq_false_iff_not, not_or] at hx ⊢
      rcases hx with rfl | hx
      · decide
      · exact ⟨dig_ne a ha 93 (by decide) x hx, dig_ne a ha 41 (by decide) x hx⟩)
    rw [List.cons_append] at this
    rw [this]; rfl
  have hi : strings_IndexAny.f (ts (91 :: (a ++ 93 :: r))) (⟨#[93, 41]⟩ : ByteArray) = some ((a.length + 1 : Nat) : Int) := by
    unfold strings_IndexAny.f
    rw [if_pos ⟨hsz, by decide, by decide, by decide⟩, ts_list, ← ht]
  have hx : (ts (91 :: (a ++ 93 :: r))).extract 1 ((a.length + 1 : Nat) : Int).toNat = ts a := by
    apply ba_ext
    rw [ba_extract, ts_list, ts_list, Int.toNat_natCast]
    have : (91 :: (a ++ 93 :: r)).take (a.length + 1) = 91 :: a := by
      rw [List.take_succ_cons, List.take_append_of_le_length (Nat.le_refl _), List.take_length]
    rw [this]; rfl
  have hcut : strings_Cut.f (ts a) (⟨#[44]⟩ : ByteArray) = some (ts a, ts [], false) := by
    unfold strings_Cut.f
    rw [if_pos (by rw [ts_size]; omega), ts_list]
    have : Lib.cut a [44] = (a, [], false) := cut_away a [] 44 (dig_ne a ha 44 (by decide))
    show some ((⟨(Lib.cut a [44]).1.toArray⟩ : ByteArray), (⟨(Lib.cut a [44]).2.1.toArray⟩ : ByteArray), (Lib.cut a [44]).2.2) = _
    rw [this]; rfl
  have b0 : bt (ts (91 :: (a ++ 93 :: r))) 0 = 91 := bt_nat (91 :: (a ++ 93 :: r)) 0 (by simp)
  have bc : bt (ts (91 :: (a ++ 93 :: r))) ((a.length + 1 : Nat) : Int) = 93 := by
    rw [bt_nat _ _ (by simp)]
    have : (91 :: (a ++ 93 :: r))[a.length + 1]? = some 93 := by
      rw [List.getElem?_cons_succ, List.getElem?_append_right (Nat.le_refl _), Nat.sub_self]; rfl
    rw [List.getElem?_eq_getElem (by simp)] at this
    rw [Option.some.inj this]; rfl
  have tr : strings_Trim.f (ts a) (⟨#[32]⟩ : ByteArray) = some (ts a) := by
    unfold strings_Trim.f
    rw [if_pos ⟨rfl, by decide, by rw [ts_size]; omega⟩]
    show some (ts (Lib.trimB a 32)) = _
    rw [trim_plain a 32 (dig_ne a ha 32 (by decide))]
  have hr : (ts (91 :: (a ++ 93 :: r))).extract ((a.length + 2 : Nat) : Int).toNat (ts (91 :: (a ++ 93 :: r))).size = ts r := by
    apply ba_ext
    rw [ba_extract, ts_list, ts_list, ts_size, List.take_length, Int.toNat_natCast]
    rw [show a.length + 2 = (91 :: (a ++ [93])).length from by simp]
    rw [show (91 :: (a ++ 93 :: r)) = (91 :: (a ++ [93])) ++ r from by simp, List.drop_left]
  have my : span_may.f k (ts a) (ts a) true true = some true := by
    rw [may_told a a ha ha la la true true k k1, cmp_self]; rfl
  have tt : true = true := rfl
  have e1 : ((91 : Int) == 91) = true := rfl
  have e2 : ((93 : Int) == 93) = true := rfl
  unfold span_one.f
  rw [is_told 91 _ (Or.inl rfl), Option.bind_some, if_pos tt, hi, Option.bind_some, if_neg z1, if_pos s0, if_pos z2, if_pos s1, if_pos z3, if_pos s2, hx, hcut, Option.bind_some, if_neg (show ¬ (false = true) by decide), b0, bc, e1, e2]
  rw [span_one.j0, tr, Option.bind_some, Option.bind_some, if_neg (show ¬ (false = true) by decide), if_pos tt, if_pos tt, hn, if_pos z4, if_pos s3, my, Option.bind_some, hr]
theorem parse_one (x : List UInt8) (lo hi : ByteArray) (il ih : Bool) (k : Nat) (hk : 4004 ≤ k) (h : ∀ k, 4002 ≤ k → span_one.f k (ts x) = some (lo, hi, il, ih, ts [], true)) :
    span_Parse.f k (ts x) = some ([(⟨lo, hi, il, ih⟩ : S58)], 0) := by
  obtain ⟨k, rfl⟩ : ∃ j, k = j + 1 + 1 := ⟨k - 2, by omega⟩
  have k1 : 4002 ≤ k + 1 := by omega
  have tt : true = true := rfl
  have e0 : (ts []).toList = ([] : List UInt8) := ts_toList []
  unfold span_Parse.f
  rw [span_Parse.l0, h _ k1, Option.bind_some, if_pos tt, if_neg (by decide), if_neg (by decide), span_Parse.j1, if_neg (by decide), if_pos (by decide), Option.bind_some, if_pos e0]
  rfl
def hB (c1 c2 : Int) (il ih : Bool) : Bool :=
  if c1 < 0 then false else if c1 = 0 then (if il = true then (if c2 > 0 then false else if c2 = 0 then ih else true) else false) else (if c2 > 0 then false else if c2 = 0 then ih else true)
theorem holds_told (lo hi v : ByteArray) (il ih : Bool) (c1 c2 : Int) (nl : ¬ lo.toList = []) (nh : ¬ hi.toList = []) (h1 : ∀ k, 4000 ≤ k → order_Compare.f k v lo = some c1) (h2 : ∀ k, 4000 ≤ k → order_Compare.f k v hi = some c2) (k : Nat) (hk : 4001 ≤ k) :
    span_holds.f k lo hi il ih v = some (hB c1 c2 il ih) := by
  obtain ⟨k, rfl⟩ : ∃ j, k = j + 1 := ⟨k - 1, by omega⟩
  have j : span_holds.j0 (k + 1) v lo hi il ih = some (if c2 > 0 then false else if c2 = 0 then ih else true) := by
    rw [span_holds.j0, if_neg nh, h2 k (by omega), Option.bind_some]
    repeat' split
    all_goals first | rfl | (simp_all; done)
  unfold span_holds.f
  rw [if_neg nl, h1 _ (by omega), Option.bind_some, j]
  unfold hB
  repeat' split
  all_goals first | rfl | (simp_all; done)
theorem holds_loop (v : ByteArray) (l : List S58) (g : S58 → Bool) (hg : ∀ s ∈ l, ∀ k, 4001 ≤ k → span_Holds.one k v s = some (g s)) (hl : l.length ≤ 1000) : ∀ (d i k : Nat), i + d = l.length → 4001 ≤ k →
    ∃ r, span_Holds.l0 (k + d + 1) l v (i : Int) = some r ∧ decide (r ≥ 0) = (l.drop i).any g := by
  intro d
  induction d with
  | zero =>
    intro i k h hk
    refine ⟨-1, ?_, ?_⟩
    · rw [span_Holds.l0, if_neg (by omega)]
    · rw [List.drop_eq_nil_of_le (by omega)]; rfl
  | succ d ih =>
    intro i k h hk
    have hi : i < l.length := by omega
    have hr : rd_T58 l (i : Int) = l[i] := by
      unfold rd_T58
      rw [Int.toNat_natCast, List.getD_eq_getElem?_getD, List.getElem?_eq_getElem hi]; rfl
    have ho := hg l[i] (List.getElem_mem hi) (k + d + 1) (by omega)
    obtain ⟨r, h1, h2⟩ := ih (i + 1) k (by omega) hk
    rw [List.drop_eq_getElem_cons hi, List.any_cons]
    by_cases b : g l[i] = true
    · refine ⟨(i : Int), ?_, ?_⟩
      · rw [show k + (d + 1) + 1 = (k + d + 1) + 1 from by omega, span_Holds.l0, if_pos (by omega), if_pos (by omega), hr, ho, Option.bind_some, if_pos b]
      · rw [b, decide_eq_true (by omega)]; rfl
    · refine ⟨r, ?_, ?_⟩
      · rw [show k + (d + 1) + 1 = (k + d + 1) + 1 from by omega, span_Holds.l0, if_pos (by omega), if_pos (by omega), hr, ho, Option.bind_some, if_neg b, next_of i (by omega), h1]
      · rw [Bool.eq_false_iff.2 b, h2]; rfl
theorem range_told (v : ByteArray) (l : List S58) (g : S58 → Bool) (hg : ∀ s ∈ l, ∀ k, 4001 ≤ k → span_Holds.one k v s = some (g s)) (hl : l.length ≤ 1000) (k : Nat) (hk : 5100 ≤ k) : span_Holds.f k l v = some (l.any g) := by
  obtain ⟨r, h1, h2⟩ := holds_loop v l g hg hl l.length 0 (k - l.length - 1) (by omega) (by omega)
  rw [show k - l.length - 1 + l.length + 1 = k from by omega] at h1
  unfold span_Holds.f
  rw [show (0 : Int) = ((0 : Nat) : Int) from rfl, h1, Option.bind_some]
  rw [show decide (r ≥ ((0 : Nat) : Int)) = decide (r ≥ 0) from rfl, h2, List.drop_zero]
def sgn (x y : Nat) : Int := if x < y then -1 else if x = y then 0 else 1
theorem table : (List.range 112).all (fun x => x == 0 || (List.range 112).all (fun y => y == 0 || cmpL (dig x) (dig y) == sgn x y)) = true := by kernel_rfl
theorem cmp_dig (x y : Nat) (hx : 1 ≤ x) (hy : 1 ≤ y) (lx : x < 112) (ly : y < 112) : cmpL (dig x) (dig y) = sgn x y := by
  have a := List.all_eq_true.1 table x (by simp; omega)
  rw [show (x == 0) = false from by simp; omega, Bool.false_or] at a
  have b := List.all_eq_true.1 a y (by simp; omega)
  rw [show (y == 0) = false from by simp; omega, Bool.false_or] at b
  exact beq_iff_eq.1 b
end Go.Proofs.YtgdjfcmmpjcaaaaDoor.Pure

/- The plain law of SpanEdges, about the functions that the walks compute. -/
namespace Go.Proofs.YtgdjfcmmpjcaaaaDoor.Pure
open Go Go.RowKit Go.Proofs.YtgdjfcmmpjcaaaaDoor.Q Go.Proofs.YtgdjfcmmpjcaaaaDoorW.PrintWords Go.Proofs.YtgdjfcmmpjcaaaaDoorW.PrintLast Go.Proofs.YtgdjfcmmpjcaaaaDoorW.Own Go.Proofs.YtgdjfcmmpjcaaaaDoorW.PrintMore Go.Proofs.YtgdjfcmmpjcaaaaDoorW.Px
set_option linter.unusedSimpArgs false
set_option linter.unusedVariables false
theorem dig_text (n : Nat) (h0 : 1 ≤ n) (h : n < 202) : ¬ (ts (dig n)).toList = ([] : List UInt8) := by
  rw [ts_toList]; exact (numD_all _ (dig_told n h0 h).2.1).1
theorem cmp_nums (x y : Nat) (hx : 1 ≤ x) (hy : 1 ≤ y) (lx : x < 112) (ly : y < 112) (k : Nat) (hk : 4000 ≤ k) : order_Compare.f k (ts (dig x)) (ts (dig y)) = some (sgn x y) := by
  have dx := dig_told x hx (by omega)
  have dy := dig_told y hy (by omega)
  rw [cmp_told (dig x) (dig y) dx.2.1 dy.2.1 (by omega) (by omega) k hk, cmp_dig x y hx hy lx ly]
theorem cmp_nought (x y : Nat) (hx : 1 ≤ x) (hy : 1 ≤ y) (lx : x < 112) (ly : y < 112) (k : Nat) (hk : 4000 ≤ k) : order_Compare.f k (ts (dig x ++ [46, 48])) (ts (dig y)) = some (sgn x y) := by
  have dx := dig_told x hx (by omega)
  have dy := dig_told y hy (by omega)
  rw [compare_told (dig x ++ [46, 48]) (dig y) (dig x) (dig y) (parts_nought _ dx.2.1) (parts_one _ dy.2.1) (by simp; omega) (by omega) (by omega) (by omega) k hk, cmp_dig x y hx hy lx ly]
/-- A range of one span of two small numbers. -/
theorem range_nums (a b n : Nat) (ha : 1 ≤ a) (hb : 1 ≤ b) (hn : 1 ≤ n) (la : a < 112) (lb : b < 112) (ln : n < 112) (il ih : Bool) (k : Nat) (hk : 5100 ≤ k) :
    span_Holds.f k [(⟨ts (dig a), ts (dig b), il, ih⟩ : S58)] (ts (dig n)) = some (hB (sgn n a) (sgn n b) il ih) := by
  have := range_told (ts (dig n)) [(⟨ts (dig a), ts (dig b), il, ih⟩ : S58)] (fun _ => hB (sgn n a) (sgn n b) il ih) (fun s hs k hk => by
    obtain rfl := List.mem_singleton.1 hs
    exact holds_told _ _ _ il ih _ _ (dig_text a ha (by omega)) (dig_text b hb (by omega)) (cmp_nums n a hn ha ln la) (cmp_nums n b hn hb ln lb) k hk) (by simp) k hk
  rw [this]
  simp
theorem edges_two (l : List S58) (n : Nat) (b : Bool) (hn : 1 ≤ n) (ln : n < 111) (k : Nat) (hk : 6000 ≤ k) (h : span_Holds.f k l (ts (dig n)) = some b) : newellaw07_SpanEdges.j2 (k + 1) l 0 (n : Int) b = some true := by
  have dn := dig_told n hn (by omega)
  have dm := dig_told (n + 1) (by omega) (by omega)
  have e1 : (⟨#[91]⟩ : ByteArray) ++ ts (dig n) ++ (⟨#[93]⟩ : ByteArray) = ts (91 :: (dig n ++ 93 :: [])) := by
    rw [show (⟨#[91]⟩ : ByteArray) = ts [91] from rfl, show (⟨#[93]⟩ : ByteArray) = ts [93] from rfl, ts_append, ts_append]; simp
  have e2 : ts (dig n) ++ (⟨#[46, 48]⟩ : ByteArray) = ts (dig n ++ [46, 48]) := by rw [show (⟨#[46, 48]⟩ : ByteArray) = ts [46, 48] from rfl, ts_append]
  have q1 : 1 + (ts (dig n)).size ≤ 9223372036854775807 := by rw [ts_size]; omega
  have q2 : ((⟨#[91]⟩ : ByteArray) ++ ts (dig n)).size + 1 ≤ 9223372036854775807 := by
    rw [show (⟨#[91]⟩ : ByteArray) = ts [91] from rfl, ts_append, ts_size]; simp; omega
  have q3 : (ts (dig n)).size + 2 ≤ 9223372036854775807 := by rw [ts_size]; omega
  have hw : wrap64 ((n : Int) + 1) = ((n + 1 : Nat) : Int) := next_of n (by omega)
  have p1 : span_Parse.f k (ts (91 :: (dig n ++ 93 :: []))) = some ([(⟨ts (dig n), ts (dig n), true, true⟩ : S58)], 0) :=
    parse_one _ _ _ _ _ k (by omega) (fun k hk => one_single (dig n) dn.2.1 (by omega) [] (by simp) k hk)
  have o1 : span_Holds.f k [(⟨ts (dig n), ts (dig n), true, true⟩ : S58)] (ts (dig n ++ [46, 48])) = some true := by
    have := range_told (ts (dig n ++ [46, 48])) [(⟨ts (dig n), ts (dig n), true, true⟩ : S58)] (fun _ => true) (fun s hs k hk => by
      obtain rfl := List.mem_singleton.1 hs
      have := holds_told (ts (dig n)) (ts (dig n)) (ts (dig n ++ [46, 48])) true true _ _ (dig_text n hn (by omega)) (dig_text n hn (by omega)) (cmp_nought n n hn hn (by omega) (by omega)) (cmp_nought n n hn hn (by omega) (by omega)) k hk
      unfold span_Holds.one
      rw [this]
      unfold hB sgn
      simp) (by simp) k (by omega)
    rw [this]; rfl
  have o2 : span_Holds.f k [(⟨ts (dig n), ts (dig n), true, true⟩ : S58)] (ts (dig (n + 1))) = some false := by
    rw [range_nums n n (n + 1) hn hn (by omega) (by omega) (by omega) (by omega) true true k (by omega)]
    unfold hB sgn
    rw [if_neg (show ¬ n + 1 < n by omega), if_neg (show ¬ n + 1 = n by omega)]
    rfl
  have tt : true = true := rfl
  have zz : (0 : Int) = 0 := rfl
  rw [newellaw07_SpanEdges.j2, dn.1 k (by omega), Option.bind_some, if_pos q1, if_pos q2, e1, p1, Option.bind_some, awake7_ge k (by omega), Option.bind_some, if_pos tt, if_pos zz, if_pos zz, Option.bind_some, h, Option.bind_some, if_pos (by rw [beq_self_eq_true]), Option.bind_some, if_pos q3, e2, o1, Option.bind_some, if_pos tt, hw, dm.1 k (by omega), Option.bind_some, o2, Option.bind_some]
  rfl
theorem edges_one (p q v : Nat) (lp : p < 50) (lq : q < 50) (lv : v < 110) (low high : Bool) (k : Nat) (hk : 6001 ≤ k) :
    newellaw07_SpanEdges.j1 (k + 1) (p : Int) ((p + 1 + q : Nat) : Int) low high (v : Int) (ts ((if low = true then 91 else 40) :: ((dig (p + 1) ++ 44 :: dig (p + 1 + q + 1)) ++ (if high = true then 93 else 41) :: []))) = some true := by
  obtain ⟨k, rfl⟩ : ∃ j, k = j + 1 := ⟨k - 1, by omega⟩
  have da := dig_told (p + 1) (by omega) (by omega)
  have db := dig_told (p + 1 + q + 1) (by omega) (by omega)
  have eo : ((if low = true then (91 : UInt8) else 40) == 91) = low := by cases low <;> rfl
  have ec : ((if high = true then (93 : UInt8) else 41) == 93) = high := by cases high <;> rfl
  have ho : (if low = true then (91 : UInt8) else 40) = 91 ∨ (if low = true then (91 : UInt8) else 40) = 40 := by cases low <;> simp
  have hc : (if high = true then (93 : UInt8) else 41) = 93 ∨ (if high = true then (93 : UInt8) else 41) = 41 := by cases high <;> simp
  have hm : mayL (cmpL (dig (p + 1)) (dig (p + 1 + q + 1))) low high = true := by
    rw [cmp_dig _ _ (by omega) (by omega) (by omega) (by omega)]
    unfold mayL sgn
    rw [if_pos (show p + 1 < p + 1 + q + 1 by omega), if_pos (by decide)]
  have pr_ : span_Parse.f (k + 1) (ts ((if low = true then 91 else 40) :: ((dig (p + 1) ++ 44 :: dig (p + 1 + q + 1)) ++ (if high = true then 93 else 41) :: []))) = some ([(⟨ts (dig (p + 1)), ts (dig (p + 1 + q + 1)), low, high⟩ : S58)], 0) :=
    parse_one _ _ _ _ _ (k + 1) (by omega) (fun k hk => by
      rw [one_pair _ _ da.2.1 db.2.1 (by omega) (by omega) _ _ ho hc [] (by simp) k hk, eo, ec, hm])
  have hl := range_nums (p + 1) (p + 1 + q + 1) (v + 1) (by omega) (by omega) (by omega) (by omega) (by omega) (by omega) low high k (by omega)
  have fin : ∀ b, b = hB (sgn (v + 1) (p + 1)) (sgn (v + 1) (p + 1 + q + 1)) low high → newellaw07_SpanEdges.j2 (k + 1) [(⟨ts (dig (p + 1)), ts (dig (p + 1 + q + 1)), low, high⟩ : S58)] 0 ((v + 1 : Nat) : Int) b = some true := by
    rintro _ rfl
    exact edges_two _ (v + 1) _ (by omega) (by omega) k (by omega) hl
  have w1 := next_of v (by omega)
  have w2 := next_of p (by omega)
  have w3 := next_of (p + 1 + q) (by omega)
  rw [newellaw07_SpanEdges.j1, pr_, Option.bind_some, w1, w2, w3]
  dsimp only
  unfold hB sgn at fin
  by_cases c1 : v + 1 > p + 1
  · rw [if_pos (by omega)]
    rw [if_neg (show ¬ v + 1 < p + 1 by omega), if_neg (show ¬ v + 1 = p + 1 by omega)] at fin
    by_cases c2 : v + 1 < p + 1 + q + 1
    · rw [if_pos (by omega)]
      rw [if_pos c2] at fin
      exact fin _ rfl
    · rw [if_neg (by omega)]
      rw [if_neg c2] at fin
      by_cases c3 : v + 1 = p + 1 + q + 1
      · rw [if_pos (by omega)]
        rw [if_pos c3] at fin
        exact fin _ (by simp)
      · rw [if_neg (by omega)]
        rw [if_neg c3] at fin
        exact fin _ rfl
  · rw [if_neg (by omega)]
    by_cases c4 : v + 1 = p + 1
    · rw [if_pos (by omega)]
      rw [if_neg (show ¬ v + 1 < p + 1 by omega), if_pos c4, if_pos (show v + 1 < p + 1 + q + 1 by omega)] at fin
      by_cases c5 : low = true
      · rw [if_pos c5, if_pos (by omega)]
        rw [c5] at fin ⊢
        exact fin _ (by simp)
      · rw [if_neg c5]
        rw [Bool.eq_false_iff.2 c5] at fin ⊢
        exact fin _ (by simp)
    · rw [if_neg (by omega)]
      rw [if_pos (show v + 1 < p + 1 by omega)] at fin
      exact fin _ (by simp)
theorem edges_wraps (p q : Nat) (lp : p < 50) (lq : q < 50) : wrap64 ((p : Int) + 1) = ((p + 1 : Nat) : Int) ∧ wrap64 (((p + 1 : Nat) : Int) + (q : Int)) = ((p + 1 + q : Nat) : Int) ∧ wrap64 (((p + 1 + q : Nat) : Int) + 1) = ((p + 1 + q + 1 : Nat) : Int) :=
  ⟨next_of p (by omega), by unfold wrap64; omega, next_of (p + 1 + q) (by omega)⟩
theorem edges_zero (p q v : Nat) (lp : p < 50) (lq : q < 50) (lv : v < 110) (low high : Bool) (k : Nat) (hk : 6001 ≤ k) (o : UInt8) (ho : o = (if low = true then 91 else 40)) :
    newellaw07_SpanEdges.j0 (k + 1 + 1) (p : Int) ((p + 1 + q : Nat) : Int) low high (v : Int) (ts [o]) = some true := by
  subst ho
  obtain ⟨w2, _, w3⟩ := edges_wraps p q lp lq
  have da := dig_told (p + 1) (by omega) (by omega)
  have db := dig_told (p + 1 + q + 1) (by omega) (by omega)
  have k1 : 4 ≤ k + 1 := by omega
  have q1 : ∀ o : UInt8, (ts [o]).size + (ts (dig (p + 1))).size ≤ 9223372036854775807 := fun o => by rw [ts_size, ts_size]; simp; omega
  have q2 : ∀ o : UInt8, (ts [o] ++ ts (dig (p + 1))).size + 1 ≤ 9223372036854775807 := fun o => by rw [ts_append, ts_size]; simp; omega
  have q3 : ∀ o : UInt8, (ts [o] ++ ts (dig (p + 1)) ++ (⟨#[44]⟩ : ByteArray)).size + (ts (dig (p + 1 + q + 1))).size ≤ 9223372036854775807 := fun o => by rw [show (⟨#[44]⟩ : ByteArray) = ts [44] from rfl, ts_append, ts_append, ts_size, ts_size]; simp; omega
  have q4 : ∀ o : UInt8, (ts [o] ++ ts (dig (p + 1)) ++ (⟨#[44]⟩ : ByteArray) ++ ts (dig (p + 1 + q + 1))).size + 1 ≤ 9223372036854775807 := fun o => by rw [show (⟨#[44]⟩ : ByteArray) = ts [44] from rfl, ts_append, ts_append, ts_append, ts_size]; simp; omega
  have e : ∀ o c : UInt8, ts [o] ++ ts (dig (p + 1)) ++ (⟨#[44]⟩ : ByteArray) ++ ts (dig (p + 1 + q + 1)) ++ ts [c] = ts (o :: ((dig (p + 1) ++ 44 :: dig (p + 1 + q + 1)) ++ c :: [])) := fun o c => by
    rw [show (⟨#[44]⟩ : ByteArray) = ts [44] from rfl, ts_append, ts_append, ts_append, ts_append]; simp
  have one := edges_one p q v lp lq lv low high k hk
  rw [newellaw07_SpanEdges.j0, w2, da.1 (k + 1) k1, Option.bind_some, if_pos (q1 _), if_pos (q2 _), w3, db.1 (k + 1) k1, Option.bind_some, if_pos (q3 _)]
  cases high with
  | true =>
    rw [if_pos rfl, if_pos (q4 _), show (⟨#[93]⟩ : ByteArray) = ts [93] from rfl, e]
    exact one
  | false =>
    rw [if_neg (by decide), if_pos (q4 _), show (⟨#[41]⟩ : ByteArray) = ts [41] from rfl, e]
    exact one
theorem SpanEdges : newellaw07_SpanEdges.Pure := by
  intro a0 a1 low high a4 h0 h1 h4
  obtain ⟨p, lp, e0⟩ := umod a0 50 (by decide)
  obtain ⟨q, lq, e1⟩ := umod a1 50 (by decide)
  obtain ⟨v, lv, e4⟩ := umod a4 110 (by decide)
  have e0 : wrap64 (Int.tmod (IntKind.u64.wrap a0) 50) = (p : Int) := e0
  have e1 : wrap64 (Int.tmod (IntKind.u64.wrap a1) 50) = (q : Int) := e1
  have e4 : wrap64 (Int.tmod (IntKind.u64.wrap a4) 110) = (v : Int) := e4
  obtain ⟨w2, w2', _⟩ := edges_wraps p q lp lq
  refine ⟨6001 + 1 + 1, ?_⟩
  unfold newellaw07_SpanEdges.f
  rw [e0, e1, e4, w2, w2']
  cases low with
  | true => rw [if_pos rfl, show (⟨#[91]⟩ : ByteArray) = ts [91] from rfl]; exact edges_zero p q v lp lq lv true high 6001 (Nat.le_refl _) 91 rfl
  | false => rw [if_neg (by decide), show (⟨#[40]⟩ : ByteArray) = ts [40] from rfl]; exact edges_zero p q v lp lq lv false high 6001 (Nat.le_refl _) 40 rfl
end Go.Proofs.YtgdjfcmmpjcaaaaDoor.Pure
