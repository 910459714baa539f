/- Texts put together: what functions of the program compute, and plain words about them. -/
import Derived.Test.YtgdjfcmmpjcaaaaDoorLawCoordOrderM3
import Derived.Test.YtgdjfcmmpjcaaaaDoorLawCoordOrderM4
import Derived.Test.YtgdjfcmmpjcaaaaDoorLawCoordOrderM2
namespace Go.Proofs.YtgdjfcmmpjcaaaaDoor.Pure
open Go Go.RowKit Go.Proofs.YtgdjfcmmpjcaaaaDoor.Q Go.Proofs.YtgdjfcmmpjcaaaaDoorW.PrintWords Go.Proofs.YtgdjfcmmpjcaaaaDoorW.PrintLast Go.Proofs.YtgdjfcmmpjcaaaaDoorW.Own Go.Proofs.YtgdjfcmmpjcaaaaDoorW.PrintMore Go.Proofs.YtgdjfcmmpjcaaaaDoorW.Px
set_option linter.unusedSimpArgs false
set_option linter.unusedVariables false
def w38 (w : Wl) : S38 := ⟨w.1, ts w.2⟩
def pr (w : Wl) : Int × ByteArray := (w.1, ts w.2)
theorem kindL_plain (t : List UInt8) (nu : Bool) (ka : ∀ c : List UInt8, (c = [97] ∨ c = [98] ∨ c = [109]) → (nu = true ∧ t = c) = False) : kindL t nu = if t = tA then 1 else if t = tB then 2 else if t = tM then 3 else if t = tRc ∨ t = tCr then 4 else if t = tS then 5 else if t = tGa ∨ t = tFi ∨ t = tRe then 6 else if t = tSp then 7 else 8 := by
  have a := ka [97] (by simp)
  have b := ka [98] (by simp)
  have c := ka [109] (by simp)
  unfold kindL
  simp only [a, b, c, or_false]
theorem letters_told (t : List UInt8) (da nu : Bool) (k : Nat) (hk : 4 ≤ k) : words_letters.f k (ts t) da nu = some (pr (letL t nu)) := by
  obtain ⟨j, rfl⟩ : ∃ j, k = j + 1 + 1 + 1 := ⟨k - 3, by omega⟩
  have gen : ∀ s x, (s = t ∨ nu = true ∧ (s = tA ∧ t = [97] ∨ s = tB ∧ t = [98] ∨ s = tM ∧ t = [109])) → (s = t → ¬ (nu = true ∧ (t = [97] ∨ t = [98] ∨ t = [109]))) → x = ts s → words_letters.j0 (j + 1 + 1 + 1) x (ts t) da nu = some (pr (letL t nu)) := by
    rintro s _ hs hne rfl
    rcases hs with rfl | ⟨hn, ⟨rfl, rfl⟩ | ⟨rfl, rfl⟩ | ⟨rfl, rfl⟩⟩
    · have hx := hne rfl
      have ka : ∀ c, (c = [97] ∨ c = [98] ∨ c = [109]) → (nu = true ∧ s = c) = False := by
        intro c hc
        apply eq_false
        rintro ⟨h1, h2⟩
        exact hx ⟨h1, h2 ▸ hc⟩
      rw [words_letters.j0, ts_toList]
      unfold letL
      rw [kindL_plain s nu ka]
      by_cases h1 : s = tA
      · rw [if_pos h1, if_pos h1]; rfl
      · rw [if_neg h1, if_neg h1]
        by_cases h2 : s = tB
        · rw [if_pos h2, if_pos h2]; rfl
        · rw [if_neg h2, if_neg h2]
          by_cases h3 : s = tM
          · rw [if_pos h3, if_pos h3]; rfl
          · rw [if_neg h3, if_neg h3]
            have j2 : ∀ b, (¬ b = true → ¬ (s = tGa ∨ s = tFi ∨ s = tRe)) → (b = true → (s = tGa ∨ s = tFi ∨ s = tRe)) → words_letters.j2 (j + 1) (ts s) b (ts s) da nu = some (pr (if (if s = tGa ∨ s = tFi ∨ s = tRe then (6 : Int) else if s = tSp then 7 else 8) = 8 then (8, s) else ((if s = tGa ∨ s = tFi ∨ s = tRe then (6 : Int) else if s = tSp then 7 else 8), []))) := by
              intro b hb1 hb2
              rw [words_letters.j2, ts_toList]
              by_cases hb : b = true
              · rw [if_pos hb, if_pos (hb2 hb)]; rfl
              · rw [if_neg hb, if_neg (hb1 hb)]
                by_cases h7 : s = tSp
                · rw [if_pos h7, if_pos h7]; rfl
                · rw [if_neg h7, if_neg h7]; rfl
            have j1 : ∀ b, (¬ b = true → ¬ (s = tRc ∨ s = tCr)) → (b = true → (s = tRc ∨ s = tCr)) → words_letters.j1 (j + 1 + 1) (ts s) b (ts s) da nu = some (pr (if (if s = tRc ∨ s = tCr then (4 : Int) else if s = tS then 5 else if s = tGa ∨ s = tFi ∨ s = tRe then (6 : Int) else if s = tSp then 7 else 8) = 8 then (8, s) else ((if s = tRc ∨ s = tCr then (4 : Int) else if s = tS then 5 else if s = tGa ∨ s = tFi ∨ s = tRe then (6 : Int) else if s = tSp then 7 else 8), []))) := by
              intro b hb1 hb2
              rw [words_letters.j1, ts_toList]
              by_cases hb : b = true
              · rw [if_pos hb, if_pos (hb2 hb)]; rfl
              · rw [if_neg hb, if_neg (hb1 hb)]
                by_cases h5 : s = tS
                · rw [if_pos h5, if_pos h5]; rfl
                · rw [if_neg h5, if_neg h5]
                  by_cases h6 : s = tGa
                  · rw [if_pos h6]; exact j2 _ (fun h => absurd (by rw [show s = [103, 97] from h6]; rfl) h) (fun _ => Or.inl h6)
                  · rw [if_neg h6]
                    by_cases h8 : s = tFi
                    · rw [if_pos h8]; exact j2 _ (fun h => absurd (by rw [show s = [102, 105, 110, 97, 108] from h8]; rfl) h) (fun _ => Or.inr (Or.inl h8))
                    · rw [if_neg h8]
                      refine j2 _ ?_ ?_
                      · rintro h (g | g | g)
                        · exact h6 g
                        · exact h8 g
                        · exact h (by rw [show s = [114, 101, 108, 101, 97, 115, 101] from g]; rfl)
                      · intro h; exact Or.inr (Or.inr (beq_iff_eq.1 h))
            by_cases h4 : s = tRc
            · rw [if_pos h4]; exact j1 _ (fun h => absurd (by rw [show s = [114, 99] from h4]; rfl) h) (fun _ => Or.inl h4)
            · rw [if_neg h4]
              refine j1 _ ?_ ?_
              · rintro h (g | g)
                · exact h4 g
                · exact h (by rw [show s = [99, 114] from g]; rfl)
              · intro h; exact Or.inr (beq_iff_eq.1 h)
    · subst hn; rw [words_letters.j0, ts_toList, if_pos rfl]; rfl
    · subst hn; rw [words_letters.j0, ts_toList, if_neg (by decide), if_pos rfl]; rfl
    · subst hn; rw [words_letters.j0, ts_toList, if_neg (by decide), if_neg (by decide), if_pos rfl]; rfl
  unfold words_letters.f
  rw [ts_toList]
  by_cases hn : nu = true
  · rw [if_pos hn]
    by_cases h1 : t = [97]
    · rw [if_pos h1]; exact gen tA _ (Or.inr ⟨hn, Or.inl ⟨rfl, h1⟩⟩) (fun h => by rw [h1] at h; exact absurd h (by decide)) rfl
    · rw [if_neg h1]
      by_cases h2 : t = [98]
      · rw [if_pos h2]; exact gen tB _ (Or.inr ⟨hn, Or.inr (Or.inl ⟨rfl, h2⟩)⟩) (fun h => by rw [h2] at h; exact absurd h (by decide)) rfl
      · rw [if_neg h2]
        by_cases h3 : t = [109]
        · rw [if_pos h3]; exact gen tM _ (Or.inr ⟨hn, Or.inr (Or.inr ⟨rfl, h3⟩)⟩) (fun h => by rw [h3] at h; exact absurd h (by decide)) rfl
        · rw [if_neg h3]
          refine gen t _ (Or.inl rfl) ?_ rfl
          rintro _ ⟨_, g | g | g⟩
          · exact h1 g
          · exact h2 g
          · exact h3 g
  · rw [if_neg hn]
    exact gen t _ (Or.inl rfl) (fun _ h => hn h.1) rfl
theorem trim_told (t : List UInt8) : strings_TrimLeft.f (ts t) (⟨#[48]⟩ : ByteArray) = some (ts (t.dropWhile (· == 48))) := by
  unfold strings_TrimLeft.f
  rw [if_pos ⟨rfl, by decide⟩]
  rfl
theorem word_told (p : Pt) (k : Nat) (hk : 5 ≤ k) : words_word.f k (p93 p).f0 (p93 p).f1 (p93 p).f2 = some (pr (wordL p)) := by
  obtain ⟨j, rfl⟩ : ∃ j, k = j + 1 := ⟨k - 1, by omega⟩
  obtain ⟨t, da, nu⟩ := p
  show words_word.f (j + 1) (ts t) da nu = _
  have nums : words_word.j0 (j + 1) false (ts t) da nu = some (pr (numL t da)) := by
    rw [words_word.j0, if_neg (by simp), trim_told, Option.bind_some, ts_toList]
    unfold numL
    by_cases z : t.dropWhile (· == 48) = []
    · rw [if_pos z, if_pos z]; rfl
    · rw [if_neg z, if_neg z]
      by_cases d : da = true
      · rw [if_pos d, if_pos d]; rfl
      · rw [if_neg d, if_neg d]; rfl
  unfold words_word.f wordL
  rw [ts_toList]
  cases t with
  | nil => rw [if_pos rfl, nums]; rfl
  | cons c t =>
    have hb : bt (ts (c :: t)) 0 = (c.toNat : Int) := bt_nat (c :: t) 0 (by simp)
    rw [if_neg (by simp), if_pos (by rw [ts_size, List.length_cons]; omega), hb, digit_told, Option.bind_some]
    show _ = some (pr (if isD c = true then numL (c :: t) da else letL (c :: t) nu))
    by_cases d : isD c = true
    · rw [if_pos d, d]; exact nums
    · rw [if_neg d, Bool.eq_false_iff.2 d]
      show words_word.j0 (j + 1) true _ _ _ = _
      rw [words_word.j0, if_pos rfl, letters_told _ _ _ _ (by omega)]
      rfl
def toN (c : UInt8) : Int := (c.toNat : Int)
theorem nums_ts (l : List UInt8) : strOfNums (l.map toN) = ts l := by
  apply ba_ext
  show (l.map toN).map (fun n => UInt8.ofNat n.toNat) = l
  rw [List.map_map]
  conv => rhs; rw [← List.map_id l]
  apply List.map_congr_left
  intro c _
  show UInt8.ofNat (Int.toNat (c.toNat : Int)) = c
  rw [Int.toNat_natCast]; simp
theorem low_num (c : UInt8) : (if 65 ≤ (c.toNat : Int) ∧ (c.toNat : Int) ≤ 90 then (c.toNat : Int) + 32 else (c.toNat : Int)) = toN (lowB c) := by
  unfold lowB toN
  by_cases h : 65 ≤ c.toNat ∧ c.toNat ≤ 90
  · rw [if_pos (by omega), if_pos h, UInt8.toNat_add]
    have : (32 : UInt8).toNat = 32 := rfl
    rw [this]; omega
  · rw [if_neg (by omega), if_neg h]
theorem lower_told (v : List UInt8) (hv : v.length ≤ 1000000) : chars_Lower.f (ts v) = some (ts (v.map lowB)) := by
  unfold chars_Lower.f
  rw [if_pos (by rw [ts_size]; omega), ← nums_ts (v.map lowB)]
  congr 2
  unfold bytesOf
  rw [ts_list, List.map_map, List.map_map]
  apply List.map_congr_left
  intro c _
  exact low_num c
theorem rev_loop : ∀ (n : Nat) (m a b : List S38) (k : Nat), m.length ≤ n → a.length + m.length + b.length ≤ 4000000 →
    api_Word_73.l0 (k + n + 1) (a ++ (m ++ b)) (a.length : Int) (((a.length + m.length : Nat) : Int) - 1) = some (a ++ (m.reverse ++ b)) := by
  intro n
  induction n with
  | zero =>
    intro m a b k h _
    obtain rfl : m = [] := List.eq_nil_of_length_eq_zero (by omega)
    rw [api_Word_73.l0, if_neg (by simp; omega)]
    rfl
  | succ n ih =>
    intro m a b k h hb
    match m, h, hb with
    | [], h, hb => rw [api_Word_73.l0, if_neg (by simp; omega)]; rfl
    | [x], h, hb => rw [api_Word_73.l0, if_neg (by simp)]; rfl
    | x :: y :: m', h, hb =>
      obtain ⟨c, z, hc⟩ : ∃ c z, y :: m' = c ++ [z] := ⟨(y :: m').dropLast, (y :: m').getLast (by simp), (List.dropLast_concat_getLast (by simp)).symm⟩
      rw [hc] at h hb ⊢
      simp only [List.length_cons, List.length_append, List.length_nil] at h hb
      have hj : (((a.length + (x :: (c ++ [z])).length : Nat) : Int) - 1) = ((a.length + 1 + c.length : Nat) : Int) := by simp; omega
      have hL : (a ++ (x :: (c ++ [z]) ++ b)).length = a.length + 1 + c.length + 1 + b.length := by simp; omega
      have gz : rd_T38 (a ++ (x :: (c ++ [z]) ++ b)) ((a.length + 1 + c.length : Nat) : Int) = z := by
        unfold rd_T38
        rw [Int.toNat_natCast, List.getD_eq_getElem?_getD, List.getElem?_append_right (by omega)]
        rw [show a.length + 1 + c.length - a.length = c.length + 1 from by omega]
        simp
      have gx : rd_T38 (a ++ (x :: (c ++ [z]) ++ b)) ((a.length : Nat) : Int) = x := by
        unfold rd_T38
        rw [Int.toNat_natCast, List.getD_eq_getElem?_getD, List.getElem?_append_right (by omega)]
        simp
      have s1 : (a ++ (x :: (c ++ [z]) ++ b)).set ((a.length : Nat) : Int).toNat z = a ++ (z :: (c ++ [z]) ++ b) := by
        rw [Int.toNat_natCast, List.set_append_right _ _ (by omega)]
        simp
      have s2 : (a ++ (z :: (c ++ [z]) ++ b)).set ((a.length + 1 + c.length : Nat) : Int).toNat x = (a ++ [z]) ++ (c ++ ([x] ++ b)) := by
        rw [Int.toNat_natCast, List.set_append_right _ _ (by omega), show a.length + 1 + c.length - a.length = c.length + 1 from by omega]
        simp
      have w1 : wrap64 (((a.length : Nat) : Int) + 1) = (((a ++ [z]).length : Nat) : Int) := by
        rw [List.length_append]; unfold wrap64; simp; omega
      have w2 : wrap64 (((a.length + 1 + c.length : Nat) : Int) - 1) = (((a ++ [z]).length + c.length : Nat) : Int) - 1 := by
        rw [List.length_append]; unfold wrap64; simp; omega
      have := ih c (a ++ [z]) ([x] ++ b) k (by omega) (by simp; omega)
      rw [show k + (n + 1) + 1 = (k + n + 1) + 1 from by omega, api_Word_73.l0, hj, if_pos (by omega), if_pos (by omega), if_pos (by rw [hL]; omega), if_pos (by omega), if_pos (by rw [hL]; omega), gz, gx]
      show api_Word_73.l0 (k + n + 1) ((((a ++ (x :: (c ++ [z]) ++ b)).set ((a.length : Nat) : Int).toNat z)).set ((a.length + 1 + c.length : Nat) : Int).toNat x) _ _ = _
      rw [s1, s2, w1, w2, this]
      simp
theorem rev_told (l : List S38) (hl : l.length ≤ 4000000) (k : Nat) (hk : l.length + 1 ≤ k) : api_Word_73.f k l = some l.reverse := by
  have := rev_loop l.length l [] [] (k - l.length - 1) (Nat.le_refl _) (by simp; omega)
  rw [show k - l.length - 1 + l.length + 1 = k from by omega, List.append_nil, List.append_nil] at this
  unfold api_Word_73.f
  rw [show wrap64 ((l.length : Int) - 1) = (((([] : List S38).length + l.length : Nat) : Int) - 1) from by unfold wrap64; simp; omega]
  exact this
theorem push_skip (w : Wl) (out : List Wl) (h : w.1 = 6) (g : aheadL out = false) : pushL w out = out := if_pos ⟨h, g⟩
theorem push_add (w : Wl) (out : List Wl) (h : ¬ (w.1 = 6 ∧ aheadL out = false)) : pushL w out = w :: out := if_neg h
theorem ahead_cons (w : Wl) (l : List Wl) : aheadL (w :: l) = false ↔ ¬ w.1 = 6 ∧ ¬ w.1 = 10 := by
  unfold aheadL; simp
theorem split_loop : ∀ (n : Nat) (l : List Pt) (out : List Wl) (k : Nat), l.length = n → out.length + l.length ≤ 1000000 → out.length + l.length + 10 ≤ k →
    words_Split.l0 (k + n + 1) ((out.map w38).reverse) (l.map p93) = some (((l.map wordL).foldr pushL out).map w38) := by
  intro n
  induction n with
  | zero =>
    intro l out k h _ hk
    obtain rfl : l = [] := List.eq_nil_of_length_eq_zero h
    rw [words_Split.l0, if_pos (by simp), rev_told _ (by simp; omega) _ (by simp; omega), Option.bind_some, List.reverse_reverse]
    rfl
  | succ n ih =>
    intro l out k h hs hk
    obtain ⟨l', p, rfl⟩ : ∃ l' p, l = l' ++ [p] := ⟨l.dropLast, l.getLast (by intro z; rw [z] at h; simp at h), (List.dropLast_concat_getLast _).symm⟩
    have hl' : l'.length = n := by simpa using h
    rw [List.length_append, List.length_singleton] at hs hk
    have hm : ((l' ++ [p]).map p93).length = n + 1 := by rw [List.length_map, List.length_append, hl']; rfl
    have hx : wrap64 ((((l' ++ [p]).map p93).length : Int) - 1) = ((n : Nat) : Int) := by rw [hm]; exact last_of n (by omega)
    have hr : rd_T93 ((l' ++ [p]).map p93) ((n : Nat) : Int) = p93 p := by
      unfold rd_T93
      rw [Int.toNat_natCast, List.map_append, List.getD_eq_getElem?_getD, List.getElem?_append_right (by simp; omega)]
      simp [hl']
    have ht : ((l' ++ [p]).map p93).take ((n : Nat) : Int).toNat = l'.map p93 := by
      rw [Int.toNat_natCast, List.map_append, List.take_append_of_le_length (by simp; omega), List.take_of_length_le (by simp; omega)]
    have fold : (((l' ++ [p]).map wordL).foldr pushL out) = (l'.map wordL).foldr pushL (pushL (wordL p) out) := by simp
    have hlen : ((out.map w38).reverse).length = out.length := by simp
    have add : ¬ ((wordL p).1 = 6 ∧ aheadL out = false) → (if ((out.map w38).reverse).length < 5864062014805 then words_Split.l0 (k + n + 1) ((out.map w38).reverse ++ [(⟨(pr (wordL p)).1, (pr (wordL p)).2⟩ : S38)]) (l'.map p93) else none) = some ((((l' ++ [p]).map wordL).foldr pushL out).map w38) := by
      intro hp
      have e : (out.map w38).reverse ++ [(⟨(pr (wordL p)).1, (pr (wordL p)).2⟩ : S38)] = (((wordL p :: out)).map w38).reverse := by
        rw [List.map_cons, List.reverse_cons]; rfl
      rw [if_pos (by rw [hlen]; omega), e, ih l' (wordL p :: out) k hl' (by simp; omega) (by simp; omega), fold, push_add _ _ hp]
    have skip : (wordL p).1 = 6 → aheadL out = false → words_Split.l0 (k + n + 1) ((out.map w38).reverse) (l'.map p93) = some ((((l' ++ [p]).map wordL).foldr pushL out).map w38) := by
      intro h1 h2
      rw [ih l' out k hl' (by omega) (by omega), fold, push_skip _ _ h1 h2]
    rw [show k + (n + 1) + 1 = (k + n + 1) + 1 from by omega, words_Split.l0, if_neg (by rw [hm]; omega), hx, if_pos (by omega), if_pos (by rw [hm]; omega), hr, word_told p _ (by omega), Option.bind_some, if_pos (by rw [hm]; omega), ht, Option.bind_some]
    by_cases h6 : (pr (wordL p)).1 = 6
    · rw [if_pos h6]
      cases out with
      | nil =>
        rw [if_neg (by simp)]
        exact skip h6 rfl
      | cons o os =>
        have ho : (((o :: os).map w38).reverse).length = os.length + 1 := by simp
        have hy : wrap64 (((((o :: os).map w38).reverse).length : Int) - 1) = ((os.length : Nat) : Int) := by rw [ho]; exact last_of _ (by simp at hs; omega)
        have hz : rd_T38 (((o :: os).map w38).reverse) ((os.length : Nat) : Int) = w38 o := by
          unfold rd_T38
          rw [Int.toNat_natCast, List.map_cons, List.reverse_cons, List.getD_eq_getElem?_getD, List.getElem?_append_right (by simp)]
          simp
        rw [if_pos (by rw [ho]; omega), hy, if_pos (by omega), if_pos (by rw [ho]; omega), hz]
        by_cases a6 : (w38 o).f0 = 6
        · rw [if_pos a6]
          exact add (fun h => ((ahead_cons o os).1 h.2).1 a6)
        · rw [if_neg a6]
          by_cases a10 : (w38 o).f0 = 10
          · rw [if_pos a10]
            exact add (fun h => ((ahead_cons o os).1 h.2).2 a10)
          · rw [if_neg a10]
            exact skip h6 ((ahead_cons o os).2 ⟨a6, a10⟩)
    · rw [if_neg h6]
      exact add (fun h => h6 h.1)
theorem stepP_B (r : List Pt × Pt) (c : UInt8) (B : Nat) (h : ∀ p ∈ allP r, p.tx.length ≤ B) : (∀ p ∈ allP (stepP r c), p.tx.length ≤ B + 1) ∧ (allP (stepP r c)).length ≤ (allP r).length + 1 := by
  have h1 : ∀ p ∈ r.1, p.tx.length ≤ B := fun p hp => h p (List.mem_append_left _ hp)
  have h2 : r.2.tx.length ≤ B := h _ (List.mem_append_right _ (List.mem_singleton.2 rfl))
  unfold stepP allP
  split
  · refine ⟨?_, by simp⟩
    intro p hp
    simp only [List.mem_append, List.mem_singleton] at hp
    rcases hp with (hp | rfl) | rfl
    · have := h1 p hp; omega
    · omega
    · simp
  · split
    · refine ⟨?_, by simp⟩
      intro p hp
      simp only [List.mem_append, List.mem_singleton] at hp
      rcases hp with hp | rfl
      · have := h1 p hp; omega
      · simp; omega
    · refine ⟨?_, by simp⟩
      intro p hp
      simp only [List.mem_append, List.mem_singleton] at hp
      rcases hp with (hp | rfl) | rfl
      · have := h1 p hp; omega
      · simp; omega
      · simp
theorem runP_B : ∀ (l : List UInt8) (r : List Pt × Pt) (B : Nat), (∀ p ∈ allP r, p.tx.length ≤ B) → (∀ p ∈ allP (runP r l), p.tx.length ≤ B + l.length) ∧ (allP (runP r l)).length ≤ (allP r).length + l.length
  | [], _, _, h => ⟨fun p hp => h p hp, Nat.le_refl _⟩
  | c :: l, r, B, h => by
    have s := stepP_B r c B h
    have i := runP_B l (stepP r c) (B + 1) s.1
    refine ⟨fun p hp => ?_, ?_⟩
    · have := i.1 p hp
      rw [List.length_cons]; omega
    · have a := i.2
      have b := s.2
      rw [List.length_cons]
      show (allP (runP (stepP r c) l)).length ≤ _
      omega
theorem partsL_B (l : List UInt8) : (∀ p ∈ partsL l, p.tx.length ≤ l.length) ∧ (partsL l).length ≤ l.length + 1 := by
  have := runP_B l p0 0 (fun p hp => by obtain rfl := List.mem_singleton.1 hp; exact Nat.le_refl _)
  refine ⟨fun p hp => ?_, ?_⟩
  · have := this.1 p hp; omega
  · have := this.2
    have e : (allP p0).length = 1 := rfl
    unfold partsL; omega
theorem split_told (v : List UInt8) (hv : v.length ≤ 100000) (k : Nat) (hk : 3 * v.length + 40 ≤ k) : words_Split.f k (ts v) = some ((splitL v).map w38) := by
  have hB := partsL_B (v.map lowB)
  rw [List.length_map] at hB
  unfold words_Split.f
  rw [lower_told v (by omega), Option.bind_some, parts_told _ (by rw [List.length_map]; omega) k (by rw [List.length_map]; omega), Option.bind_some]
  have := split_loop (partsL (v.map lowB)).length (partsL (v.map lowB)) [] (k - (partsL (v.map lowB)).length - 1) rfl (by simp; omega) (by simp; omega)
  rw [show k - (partsL (v.map lowB)).length - 1 + (partsL (v.map lowB)).length + 1 = k from by omega] at this
  exact this
theorem pushL_len (w : Wl) (out : List Wl) : (pushL w out).length ≤ out.length + 1 := by
  unfold pushL; split <;> simp
theorem splitL_len (v : List UInt8) : (splitL v).length ≤ v.length + 1 := by
  have g : ∀ l : List Wl, (l.foldr pushL []).length ≤ l.length := by
    intro l
    induction l with
    | nil => simp
    | cons w l ih => rw [List.foldr_cons]; have := pushL_len w (l.foldr pushL []); rw [List.length_cons]; omega
  have := g ((partsL (v.map lowB)).map wordL)
  have hB := (partsL_B (v.map lowB)).2
  rw [List.length_map] at this hB
  unfold splitL outL
  omega
theorem cmp_int (a b : Int) : cmp_Compare_int.f a b = some (if a < b then -1 else if a > b then 1 else 0) := by
  unfold cmp_Compare_int.f cmp_isNaN_int.f
  rw [Option.bind_some, Option.bind_some, if_neg (by simp), if_neg (by simp)]
  repeat' split
  all_goals rfl
theorem cmp_str (a b : List UInt8) : cmp_Compare_string.f (ts a) (ts b) = some (if Op.bytesLess a b = true then -1 else if Op.bytesLess b a = true then 1 else 0) := by
  unfold cmp_Compare_string.f cmp_isNaN_string.f
  rw [Option.bind_some, Option.bind_some, if_neg (by simp), if_neg (by simp), ts_toList, ts_toList]
  repeat' split
  all_goals rfl
theorem or_two (a b : Int) (k : Nat) (hk : 4 ≤ k) : cmp_Or_int.f k [a, b] = some (if a = 0 then b else a) := by
  obtain ⟨k, rfl⟩ : ∃ j, k = j + 1 + 1 + 1 := ⟨k - 3, by omega⟩
  unfold cmp_Or_int.f
  have r0 : rd [a, b] 0 = a := rfl
  have r1 : rd [a, b] 1 = b := rfl
  have w0 : wrap64 ((0 : Int) + 1) = 1 := by unfold wrap64; omega
  have w1 : wrap64 ((1 : Int) + 1) = 2 := by unfold wrap64; omega
  have l2 : (([a, b] : List Int).length : Int) = 2 := rfl
  rw [l2, cmp_Or_int.l0, if_pos (by decide), if_pos (by decide), l2, if_pos (by decide), r0, w0]
  by_cases h : a = 0
  · rw [if_pos h, if_pos h, cmp_Or_int.l0, if_pos (by decide), if_pos (by decide), l2, if_pos (by decide), r1, w1]
    by_cases g : b = 0
    · rw [if_pos g, cmp_Or_int.l0, if_neg (by decide), g]
    · rw [if_neg g]
  · rw [if_neg h, if_neg h]
def Tot {α : Type} (f : Nat → Option α) (P : α → Prop) : Prop := ∃ k r, P r ∧ ∀ j, k ≤ j → f j = some r
theorem tot_get {α : Type} {f : Nat → Option α} {P : α → Prop} (h : Tot f P) : ∃ k r, P r ∧ ∀ j, k ≤ j → f j = some r := h
section
variable {α β : Type}
theorem tot_some {P : α → Prop} {r : α} (h : P r) : Tot (fun _ => some r) P := ⟨0, r, h, fun _ _ => rfl⟩
theorem tot_ge {f : Nat → Option α} {r : α} (n : Nat) (h : ∀ k, n ≤ k → f k = some r) : Tot f (fun x => x = r) := ⟨n, r, rfl, h⟩
theorem tot_imp {f : Nat → Option α} {P Q : α → Prop} (h : Tot f P) (i : ∀ r, P r → Q r) : Tot f Q := by
  obtain ⟨k, r, p, e⟩ := h
  exact ⟨k, r, i r p, e⟩
theorem tot_bind {g : Nat → Option α} {F : Nat → α → Option β} {Q : α → Prop} {P : β → Prop} (h : Tot g Q) (hF : ∀ r, Q r → Tot (fun k => F k r) P) : Tot (fun k => (g k).bind (F k)) P := by
  obtain ⟨k1, r, q, h1⟩ := h
  obtain ⟨k2, s, p, h2⟩ := hF r q
  exact ⟨k1 + k2, s, p, fun j hj => by show (g j).bind (F j) = _; rw [h1 j (by omega), Option.bind_some]; exact h2 j (by omega)⟩
theorem tot_if {c : Prop} [Decidable c] {f g : Nat → Option α} {P : α → Prop} (h1 : c → Tot f P) (h2 : ¬ c → Tot g P) : Tot (fun k => if c then f k else g k) P := by
  by_cases h : c
  · obtain ⟨k, r, p, e⟩ := h1 h; exact ⟨k, r, p, fun j hj => (if_pos h).trans (e j hj)⟩
  · obtain ⟨k, r, p, e⟩ := h2 h; exact ⟨k, r, p, fun j hj => (if_neg h).trans (e j hj)⟩
theorem tot_guard {c : Prop} [Decidable c] {f g : Nat → Option α} {P : α → Prop} (h : c) (h1 : Tot f P) : Tot (fun k => if c then f k else g k) P := tot_if (fun _ => h1) (fun n => absurd h n)
theorem tot_succ {f b : Nat → Option α} {P : α → Prop} (h : Tot b P) (e : ∀ k, f (k + 1) = b k) : Tot f P := by
  obtain ⟨k, r, p, h⟩ := h
  exact ⟨k + 1, r, p, fun j hj => by obtain ⟨i, rfl⟩ : ∃ i, j = i + 1 := ⟨j - 1, by omega⟩; rw [e]; exact h i (by omega)⟩
end
def Short (l : List S58) : Prop := ∀ s ∈ l, s.f0.size ≤ 1000 ∧ s.f1.size ≤ 1000
end Go.Proofs.YtgdjfcmmpjcaaaaDoor.Pure
namespace Go.Proofs.YtgdjfcmmpjcaaaaDoor.Pure
open Go Go.Proofs.YtgdjfcmmpjcaaaaDoorW.Px
set_option linter.unusedSimpArgs false
set_option linter.unusedVariables false
structure Ord3 {α : Type} (c : α → α → Int) : Prop where
  rng : ∀ a b, c a b = -1 ∨ c a b = 0 ∨ c a b = 1
  anti : ∀ a b, c b a = - c a b
  trans : ∀ a b d, c a b ≤ 0 → c b d ≤ 0 → c a d ≤ 0
section
variable {α β : Type}
theorem Ord3.self {c : α → α → Int} (h : Ord3 c) (a : α) : c a a = 0 := by have := h.anti a a; omega
theorem Ord3.eql {c : α → α → Int} (h : Ord3 c) {a b : α} (e : c a b = 0) (d : α) : c a d = c b d := by
  have h1 := h.trans b a d
  have h2 := h.trans a b d
  have h3 := h.trans d a b
  have h4 := h.trans d b a
  have e1 := h.anti a b
  have e2 := h.anti a d
  have e3 := h.anti b d
  rcases h.rng a d with r | r | r <;> rcases h.rng b d with q | q | q <;> omega
theorem Ord3.lex {c1 c2 : α → α → Int} (h1 : Ord3 c1) (h2 : Ord3 c2) : Ord3 (fun a b => if c1 a b = 0 then c2 a b else c1 a b) where
  rng a b := by
    show (if c1 a b = 0 then c2 a b else c1 a b) = -1 ∨ (if c1 a b = 0 then c2 a b else c1 a b) = 0 ∨ (if c1 a b = 0 then c2 a b else c1 a b) = 1
    split
    · exact h2.rng a b
    · exact h1.rng a b
  anti a b := by
    show (if c1 b a = 0 then c2 b a else c1 b a) = - (if c1 a b = 0 then c2 a b else c1 a b)
    have e1 := h1.anti a b
    have e2 := h2.anti a b
    by_cases z : c1 a b = 0
    · rw [if_pos z, if_pos (by omega)]; exact e2
    · rw [if_neg z, if_neg (by omega)]; exact e1
  trans a b d := by
    show (if c1 a b = 0 then c2 a b else c1 a b) ≤ 0 → (if c1 b d = 0 then c2 b d else c1 b d) ≤ 0 → (if c1 a d = 0 then c2 a d else c1 a d) ≤ 0
    intro p q
    by_cases z : c1 a b = 0
    · have e := h1.eql z d
      rw [if_pos z] at p
      by_cases y : c1 b d = 0
      · rw [if_pos y] at q
        rw [if_pos (by omega)]
        exact h2.trans a b d p q
      · rw [if_neg y] at q
        rw [if_neg (by omega)]
        omega
    · rw [if_neg z] at p
      have t := h1.trans a b d p
      have t2 := h1.trans d a b
      have t3 := h1.trans b d a
      have a1 := h1.anti a b
      have a2 := h1.anti a d
      have a3 := h1.anti b d
      have k : c1 b d ≤ 0 := by
        by_cases y : c1 b d = 0
        · omega
        · rw [if_neg y] at q; exact q
      have k2 := t k
      rw [if_neg (by omega)]
      exact k2
theorem Ord3.comap {c : β → β → Int} (h : Ord3 c) (f : α → β) : Ord3 (fun a b => c (f a) (f b)) where
  rng a b := h.rng (f a) (f b)
  anti a b := h.anti (f a) (f b)
  trans a b d := h.trans (f a) (f b) (f d)
theorem Ord3.zero : Ord3 (fun (_ _ : α) => (0 : Int)) where
  rng _ _ := Or.inr (Or.inl rfl)
  anti _ _ := rfl
  trans _ _ _ _ _ := Int.le_refl _
end
def cmpI (a b : Int) : Int := if a < b then -1 else if a > b then 1 else 0
theorem ord_int : Ord3 cmpI where
  rng a b := by unfold cmpI; split; · exact Or.inl rfl
                · split; · exact Or.inr (Or.inr rfl)
                  · exact Or.inr (Or.inl rfl)
  anti a b := by unfold cmpI; repeat' split
                 all_goals omega
  trans a b d := by unfold cmpI; intro p q; repeat' split
                    all_goals (repeat' split at p)
                    all_goals (repeat' split at q)
                    all_goals omega
theorem less_irr : ∀ a : List UInt8, Op.bytesLess a a = false
  | [] => rfl
  | a :: x => by
    have ih := less_irr x
    have h : decide (a < a) = false := decide_eq_false (fun g => by have := UInt8.lt_iff_toNat_lt.1 g; omega)
    simp only [Op.bytesLess, h, ih, Bool.and_false, Bool.or_false]
theorem less_trans : ∀ a b c : List UInt8, Op.bytesLess a b = true → Op.bytesLess b c = true → Op.bytesLess a c = true
  | [], [], _, h, _ => by simp [Op.bytesLess] at h
  | _ :: _, [], _, h, _ => by simp [Op.bytesLess] at h
  | _, _ :: _, [], _, h => by simp [Op.bytesLess] at h
  | [], _ :: _, _ :: _, _, _ => by simp [Op.bytesLess]
  | a :: x, b :: y, c :: z, h1, h2 => by
    have ih := less_trans x y z
    simp only [Op.bytesLess, Bool.or_eq_true, Bool.and_eq_true, decide_eq_true_eq, beq_iff_eq, UInt8.lt_iff_toNat_lt] at h1 h2 ⊢
    rcases h1 with h1 | ⟨rfl, h1⟩ <;> rcases h2 with h2 | ⟨rfl, h2⟩
    · exact Or.inl (by omega)
    · exact Or.inl h1
    · exact Or.inl h2
    · exact Or.inr ⟨rfl, ih h1 h2⟩
theorem less_tot : ∀ a b : List UInt8, Op.bytesLess a b = false → Op.bytesLess b a = false → a = b
  | [], [], _, _ => rfl
  | [], _ :: _, h, _ => by simp [Op.bytesLess] at h
  | _ :: _, [], _, h => by simp [Op.bytesLess] at h
  | a :: x, b :: y, h1, h2 => by
    have ih := less_tot x y
    simp only [Op.bytesLess, Bool.or_eq_false_iff, decide_eq_false_iff_not, UInt8.lt_iff_toNat_lt] at h1 h2
    obtain rfl : a = b := UInt8.toNat_inj.1 (by omega)
    simp only [beq_self_eq_true, Bool.true_and] at h1 h2
    rw [ih h1.2 h2.2]
theorem less_asym (a b : List UInt8) (h : Op.bytesLess a b = true) : Op.bytesLess b a = false := by
  rw [Bool.eq_false_iff]
  intro g
  have := less_trans a b a h g
  rw [less_irr] at this
  cases this
def cmpB (a b : List UInt8) : Int := if Op.bytesLess a b = true then -1 else if Op.bytesLess b a = true then 1 else 0
theorem cmpB_zero (a b : List UInt8) (h : cmpB a b = 0) : a = b := by
  unfold cmpB at h
  by_cases p : Op.bytesLess a b = true
  · rw [if_pos p] at h; omega
  · rw [if_neg p] at h
    by_cases q : Op.bytesLess b a = true
    · rw [if_pos q] at h; omega
    · exact less_tot a b (Bool.eq_false_iff.2 p) (Bool.eq_false_iff.2 q)
theorem cmpB_le (a b : List UInt8) : cmpB a b ≤ 0 ↔ Op.bytesLess b a = false := by
  unfold cmpB
  by_cases p : Op.bytesLess a b = true
  · rw [if_pos p]
    exact ⟨fun _ => less_asym a b p, fun _ => by omega⟩
  · rw [if_neg p]
    by_cases q : Op.bytesLess b a = true
    · rw [if_pos q, q]; simp
    · rw [if_neg q, Bool.eq_false_iff.2 q]; simp
theorem ord_bytes : Ord3 cmpB where
  rng a b := by unfold cmpB; split; · exact Or.inl rfl
                · split; · exact Or.inr (Or.inr rfl)
                  · exact Or.inr (Or.inl rfl)
  anti a b := by
    unfold cmpB
    by_cases p : Op.bytesLess a b = true
    · rw [if_pos p, less_asym a b p, if_pos p]; simp
    · rw [if_neg p]
      by_cases q : Op.bytesLess b a = true
      · simp [q, p]
      · simp [q, p]
  trans a b d := by
    rw [cmpB_le, cmpB_le, cmpB_le]
    intro p q
    rw [Bool.eq_false_iff]
    intro g
    by_cases h : Op.bytesLess a b = true
    · rw [less_trans d a b g h] at q; cases q
    · obtain rfl := less_tot a b (Bool.eq_false_iff.2 h) p
      rw [g] at q; cases q
def cmpW (a b : Wl) : Int :=
  if a.1 < b.1 then -1 else if a.1 > b.1 then 1
  else if a.1 = 8 then cmpB a.2 b.2
  else if a.1 = 9 ∨ a.1 = 10 then (if cmpI a.2.length b.2.length = 0 then cmpB a.2 b.2 else cmpI a.2.length b.2.length)
  else 0
def keyN (a : Wl) : Int := if a.1 = 9 ∨ a.1 = 10 then a.2.length else 0
def keyB (a : Wl) : List UInt8 := if a.1 = 8 ∨ a.1 = 9 ∨ a.1 = 10 then a.2 else []
theorem cmpB_nil : cmpB [] [] = 0 := by decide
theorem cmpW_key (a b : Wl) : cmpW a b = if cmpI a.1 b.1 = 0 then (if cmpI (keyN a) (keyN b) = 0 then cmpB (keyB a) (keyB b) else cmpI (keyN a) (keyN b)) else cmpI a.1 b.1 := by
  unfold cmpW
  have ci : cmpI a.1 b.1 = if a.1 < b.1 then -1 else if a.1 > b.1 then 1 else 0 := rfl
  by_cases p : a.1 < b.1
  · rw [if_pos p] at ci
    rw [if_pos p, ci]; rfl
  · by_cases q : a.1 > b.1
    · rw [if_neg p, if_pos q] at ci
      rw [if_neg p, if_pos q, ci]; rfl
    · have e : a.1 = b.1 := by omega
      rw [if_neg p, if_neg q] at ci
      rw [if_neg p, if_neg q, ci, if_pos rfl]
      unfold keyN keyB
      rw [← e]
      have z0 : cmpI 0 0 = 0 := rfl
      by_cases h8 : a.1 = 8
      · have n9 : ¬ (a.1 = 9 ∨ a.1 = 10) := by omega
        have k : a.1 = 8 ∨ a.1 = 9 ∨ a.1 = 10 := Or.inl h8
        simp only [if_pos h8, if_neg n9, if_pos k, if_pos z0]
      · by_cases h9 : a.1 = 9 ∨ a.1 = 10
        · have k : a.1 = 8 ∨ a.1 = 9 ∨ a.1 = 10 := Or.inr h9
          simp only [if_neg h8, if_pos h9, if_pos k]
        · have k : ¬ (a.1 = 8 ∨ a.1 = 9 ∨ a.1 = 10) := by omega
          simp only [if_neg h8, if_neg h9, if_neg k, if_pos z0, cmpB_nil]
theorem ord_word : Ord3 cmpW := by
  have h := (ord_int.comap (fun a : Wl => a.1)).lex ((ord_int.comap keyN).lex (ord_bytes.comap keyB))
  have e : cmpW = fun a b => if cmpI a.1 b.1 = 0 then (if cmpI (keyN a) (keyN b) = 0 then cmpB (keyB a) (keyB b) else cmpI (keyN a) (keyN b)) else cmpI a.1 b.1 := by
    funext a b; exact cmpW_key a b
  rw [e]
  exact h
def hdW : List Wl → Wl
  | [] => (6, [])
  | w :: _ => w
def cmpN : Nat → List Wl → List Wl → Int
  | 0, _, _ => 0
  | n + 1, x, y => if cmpW (hdW x) (hdW y) = 0 then cmpN n x.tail y.tail else cmpW (hdW x) (hdW y)
theorem ord_words : ∀ n, Ord3 (cmpN n)
  | 0 => Ord3.zero
  | n + 1 => (ord_word.comap hdW).lex ((ord_words n).comap List.tail)
theorem cmpN_succ (n : Nat) (x y : List Wl) : cmpN (n + 1) x y = if cmpW (hdW x) (hdW y) = 0 then cmpN n x.tail y.tail else cmpW (hdW x) (hdW y) := rfl
theorem cmpN_nil : ∀ n, cmpN n [] [] = 0
  | 0 => rfl
  | n + 1 => by
    have e : cmpW (hdW []) (hdW []) = 0 := ord_word.self _
    rw [cmpN, if_pos e]
    exact cmpN_nil n
def mostN : Nat := 100100
def cmpV (a b : List UInt8) : Int := cmpN mostN (splitL a) (splitL b)
theorem ord_vers : Ord3 cmpV := (ord_words mostN).comap splitL
end Go.Proofs.YtgdjfcmmpjcaaaaDoor.Pure
namespace Go.Proofs.YtgdjfcmmpjcaaaaDoor.Pure
open Go Go.RowKit Go.Proofs.YtgdjfcmmpjcaaaaDoor.Q Go.Proofs.YtgdjfcmmpjcaaaaDoorW.PrintWords Go.Proofs.YtgdjfcmmpjcaaaaDoorW.PrintLast Go.Proofs.YtgdjfcmmpjcaaaaDoorW.Own Go.Proofs.YtgdjfcmmpjcaaaaDoorW.PrintMore Go.Proofs.YtgdjfcmmpjcaaaaDoorW.Px
set_option linter.unusedSimpArgs false
set_option linter.unusedVariables false
theorem cmp_told3 (a b : List UInt8) : cmp_Compare_string.f (ts a) (ts b) = some (cmpB a b) := cmp_str a b
theorem word_cmp (x y : Wl) (k : Nat) (hk : 10 ≤ k) : order_word.f k x.1 (ts x.2) y.1 (ts y.2) = some (cmpW x y) := by
  have len : ∀ k, 9 ≤ k → order_word.j0 (k + 1) true x.1 (ts x.2) y.1 (ts y.2) = some (if cmpI x.2.length y.2.length = 0 then cmpB x.2 y.2 else cmpI x.2.length y.2.length) := by
    intro k hk
    rw [order_word.j0, if_pos rfl, cmp_int, Option.bind_some, cmp_told3, Option.bind_some, or_two _ _ _ (by omega), Option.bind_some, ts_size, ts_size]
    rfl
  unfold order_word.f cmpW
  rw [cmp_int, Option.bind_some]
  by_cases p : x.1 < y.1
  · rw [if_pos p, if_pos p, if_neg (by decide)]
  · by_cases q : x.1 > y.1
    · rw [if_neg p, if_pos q, if_neg p, if_pos q, if_neg (by decide)]
    · rw [if_neg p, if_neg q, if_neg p, if_neg q, if_pos rfl]
      by_cases e8 : x.1 = 8
      · rw [if_pos e8, if_pos e8, cmp_told3, Option.bind_some]
      · rw [if_neg e8, if_neg e8]
        obtain ⟨k, rfl⟩ : ∃ i, k = i + 1 := ⟨k - 1, by omega⟩
        by_cases e9 : x.1 = 9
        · rw [if_pos e9, show (x.1 == 9) = true from beq_iff_eq.2 e9, len k (by omega), if_pos (Or.inl e9)]
        · rw [if_neg e9]
          by_cases e10 : x.1 = 10
          · rw [show (x.1 == 10) = true from beq_iff_eq.2 e10, len k (by omega), if_pos (Or.inr e10)]
          · rw [show (x.1 == 10) = false from beq_eq_false_iff_ne.2 e10, order_word.j0, if_neg (by decide), if_neg (by rintro (h | h) <;> omega)]
theorem at_cmp (l : List Wl) (i : Nat) : order_at.f (l.map w38) (i : Int) = some (pr (hdW (l.drop i))) := by
  unfold order_at.f
  rw [List.length_map]
  by_cases h : (i : Int) < (l.length : Int)
  · have hi : i < l.length := by omega
    rw [if_pos h, if_pos (by omega), List.drop_eq_getElem_cons hi]
    unfold rd_T38
    rw [Int.toNat_natCast, List.getD_eq_getElem?_getD, List.getElem?_map, List.getElem?_eq_getElem hi]
    rfl
  · rw [if_neg h, List.drop_eq_nil_of_le (by omega)]
    rfl
theorem tail_drop (l : List Wl) (i : Nat) : (l.drop i).tail = l.drop (i + 1) := by rw [List.tail_drop]
theorem words_cmp (x y : List Wl) (hx : x.length ≤ 100100) (hy : y.length ≤ 100100) : ∀ (d i : Nat), i ≤ 100100 → x.length ≤ i + d → y.length ≤ i + d →
    Tot (fun k => order_Words.l0 k (x.map w38) (y.map w38) (i : Int)) (fun r => r = cmpN (d + 1) (x.drop i) (y.drop i)) := by
  have hm : ∀ i : Nat, (i : Int) < mx (x.length : Int) (y.length : Int) ↔ i < x.length ∨ i < y.length := by
    intro i
    unfold mx
    split <;> omega
  intro d
  induction d with
  | zero =>
    intro i hi h1 h2
    refine tot_succ ?_ (fun k => by rw [order_Words.l0])
    rw [at_cmp, at_cmp]
    simp only [Option.bind_some, pr]
    refine tot_bind (tot_ge 10 (fun k hk => word_cmp (hdW (x.drop i)) (hdW (y.drop i)) k hk)) (fun r hr => ?_)
    subst hr
    have nb : ¬ wrap64 ((i : Int) + 1) < mx ((x.map w38).length : Int) ((y.map w38).length : Int) := by
      rw [List.length_map, List.length_map, next_of i (by omega), hm]; omega
    refine tot_if (fun z => tot_if (fun h => absurd h nb) (fun _ => tot_some ?_)) (fun z => tot_some ?_)
    · rw [cmpN_succ, if_pos z, z]; rfl
    · rw [cmpN_succ, if_neg z]
  | succ d ih =>
    intro i hi h1 h2
    refine tot_succ ?_ (fun k => by rw [order_Words.l0])
    rw [at_cmp, at_cmp]
    simp only [Option.bind_some, pr]
    refine tot_bind (tot_ge 10 (fun k hk => word_cmp (hdW (x.drop i)) (hdW (y.drop i)) k hk)) (fun r hr => ?_)
    subst hr
    rw [List.length_map, List.length_map, next_of i (by omega)]
    refine tot_if (fun z => tot_if (fun h => ?_) (fun h => tot_some ?_)) (fun z => tot_some ?_)
    · have hb := (hm _).1 h
      refine tot_imp (ih (i + 1) (by omega) (by omega) (by omega)) (fun r hr => ?_)
      rw [hr, cmpN_succ (d + 1), if_pos z, tail_drop, tail_drop]
    · rw [hm] at h
      rw [cmpN_succ (d + 1), if_pos z, tail_drop, tail_drop, List.drop_eq_nil_of_le (show x.length ≤ i + 1 by omega), List.drop_eq_nil_of_le (show y.length ≤ i + 1 by omega), cmpN_nil, z]
    · rw [cmpN_succ (d + 1), if_neg z]
theorem compare_cmp (a b : List UInt8) (ha : a.length ≤ 100000) (hb : b.length ≤ 100000) : Tot (fun k => order_Compare.f k (ts a) (ts b)) (fun r => r = cmpV a b) := by
  have sa := splitL_len a
  have sb := splitL_len b
  unfold order_Compare.f order_Words.f
  refine tot_bind (tot_ge 400000 (fun k hk => split_told a ha k (by omega))) (fun x hx => ?_)
  subst hx
  refine tot_bind (tot_ge 400000 (fun k hk => split_told b hb k (by omega))) (fun y hy => ?_)
  subst hy
  refine tot_bind (words_cmp (splitL a) (splitL b) (by omega) (by omega) 100099 0 (by omega) (by omega) (by omega)) (fun r hr => tot_some ?_)
  rw [hr, List.drop_zero, List.drop_zero]
  rfl
theorem or_four (a b c d : Int) (k : Nat) (hk : 6 ≤ k) : cmp_Or_int.f k [a, b, c, d] = some (if a = 0 then (if b = 0 then (if c = 0 then d else c) else b) else a) := by
  obtain ⟨k, rfl⟩ : ∃ j, k = j + 1 + 1 + 1 + 1 + 1 := ⟨k - 5, by omega⟩
  unfold cmp_Or_int.f
  have r0 : rd [a, b, c, d] 0 = a := rfl
  have r1 : rd [a, b, c, d] 1 = b := rfl
  have r2 : rd [a, b, c, d] 2 = c := rfl
  have r3 : rd [a, b, c, d] 3 = d := rfl
  have w0 : wrap64 ((0 : Int) + 1) = 1 := by unfold wrap64; omega
  have w1 : wrap64 ((1 : Int) + 1) = 2 := by unfold wrap64; omega
  have w2 : wrap64 ((2 : Int) + 1) = 3 := by unfold wrap64; omega
  have w3 : wrap64 ((3 : Int) + 1) = 4 := by unfold wrap64; omega
  have l4 : (([a, b, c, d] : List Int).length : Int) = 4 := rfl
  rw [l4, cmp_Or_int.l0, if_pos (by decide), if_pos (by decide), l4, if_pos (by decide), r0, w0]
  by_cases h : a = 0
  · rw [if_pos h, if_pos h, cmp_Or_int.l0, if_pos (by decide), if_pos (by decide), l4, if_pos (by decide), r1, w1]
    by_cases g : b = 0
    · rw [if_pos g, if_pos g, cmp_Or_int.l0, if_pos (by decide), if_pos (by decide), l4, if_pos (by decide), r2, w2]
      by_cases f : c = 0
      · rw [if_pos f, if_pos f, cmp_Or_int.l0, if_pos (by decide), if_pos (by decide), l4, if_pos (by decide), r3, w3]
        by_cases e : d = 0
        · rw [if_pos e, cmp_Or_int.l0, if_neg (by decide), e]
        · rw [if_neg e]
      · rw [if_neg f, if_neg f]
    · rw [if_neg g, if_neg g]
  · rw [if_neg h, if_neg h]
abbrev C3 := List UInt8 × List UInt8 × List UInt8
def cmpC (a b : C3) : Int := if cmpB a.1 b.1 = 0 then (if cmpB a.2.1 b.2.1 = 0 then (if cmpV a.2.2 b.2.2 = 0 then cmpB a.2.2 b.2.2 else cmpV a.2.2 b.2.2) else cmpB a.2.1 b.2.1) else cmpB a.1 b.1
theorem ord_coord : Ord3 cmpC := (ord_bytes.comap (fun a : C3 => a.1)).lex ((ord_bytes.comap (fun a : C3 => a.2.1)).lex ((ord_vers.comap (fun a : C3 => a.2.2)).lex (ord_bytes.comap (fun a : C3 => a.2.2))))
theorem cmpC_zero (a b : C3) (h : cmpC a b = 0) : a = b := by
  unfold cmpC at h
  by_cases p : cmpB a.1 b.1 = 0
  · rw [if_pos p] at h
    by_cases q : cmpB a.2.1 b.2.1 = 0
    · rw [if_pos q] at h
      by_cases r : cmpV a.2.2 b.2.2 = 0
      · rw [if_pos r] at h
        exact Prod.ext (cmpB_zero _ _ p) (Prod.ext (cmpB_zero _ _ q) (cmpB_zero _ _ h))
      · rw [if_neg r] at h; exact absurd h r
    · rw [if_neg q] at h; exact absurd h q
  · rw [if_neg p] at h; exact absurd h p
theorem less_cmp (a0 a1 a2 b0 b1 b2 : List UInt8) (ha : a2.length ≤ 100000) (hb : b2.length ≤ 100000) : Tot (fun k => coord_Less.f k (ts a0) (ts a1) (ts a2) (ts b0) (ts b1) (ts b2)) (fun r => r = decide (cmpC (a0, a1, a2) (b0, b1, b2) < 0)) := by
  unfold coord_Less.f coord_Compare.f
  rw [cmp_told3, cmp_told3, cmp_told3]
  simp only [Option.bind_some]
  refine tot_bind (Q := fun r => r = cmpC (a0, a1, a2) (b0, b1, b2)) (tot_bind (compare_cmp a2 b2 ha hb) (fun c hc => ?_)) (fun r hr => tot_some (by rw [hr]))
  subst hc
  exact tot_bind (tot_ge 6 (fun k hk => or_four _ _ _ _ k hk)) (fun r hr => tot_some hr)
def tx (l : List UInt8) : ByteArray := ⟨l.toArray⟩
theorem awake_20 : newellaw09_awake.f 20 = some true := by kernel_rfl
theorem awake_ge (k : Nat) (h : 20 ≤ k) : newellaw09_awake.f k = some true := by
  obtain ⟨j, rfl⟩ := Nat.exists_eq_add_of_le h
  clear h
  induction j with
  | zero => exact awake_20
  | succ j ih => exact newellaw09_awake.mono _ _ ih
theorem j1_told (b : Bool) : Tot (fun k => newellaw09_CoordOrder.j1 k b) (fun r => r = b) := tot_succ (tot_some rfl) (fun k => by rw [newellaw09_CoordOrder.j1])
theorem CoordOrder : newellaw09_CoordOrder.Pure := by
  intro a0_0 a0_1 a0_2 a1_0 a1_1 a1_2 a2_0 a2_1 a2_2 h1 h2 h3 h4 h5 h6 h7 h8 h9
  have key : Tot (fun k => newellaw09_CoordOrder.f k a0_0 a0_1 a0_2 a1_0 a1_1 a1_2 a2_0 a2_1 a2_2) (fun r => r = true) := by
    obtain ⟨a0, rfl⟩ : ∃ v, a0_0 = ts v := ⟨_, (ts_data a0_0).symm⟩
    obtain ⟨a1, rfl⟩ : ∃ v, a0_1 = ts v := ⟨_, (ts_data a0_1).symm⟩
    obtain ⟨av, rfl⟩ : ∃ v, a0_2 = ts v := ⟨_, (ts_data a0_2).symm⟩
    obtain ⟨b0, rfl⟩ : ∃ v, a1_0 = ts v := ⟨_, (ts_data a1_0).symm⟩
    obtain ⟨b1, rfl⟩ : ∃ v, a1_1 = ts v := ⟨_, (ts_data a1_1).symm⟩
    obtain ⟨bv, rfl⟩ : ∃ v, a1_2 = ts v := ⟨_, (ts_data a1_2).symm⟩
    obtain ⟨c0, rfl⟩ : ∃ v, a2_0 = ts v := ⟨_, (ts_data a2_0).symm⟩
    obtain ⟨c1, rfl⟩ : ∃ v, a2_1 = ts v := ⟨_, (ts_data a2_1).symm⟩
    obtain ⟨cv, rfl⟩ : ∃ v, a2_2 = ts v := ⟨_, (ts_data a2_2).symm⟩
    have aw : Tot (fun k => newellaw09_awake.f k) (fun r => r = true) := tot_ge 20 (fun k hk => awake_ge k hk)
    have wake : Tot (fun k => newellaw09_CoordOrder.j0 k true (ts a0) (ts a1) (ts av) (ts b0) (ts b1) (ts bv) (ts c0) (ts c1) (ts cv)) (fun r => r = true) := by
      refine tot_succ ?_ (fun k => by rw [newellaw09_CoordOrder.j0])
      exact tot_guard rfl (tot_bind aw (fun r hr => tot_some hr))
    unfold newellaw09_CoordOrder.f
    rw [ts_size, ts_size, ts_size]
    refine tot_if (fun _ => wake) (fun va => tot_if (fun _ => wake) (fun vb => ?_))
    by_cases big : (cv.length : Int) > 100
    · rw [decide_eq_true big]; exact wake
    · rw [decide_eq_false big]
      have ver : Tot (fun k => (coord_Less.f k (ts a0) (ts a1) (ts av) (ts a0) (ts a1) (ts bv)).bind fun t753 => (if t753 = true then (newellaw09_CoordOrder.j1 k true) else ((coord_Less.f k (ts a0) (ts a1) (ts bv) (ts a0) (ts a1) (ts av)).bind fun t754 => (if t754 = true then (newellaw09_CoordOrder.j1 k true) else (newellaw09_CoordOrder.j1 k ((ts av).toList == (ts bv).toList)))))) (fun r => r = true) := by
        have an := ord_coord.anti (a0, a1, av) (a0, a1, bv)
        have ez := cmpC_zero (a0, a1, av) (a0, a1, bv)
        rw [ts_toList, ts_toList]
        refine tot_bind (less_cmp a0 a1 av a0 a1 bv (by omega) (by omega)) (fun p hp => tot_if (fun _ => j1_told true) (fun n1 => ?_))
        refine tot_bind (less_cmp a0 a1 bv a0 a1 av (by omega) (by omega)) (fun q hq => tot_if (fun _ => j1_told true) (fun n2 => ?_))
        subst hp
        subst hq
        have m1 : ¬ cmpC (a0, a1, av) (a0, a1, bv) < 0 := fun h => n1 (decide_eq_true h)
        have m2 : ¬ cmpC (a0, a1, bv) (a0, a1, av) < 0 := fun h => n2 (decide_eq_true h)
        have e := ez (by omega)
        injection e with e1 e2
        injection e2 with e2 e3
        rw [e3]
        exact tot_imp (j1_told _) (fun r hr => by rw [hr]; exact beq_self_eq_true _)
      have rest : ∀ p : Bool, p = decide (cmpC (a0, a1, av) (b0, b1, bv) < 0) → Tot (fun k => (coord_Less.f k (ts a0) (ts a1) (ts av) (ts a0) (ts a1) (ts av)).bind fun t752 => (if t752 = true then (newellaw09_CoordOrder.j1 k false) else (if (ts a0).toList = (ts b0).toList then ((coord_Less.f k (ts a0) (ts a1) (ts av) (ts a0) (ts a1) (ts bv)).bind fun t753 => (if t753 = true then (newellaw09_CoordOrder.j1 k true) else ((coord_Less.f k (ts a0) (ts a1) (ts bv) (ts a0) (ts a1) (ts av)).bind fun t754 => (if t754 = true then (newellaw09_CoordOrder.j1 k true) else (newellaw09_CoordOrder.j1 k ((ts av).toList == (ts bv).toList)))))) else (if (p == (Op.bytesLess (ts a0).toList (ts b0).toList)) = true then ((coord_Less.f k (ts a0) (ts a1) (ts av) (ts a0) (ts a1) (ts bv)).bind fun t755 => (if t755 = true then (newellaw09_CoordOrder.j1 k true) else ((coord_Less.f k (ts a0) (ts a1) (ts bv) (ts a0) (ts a1) (ts av)).bind fun t756 => (if t756 = true then (newellaw09_CoordOrder.j1 k true) else (newellaw09_CoordOrder.j1 k ((ts av).toList == (ts bv).toList)))))) else (newellaw09_CoordOrder.j1 k false))))) (fun r => r = true) := by
        intro p hp
        have se := ord_coord.self (a0, a1, av)
        refine tot_bind (less_cmp a0 a1 av a0 a1 av (by omega) (by omega)) (fun q hq => ?_)
        rw [se, decide_eq_false (by omega)] at hq
        subst hq
        refine tot_if (fun h => by cases h) (fun _ => tot_if (fun _ => ver) (fun ne => tot_guard ?_ ver))
        rw [ts_toList, ts_toList] at ne ⊢
        have nz : ¬ cmpB a0 b0 = 0 := fun h => ne (cmpB_zero a0 b0 h)
        have ce : cmpC (a0, a1, av) (b0, b1, bv) = cmpB a0 b0 := if_neg nz
        rw [hp, ce]
        unfold cmpB at nz ⊢
        by_cases l : Op.bytesLess a0 b0 = true
        · rw [if_pos l, l]; rfl
        · rw [if_neg l] at nz ⊢
          rw [Bool.eq_false_iff.2 l]
          by_cases l2 : Op.bytesLess b0 a0 = true
          · rw [if_pos l2]; rfl
          · rw [if_neg l2] at nz; exact absurd rfl nz
      refine tot_succ ?_ (fun k => by rw [newellaw09_CoordOrder.j0])
      refine tot_if (fun h => by cases h) (fun _ => ?_)
      refine tot_bind (less_cmp a0 a1 av b0 b1 bv (by omega) (by omega)) (fun x hx => ?_)
      refine tot_bind (less_cmp b0 b1 bv c0 c1 cv (by omega) (by omega)) (fun y hy => ?_)
      refine tot_bind (less_cmp a0 a1 av c0 c1 cv (by omega) (by omega)) (fun z hz => tot_bind aw (fun r hr => tot_guard hr ?_))
      refine tot_if (fun gx => tot_if (fun gy => tot_if (fun gz => rest x hx) (fun gz => ?_)) (fun _ => rest x hx)) (fun _ => rest x hx)
      exfalso
      rw [hx] at gx
      rw [hy] at gy
      rw [hz] at gz
      have px := of_decide_eq_true gx
      have py := of_decide_eq_true gy
      have pz : ¬ cmpC (a0, a1, av) (c0, c1, cv) < 0 := fun h => gz (decide_eq_true h)
      have tr := ord_coord.trans (a0, a1, av) (b0, b1, bv) (c0, c1, cv) (by omega) (by omega)
      have e := ord_coord.eql (show cmpC (a0, a1, av) (c0, c1, cv) = 0 by omega) (b0, b1, bv)
      have an := ord_coord.anti (b0, b1, bv) (c0, c1, cv)
      omega
  obtain ⟨k, r, hr, h⟩ := tot_get key
  exact ⟨k, by rw [h k (Nat.le_refl _), hr]⟩
end Go.Proofs.YtgdjfcmmpjcaaaaDoor.Pure
