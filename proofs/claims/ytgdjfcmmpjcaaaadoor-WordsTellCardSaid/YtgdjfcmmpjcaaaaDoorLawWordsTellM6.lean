/- Texts put together: what functions of the program compute, and plain words about them. -/
import Derived.Test.YtgdjfcmmpjcaaaaDoorLawWordsTellM3
import Derived.Test.YtgdjfcmmpjcaaaaDoorLawWordsTellM5
import Derived.Test.YtgdjfcmmpjcaaaaDoorLawWordsTellM2

namespace Go.Proofs.YtgdjfcmmpjcaaaaDoor.Pure
open Go Go.RowKit Go.Proofs.YtgdjfcmmpjcaaaaDoor.Q Go.Proofs.YtgdjfcmmpjcaaaaDoorW.PrintWords Go.Proofs.YtgdjfcmmpjcaaaaDoorW.PrintLast Go.Proofs.YtgdjfcmmpjcaaaaDoorW.Own Go.Proofs.YtgdjfcmmpjcaaaaDoorW.PrintMore Go.Proofs.YtgdjfcmmpjcaaaaDoorW.Px
set_option linter.unusedSimpArgs false
set_option linter.unusedVariables false
def toN (c : UInt8) : Int := (c.toNat : Int)
theorem nums_ts (l : List UInt8) : strOfNums (l.map toN) = ts l := by
  apply ba_ext
  show (l.map toN).map (fun n => UInt8.ofNat n.toNat) = l
  rw [List.map_map]
  conv => rhs; rw [← List.map_id l]
  apply List.map_congr_left
  intro c _
  show UInt8.ofNat (Int.toNat (c.toNat : Int)) = c
  rw [Int.toNat_natCast]; simp
theorem low_num (c : UInt8) : (if 65 ≤ (c.toNat : Int) ∧ (c.toNat : Int) ≤ 90 then (c.toNat : Int) + 32 else (c.toNat : Int)) = toN (lowB c) := by
  unfold lowB toN
  by_cases h : 65 ≤ c.toNat ∧ c.toNat ≤ 90
  · rw [if_pos (by omega), if_pos h, UInt8.toNat_add]
    have : (32 : UInt8).toNat = 32 := rfl
    rw [this]; omega
  · rw [if_neg (by omega), if_neg h]
theorem lower_told (v : List UInt8) (hv : v.length ≤ 1000000) : chars_Lower.f (ts v) = some (ts (v.map lowB)) := by
  unfold chars_Lower.f
  rw [if_pos (by rw [ts_size]; omega), ← nums_ts (v.map lowB)]
  congr 2
  unfold bytesOf
  rw [ts_list, List.map_map, List.map_map]
  apply List.map_congr_left
  intro c _
  exact low_num c
theorem lower_loop (v : List UInt8) (hv : v.length ≤ 1000000) : ∀ (d i k : Nat), i + d = v.length → newelref01_Lower.l0 (k + d + 1) (ts v) ((v.take i).map fun c => toN (lowB c)) (i : Int) = some (ts (v.map lowB)) := by
  intro d
  induction d with
  | zero =>
    intro i k h
    rw [newelref01_Lower.l0, if_neg (by rw [ts_size]; omega), List.take_of_length_le (by omega), ← nums_ts, List.map_map]
    rfl
  | succ d ih =>
    intro i k h
    have hi : i < v.length := by omega
    have q0 : (i : Int) < ((ts v).size : Int) := by rw [ts_size]; omega
    have q1 : (0 : Int) ≤ (i : Int) := by omega
    have q2 : ((v.take i).map fun c => toN (lowB c)).length < 140737488355328 := by rw [List.length_map, List.length_take]; omega
    have hb := bt_nat v i hi
    have hn := next_of i (by omega)
    have step : newelref01_Lower.l0 (k + d + 1) (ts v) (((v.take i).map fun c => toN (lowB c)) ++ [toN (lowB v[i])]) ((i + 1 : Nat) : Int) = some (ts (v.map lowB)) := by
      have := ih (i + 1) k (by omega)
      rw [List.take_succ_eq_append_getElem hi, List.map_append] at this
      exact this
    have ln := low_num v[i]
    have lt := (v[i]).toNat_lt
    rw [show k + (d + 1) + 1 = (k + d + 1) + 1 from by omega, newelref01_Lower.l0, if_pos q0, if_pos q1, hb, hn]
    by_cases a : ((v[i].toNat : Nat) : Int) ≥ 65
    · rw [if_pos a]
      by_cases b : ((v[i].toNat : Nat) : Int) ≤ 90
      · rw [if_pos b, if_pos q2]
        rw [if_pos ⟨a, b⟩] at ln
        rw [show (((v[i].toNat : Nat) : Int) + 32) % 256 = ((v[i].toNat : Nat) : Int) + 32 from by omega, ln]
        exact step
      · rw [if_neg b, if_pos q2]
        rw [if_neg (fun h => b h.2)] at ln
        rw [ln]; exact step
    · rw [if_neg a, if_pos q2]
      rw [if_neg (fun h => a h.1)] at ln
      rw [ln]; exact step
theorem ref_lower_told (v : List UInt8) (hv : v.length ≤ 1000000) (k : Nat) (hk : v.length + 1 ≤ k) : newelref01_Lower.f k (ts v) = some (ts (v.map lowB)) := by
  have := lower_loop v hv v.length 0 (k - v.length - 1) (by omega)
  rw [show k - v.length - 1 + v.length + 1 = k from by omega] at this
  exact this
theorem rev_loop : ∀ (n : Nat) (m a b : List S38) (k : Nat), m.length ≤ n → a.length + m.length + b.length ≤ 4000000 →
    api_Word_73.l0 (k + n + 1) (a ++ (m ++ b)) (a.length : Int) (((a.length + m.length : Nat) : Int) - 1) = some (a ++ (m.reverse ++ b)) := by
  intro n
  induction n with
  | zero =>
    intro m a b k h _
    obtain rfl : m = [] := List.eq_nil_of_length_eq_zero (by omega)
    rw [api_Word_73.l0, if_neg (by simp; omega)]
    rfl
  | succ n ih =>
    intro m a b k h hb
    match m, h, hb with
    | [], h, hb => rw [api_Word_73.l0, if_neg (by simp; omega)]; rfl
    | [x], h, hb => rw [api_Word_73.l0, if_neg (by simp)]; rfl
    | x :: y :: m', h, hb =>
      obtain ⟨c, z, hc⟩ : ∃ c z, y :: m' = c ++ [z] := ⟨(y :: m').dropLast, (y :: m').getLast (by simp), (List.dropLast_concat_getLast (by simp)).symm⟩
      rw [hc] at h hb ⊢
      simp only [List.length_cons, List.length_append, List.length_nil] at h hb
      have hj : (((a.length + (x :: (c ++ [z])).length : Nat) : Int) - 1) = ((a.length + 1 + c.length : Nat) : Int) := by simp; omega
      have hL : (a ++ (x :: (c ++ [z]) ++ b)).length = a.length + 1 + c.length + 1 + b.length := by simp; omega
      have gz : rd_T38 (a ++ (x :: (c ++ [z]) ++ b)) ((a.length + 1 + c.length : Nat) : Int) = z := by
        unfold rd_T38
        rw [Int.toNat_natCast, List.getD_eq_getElem?_getD, List.getElem?_append_right (by omega)]
        rw [show a.length + 1 + c.length - a.length = c.length + 1 from by omega]
        simp
      have gx : rd_T38 (a ++ (x :: (c ++ [z]) ++ b)) ((a.length : Nat) : Int) = x := by
        unfold rd_T38
        rw [Int.toNat_natCast, List.getD_eq_getElem?_getD, List.getElem?_append_right (by omega)]
        simp
      have s1 : (a ++ (x :: (c ++ [z]) ++ b)).set ((a.length : Nat) : Int).toNat z = a ++ (z :: (c ++ [z]) ++ b) := by
        rw [Int.toNat_natCast, List.set_append_right _ _ (by omega)]
        simp
      have s2 : (a ++ (z :: (c ++ [z]) ++ b)).set ((a.length + 1 + c.length : Nat) : Int).toNat x = (a ++ [z]) ++ (c ++ ([x] ++ b)) := by
        rw [Int.toNat_natCast, List.set_append_right _ _ (by omega), show a.length + 1 + c.length - a.length = c.length + 1 from by omega]
        simp
      have w1 : wrap64 (((a.length : Nat) : Int) + 1) = (((a ++ [z]).length : Nat) : Int) := by
        rw [List.length_append]; unfold wrap64; simp; omega
      have w2 : wrap64 (((a.length + 1 + c.length : Nat) : Int) - 1) = (((a ++ [z]).length + c.length : Nat) : Int) - 1 := by
        rw [List.length_append]; unfold wrap64; simp; omega
      have := ih c (a ++ [z]) ([x] ++ b) k (by omega) (by simp; omega)
      rw [show k + (n + 1) + 1 = (k + n + 1) + 1 from by omega, api_Word_73.l0, hj, if_pos (by omega), if_pos (by omega), if_pos (by rw [hL]; omega), if_pos (by omega), if_pos (by rw [hL]; omega), gz, gx]
      show api_Word_73.l0 (k + n + 1) ((((a ++ (x :: (c ++ [z]) ++ b)).set ((a.length : Nat) : Int).toNat z)).set ((a.length + 1 + c.length : Nat) : Int).toNat x) _ _ = _
      rw [s1, s2, w1, w2, this]
      simp
theorem rev_told (l : List S38) (hl : l.length ≤ 4000000) (k : Nat) (hk : l.length + 1 ≤ k) : api_Word_73.f k l = some l.reverse := by
  have := rev_loop l.length l [] [] (k - l.length - 1) (Nat.le_refl _) (by simp; omega)
  rw [show k - l.length - 1 + l.length + 1 = k from by omega, List.append_nil, List.append_nil] at this
  unfold api_Word_73.f
  rw [show wrap64 ((l.length : Int) - 1) = (((([] : List S38).length + l.length : Nat) : Int) - 1) from by unfold wrap64; simp; omega]
  exact this
theorem push_skip (w : Wl) (out : List Wl) (h : w.1 = 6) (g : aheadL out = false) : pushL w out = out := if_pos ⟨h, g⟩
theorem push_add (w : Wl) (out : List Wl) (h : ¬ (w.1 = 6 ∧ aheadL out = false)) : pushL w out = w :: out := if_neg h
theorem ahead_cons (w : Wl) (l : List Wl) : aheadL (w :: l) = false ↔ ¬ w.1 = 6 ∧ ¬ w.1 = 10 := by
  unfold aheadL; simp
theorem split_loop : ∀ (n : Nat) (l : List Pt) (out : List Wl) (k : Nat), l.length = n → out.length + l.length ≤ 1000000 → out.length + l.length + 10 ≤ k →
    words_Split.l0 (k + n + 1) ((out.map w38).reverse) (l.map p93) = some (((l.map wordL).foldr pushL out).map w38) := by
  intro n
  induction n with
  | zero =>
    intro l out k h _ hk
    obtain rfl : l = [] := List.eq_nil_of_length_eq_zero h
    rw [words_Split.l0, if_pos (by simp), rev_told _ (by simp; omega) _ (by simp; omega), Option.bind_some, List.reverse_reverse]
    rfl
  | succ n ih =>
    intro l out k h hs hk
    obtain ⟨l', p, rfl⟩ : ∃ l' p, l = l' ++ [p] := ⟨l.dropLast, l.getLast (by intro z; rw [z] at h; simp at h), (List.dropLast_concat_getLast _).symm⟩
    have hl' : l'.length = n := by simpa using h
    rw [List.length_append, List.length_singleton] at hs hk
    have hm : ((l' ++ [p]).map p93).length = n + 1 := by rw [List.length_map, List.length_append, hl']; rfl
    have hx : wrap64 ((((l' ++ [p]).map p93).length : Int) - 1) = ((n : Nat) : Int) := by rw [hm]; exact last_of n (by omega)
    have hr : rd_T93 ((l' ++ [p]).map p93) ((n : Nat) : Int) = p93 p := by
      unfold rd_T93
      rw [Int.toNat_natCast, List.map_append, List.getD_eq_getElem?_getD, List.getElem?_append_right (by simp; omega)]
      simp [hl']
    have ht : ((l' ++ [p]).map p93).take ((n : Nat) : Int).toNat = l'.map p93 := by
      rw [Int.toNat_natCast, List.map_append, List.take_append_of_le_length (by simp; omega), List.take_of_length_le (by simp; omega)]
    have fold : (((l' ++ [p]).map wordL).foldr pushL out) = (l'.map wordL).foldr pushL (pushL (wordL p) out) := by simp
    have hlen : ((out.map w38).reverse).length = out.length := by simp
    have add : ¬ ((wordL p).1 = 6 ∧ aheadL out = false) → (if ((out.map w38).reverse).length < 5864062014805 then words_Split.l0 (k + n + 1) ((out.map w38).reverse ++ [(⟨(pr (wordL p)).1, (pr (wordL p)).2⟩ : S38)]) (l'.map p93) else none) = some ((((l' ++ [p]).map wordL).foldr pushL out).map w38) := by
      intro hp
      have e : (out.map w38).reverse ++ [(⟨(pr (wordL p)).1, (pr (wordL p)).2⟩ : S38)] = (((wordL p :: out)).map w38).reverse := by
        rw [List.map_cons, List.reverse_cons]; rfl
      rw [if_pos (by rw [hlen]; omega), e, ih l' (wordL p :: out) k hl' (by simp; omega) (by simp; omega), fold, push_add _ _ hp]
    have skip : (wordL p).1 = 6 → aheadL out = false → words_Split.l0 (k + n + 1) ((out.map w38).reverse) (l'.map p93) = some ((((l' ++ [p]).map wordL).foldr pushL out).map w38) := by
      intro h1 h2
      rw [ih l' out k hl' (by omega) (by omega), fold, push_skip _ _ h1 h2]
    rw [show k + (n + 1) + 1 = (k + n + 1) + 1 from by omega, words_Split.l0, if_neg (by rw [hm]; omega), hx, if_pos (by omega), if_pos (by rw [hm]; omega), hr, word_told p _ (by omega), Option.bind_some, if_pos (by rw [hm]; omega), ht, Option.bind_some]
    by_cases h6 : (pr (wordL p)).1 = 6
    · rw [if_pos h6]
      cases out with
      | nil =>
        rw [if_neg (by simp)]
        exact skip h6 rfl
      | cons o os =>
        have ho : (((o :: os).map w38).reverse).length = os.length + 1 := by simp
        have hy : wrap64 (((((o :: os).map w38).reverse).length : Int) - 1) = ((os.length : Nat) : Int) := by rw [ho]; exact last_of _ (by simp at hs; omega)
        have hz : rd_T38 (((o :: os).map w38).reverse) ((os.length : Nat) : Int) = w38 o := by
          unfold rd_T38
          rw [Int.toNat_natCast, List.map_cons, List.reverse_cons, List.getD_eq_getElem?_getD, List.getElem?_append_right (by simp)]
          simp
        rw [if_pos (by rw [ho]; omega), hy, if_pos (by omega), if_pos (by rw [ho]; omega), hz]
        by_cases a6 : (w38 o).f0 = 6
        · rw [if_pos a6]
          exact add (fun h => ((ahead_cons o os).1 h.2).1 a6)
        · rw [if_neg a6]
          by_cases a10 : (w38 o).f0 = 10
          · rw [if_pos a10]
            exact add (fun h => ((ahead_cons o os).1 h.2).2 a10)
          · rw [if_neg a10]
            exact skip h6 ((ahead_cons o os).2 ⟨a6, a10⟩)
    · rw [if_neg h6]
      exact add (fun h => h6 h.1)
theorem ref_split_loop (l : List Pt) (M : Nat) (hM : ∀ p ∈ l, p.tx.length ≤ M) (hl : l.length ≤ 1000000) : ∀ (n : Nat) (out : List Wl) (k : Nat), n ≤ l.length → out.length + n ≤ 1000000 → M + 10 ≤ k →
    newelref05_Split.l0 (k + n + 1) (l.map p98) (out.map w38) ((n : Int) - 1) = some ((((l.take n).map wordL).foldr pushL out).map w38) := by
  intro n
  induction n with
  | zero =>
    intro out k _ _ _
    rw [newelref05_Split.l0, if_neg (by omega)]
    rfl
  | succ n ih =>
    intro out k h hs hk
    have hn : n < l.length := by omega
    have hx : (((n + 1 : Nat) : Int) - 1) = (n : Int) := by omega
    have hy : wrap64 ((n : Int) - 1) = (n : Int) - 1 := by unfold wrap64; omega
    have hm : (l.map p98).length = l.length := by simp
    have hr : rd_T98 (l.map p98) (n : Int) = p98 l[n] := by
      unfold rd_T98
      rw [Int.toNat_natCast, List.getD_eq_getElem?_getD, List.getElem?_map, List.getElem?_eq_getElem hn]
      rfl
    have fold : (((l.take (n + 1)).map wordL).foldr pushL out) = ((l.take n).map wordL).foldr pushL (pushL (wordL l[n]) out) := by
      rw [List.take_succ_eq_append_getElem hn, List.map_append, List.foldr_append]; rfl
    have hlen : (out.map w38).length = out.length := by simp
    have add : ¬ ((wordL l[n]).1 = 6 ∧ aheadL out = false) → ((some (([(⟨(pr (wordL l[n])).1, (pr (wordL l[n])).2⟩ : S38)] : List (S38)) : List (S38))).bind fun y => (if y.length + (out.map w38).length < 5864062014805 then (newelref05_Split.l0 (k + n + 1) (l.map p98) (y ++ out.map w38) ((n : Int) - 1)) else (none))) = some ((((l.take (n + 1)).map wordL).foldr pushL out).map w38) := by
      intro hp
      rw [Option.bind_some, if_pos (by rw [hlen]; simp; omega)]
      have := ih (wordL l[n] :: out) k (by omega) (by simp; omega) hk
      rw [fold, push_add _ _ hp, ← this]
      rfl
    have skip : (wordL l[n]).1 = 6 → aheadL out = false → newelref05_Split.l0 (k + n + 1) (l.map p98) (out.map w38) ((n : Int) - 1) = some ((((l.take (n + 1)).map wordL).foldr pushL out).map w38) := by
      intro h1 h2
      rw [ih out k (by omega) (by omega) hk, fold, push_skip _ _ h1 h2]
    rw [show k + (n + 1) + 1 = (k + n + 1) + 1 from by omega, newelref05_Split.l0, hx, if_pos (by omega), if_pos (by omega), if_pos (by rw [hm]; omega), hr, ref_word_told l[n] _ (by have := hM l[n] (List.getElem_mem hn); omega), Option.bind_some, hy]
    cases out with
    | nil =>
      rw [if_neg (by simp)]
      by_cases h6 : (pr (wordL l[n])).1 = 6
      · rw [if_pos h6]; exact skip h6 rfl
      · rw [if_neg h6]; exact add (fun h => h6 h.1)
    | cons o os =>
      have ho : ((o :: os).map w38).length = os.length + 1 := by simp
      have hz : rd_T38 ((o :: os).map w38) 0 = w38 o := rfl
      rw [if_pos (by rw [ho]; omega), if_pos (by rw [ho]; omega), hz]
      by_cases a6 : (w38 o).f0 = 6
      · rw [if_pos a6]
        have := add (fun h => ((ahead_cons o os).1 h.2).1 a6)
        by_cases h6 : (pr (wordL l[n])).1 = 6
        · rw [if_pos h6]; exact this
        · rw [if_neg h6]; exact this
      · rw [if_neg a6]
        by_cases h6 : (pr (wordL l[n])).1 = 6
        · rw [if_pos h6]
          by_cases a10 : (w38 o).f0 = 10
          · rw [if_pos a10]; exact add (fun h => ((ahead_cons o os).1 h.2).2 a10)
          · rw [if_neg a10]; exact skip h6 ((ahead_cons o os).2 ⟨a6, a10⟩)
        · rw [if_neg h6]; exact add (fun h => h6 h.1)
theorem stepP_B (r : List Pt × Pt) (c : UInt8) (B : Nat) (h : ∀ p ∈ allP r, p.tx.length ≤ B) : (∀ p ∈ allP (stepP r c), p.tx.length ≤ B + 1) ∧ (allP (stepP r c)).length ≤ (allP r).length + 1 := by
  have h1 : ∀ p ∈ r.1, p.tx.length ≤ B := fun p hp => h p (List.mem_append_left _ hp)
  have h2 : r.2.tx.length ≤ B := h _ (List.mem_append_right _ (List.mem_singleton.2 rfl))
  unfold stepP allP
  split
  · refine ⟨?_, by simp⟩
    intro p hp
    simp only [List.mem_append, List.mem_singleton] at hp
    rcases hp with (hp | rfl) | rfl
    · have := h1 p hp; omega
    · omega
    · simp
  · split
    · refine ⟨?_, by simp⟩
      intro p hp
      simp only [List.mem_append, List.mem_singleton] at hp
      rcases hp with hp | rfl
      · have := h1 p hp; omega
      · simp; omega
    · refine ⟨?_, by simp⟩
      intro p hp
      simp only [List.mem_append, List.mem_singleton] at hp
      rcases hp with (hp | rfl) | rfl
      · have := h1 p hp; omega
      · simp; omega
      · simp
theorem runP_B : ∀ (l : List UInt8) (r : List Pt × Pt) (B : Nat), (∀ p ∈ allP r, p.tx.length ≤ B) → (∀ p ∈ allP (runP r l), p.tx.length ≤ B + l.length) ∧ (allP (runP r l)).length ≤ (allP r).length + l.length
  | [], _, _, h => ⟨fun p hp => h p hp, Nat.le_refl _⟩
  | c :: l, r, B, h => by
    have s := stepP_B r c B h
    have i := runP_B l (stepP r c) (B + 1) s.1
    refine ⟨fun p hp => ?_, ?_⟩
    · have := i.1 p hp
      rw [List.length_cons]; omega
    · have a := i.2
      have b := s.2
      rw [List.length_cons]
      show (allP (runP (stepP r c) l)).length ≤ _
      omega
theorem partsL_B (l : List UInt8) : (∀ p ∈ partsL l, p.tx.length ≤ l.length) ∧ (partsL l).length ≤ l.length + 1 := by
  have := runP_B l p0 0 (fun p hp => by obtain rfl := List.mem_singleton.1 hp; exact Nat.le_refl _)
  refine ⟨fun p hp => ?_, ?_⟩
  · have := this.1 p hp; omega
  · have := this.2
    have e : (allP p0).length = 1 := rfl
    unfold partsL; omega
theorem split_told (v : List UInt8) (hv : v.length ≤ 100000) (k : Nat) (hk : 3 * v.length + 40 ≤ k) : words_Split.f k (ts v) = some ((splitL v).map w38) := by
  have hB := partsL_B (v.map lowB)
  rw [List.length_map] at hB
  unfold words_Split.f
  rw [lower_told v (by omega), Option.bind_some, parts_told _ (by rw [List.length_map]; omega) k (by rw [List.length_map]; omega), Option.bind_some]
  have := split_loop (partsL (v.map lowB)).length (partsL (v.map lowB)) [] (k - (partsL (v.map lowB)).length - 1) rfl (by simp; omega) (by simp; omega)
  rw [show k - (partsL (v.map lowB)).length - 1 + (partsL (v.map lowB)).length + 1 = k from by omega] at this
  exact this
theorem ref_split_told (v : List UInt8) (hv : v.length ≤ 100000) (k : Nat) (hk : 3 * v.length + 40 ≤ k) : newelref05_Split.f k (ts v) = some ((splitL v).map w38) := by
  have hB := partsL_B (v.map lowB)
  rw [List.length_map] at hB
  unfold newelref05_Split.f
  rw [ref_lower_told v (by omega) k (by omega), Option.bind_some, ref_parts_told _ (by rw [List.length_map]; omega) k (by rw [List.length_map]; omega), Option.bind_some]
  have := ref_split_loop (partsL (v.map lowB)) v.length hB.1 (by omega) (partsL (v.map lowB)).length [] (k - (partsL (v.map lowB)).length - 1) (Nat.le_refl _) (by simp; omega) (by omega)
  rw [show k - (partsL (v.map lowB)).length - 1 + (partsL (v.map lowB)).length + 1 = k from by omega, List.take_length] at this
  rw [List.length_map, show wrap64 (((partsL (v.map lowB)).length : Int) - 1) = ((partsL (v.map lowB)).length : Int) - 1 from by unfold wrap64; omega]
  exact this
theorem one_told (a b : Wl) : api_Word_1.f (w38 a).f0 (w38 a).f1 (w38 b).f0 (w38 b).f1 = some (decide (a = b)) := by
  unfold api_Word_1.f
  show some (a.1 == b.1 && ((ts a.2).toList == (ts b.2).toList)) = _
  rw [ts_toList, ts_toList]
  congr 1
  rw [Bool.eq_iff_iff]
  simp only [Bool.and_eq_true, beq_iff_eq, decide_eq_true_eq, Prod.ext_iff]
theorem same_loop (x y : List Wl) (hl : x.length = y.length) (hx : x.length ≤ 4000000) : ∀ (d i k : Nat), i + d = x.length → api_Word_69.l0 (k + d + 1) (x.map w38) (y.map w38) (i : Int) = some (decide (x.drop i = y.drop i)) := by
  intro d
  induction d with
  | zero =>
    intro i k h
    rw [api_Word_69.l0, if_neg (by rw [List.length_map]; omega), List.drop_eq_nil_of_le (by omega), List.drop_eq_nil_of_le (by omega)]
    rfl
  | succ d ih =>
    intro i k h
    have ix : i < x.length := by omega
    have iy : i < y.length := by omega
    have rx : rd_T38 (x.map w38) (i : Int) = w38 x[i] := by
      unfold rd_T38
      rw [Int.toNat_natCast, List.getD_eq_getElem?_getD, List.getElem?_map, List.getElem?_eq_getElem ix]; rfl
    have ry : rd_T38 (y.map w38) (i : Int) = w38 y[i] := by
      unfold rd_T38
      rw [Int.toNat_natCast, List.getD_eq_getElem?_getD, List.getElem?_map, List.getElem?_eq_getElem iy]; rfl
    rw [show k + (d + 1) + 1 = (k + d + 1) + 1 from by omega, api_Word_69.l0, if_pos (by rw [List.length_map]; omega), if_pos (by omega), if_pos (by rw [List.length_map]; omega), rx, ry, one_told, Option.bind_some, next_of i (by omega), List.drop_eq_getElem_cons ix, List.drop_eq_getElem_cons iy]
    by_cases e : x[i] = y[i]
    · rw [if_pos (decide_eq_true e), ih (i + 1) k (by omega)]
      congr 1
      rw [Bool.eq_iff_iff]
      simp only [decide_eq_true_eq, List.cons.injEq, e, true_and]
    · rw [if_neg (by simpa using e)]
      congr 1
      symm
      rw [decide_eq_false_iff_not]
      intro h
      exact e (List.cons.inj h).1
theorem plain_told (x y : List Wl) (hx : x.length ≤ 4000000) (k : Nat) (hk : x.length + 1 ≤ k) : api_Word_30.f k (x.map w38) (y.map w38) = some (decide (x = y)) := by
  unfold api_Word_30.f api_Word_69.f
  rw [List.length_map, List.length_map]
  by_cases h : x.length = y.length
  · have := same_loop x y h hx x.length 0 (k - x.length - 1) (by omega)
    rw [show k - x.length - 1 + x.length + 1 = k from by omega, List.drop_zero, List.drop_zero] at this
    rw [if_pos (by omega)]
    rw [show (0 : Int) = ((0 : Nat) : Int) from rfl, this, Option.bind_some]
  · rw [if_neg (by omega), Option.bind_some, decide_eq_false]
    rintro rfl
    exact h rfl
theorem pushL_len (w : Wl) (out : List Wl) : (pushL w out).length ≤ out.length + 1 := by
  unfold pushL; split <;> simp
theorem splitL_len (v : List UInt8) : (splitL v).length ≤ v.length + 1 := by
  have g : ∀ l : List Wl, (l.foldr pushL []).length ≤ l.length := by
    intro l
    induction l with
    | nil => simp
    | cons w l ih => rw [List.foldr_cons]; have := pushL_len w (l.foldr pushL []); rw [List.length_cons]; omega
  have := g ((partsL (v.map lowB)).map wordL)
  have hB := (partsL_B (v.map lowB)).2
  rw [List.length_map] at this hB
  unfold splitL outL
  omega
end Go.Proofs.YtgdjfcmmpjcaaaaDoor.Pure

/- The plain law of WordsTell, about the functions that the walks compute. -/
namespace Go.Proofs.YtgdjfcmmpjcaaaaDoor.Pure
open Go Go.RowKit Go.Proofs.YtgdjfcmmpjcaaaaDoor.Q Go.Proofs.YtgdjfcmmpjcaaaaDoorW.PrintWords Go.Proofs.YtgdjfcmmpjcaaaaDoorW.PrintLast Go.Proofs.YtgdjfcmmpjcaaaaDoorW.Own Go.Proofs.YtgdjfcmmpjcaaaaDoorW.PrintMore Go.Proofs.YtgdjfcmmpjcaaaaDoorW.Px
set_option linter.unusedSimpArgs false
set_option linter.unusedVariables false
theorem ref_right_loop (v : List UInt8) (hv : v.length ≤ 1000000) : ∀ (d i k : Nat), i + d = v.length → newelref05_Right.l0 (k + d + 1) (ts v) (i : Int) = some (decide (1 ≤ v.length) && decide (v.length ≤ 100) && (v.drop i).all sign8) := by
  intro d
  induction d with
  | zero =>
    intro i k h
    rw [newelref05_Right.l0, if_neg (by rw [ts_size]; omega), List.drop_eq_nil_of_le (by omega), ts_size, List.all_nil, Bool.and_true]
    by_cases a : 1 ≤ v.length
    · rw [if_pos (by omega), decide_eq_true a, Bool.true_and]
      by_cases b : v.length ≤ 100
      · rw [decide_eq_true b, decide_eq_true (by omega)]
      · rw [decide_eq_false b, decide_eq_false (by omega)]
    · rw [if_neg (by omega), decide_eq_false a, Bool.false_and]
  | succ d ih =>
    intro i k h
    have hi : i < v.length := by omega
    rw [show k + (d + 1) + 1 = (k + d + 1) + 1 from by omega, newelref05_Right.l0, if_pos (by rw [ts_size]; omega), if_pos (by omega), bt_nat v i hi, next_of i (by omega), List.drop_eq_getElem_cons hi, List.all_cons]
    have un : sign8 v[i] = (decide (33 ≤ ((v[i].toNat : Nat) : Int)) && decide (((v[i].toNat : Nat) : Int) ≤ 126) && ((v[i].toNat : Nat) : Int) != 91 && ((v[i].toNat : Nat) : Int) != 93 && ((v[i].toNat : Nat) : Int) != 40 && ((v[i].toNat : Nat) : Int) != 41 && ((v[i].toNat : Nat) : Int) != 44) := rfl
    generalize ((v[i].toNat : Nat) : Int) = n at *
    have bad : sign8 v[i] = false → (some false : Option Bool) = some (decide (1 ≤ v.length) && decide (v.length ≤ 100) && (sign8 v[i] && (v.drop (i + 1)).all sign8)) := by
      intro e; rw [e, Bool.false_and, Bool.and_false]
    by_cases c0 : n < 33
    · rw [if_pos c0]; exact bad (by rw [un, decide_eq_false (by omega)]; rfl)
    rw [if_neg c0]
    by_cases c1 : n > 126
    · rw [if_pos c1]; exact bad (by rw [un, decide_eq_false (show ¬ n ≤ 126 by omega), Bool.and_false]; rfl)
    rw [if_neg c1]
    by_cases c2 : n = 91
    · rw [if_pos c2]; exact bad (by rw [un, c2]; rfl)
    rw [if_neg c2]
    by_cases c3 : n = 93
    · rw [if_pos c3]; exact bad (by rw [un, c3]; rfl)
    rw [if_neg c3]
    by_cases c4 : n = 40
    · rw [if_pos c4]; exact bad (by rw [un, c4]; rfl)
    rw [if_neg c4]
    by_cases c5 : n = 41
    · rw [if_pos c5]; exact bad (by rw [un, c5]; rfl)
    rw [if_neg c5]
    by_cases c6 : n = 44
    · rw [if_pos c6]; exact bad (by rw [un, c6]; rfl)
    rw [if_neg c6, ih (i + 1) k (by omega)]
    have good : sign8 v[i] = true := by
      rw [un, decide_eq_true (by omega), decide_eq_true (by omega), bne_iff_ne.2 c2, bne_iff_ne.2 c3, bne_iff_ne.2 c4, bne_iff_ne.2 c5, bne_iff_ne.2 c6]; rfl
    rw [good, Bool.true_and]
theorem ref_right_told (v : List UInt8) (hv : v.length ≤ 1000000) (k : Nat) (hk : v.length + 1 ≤ k) : newelref05_Right.f k (ts v) = some (rightB v) := by
  have := ref_right_loop v hv v.length 0 (k - v.length - 1) (by omega)
  rw [show k - v.length - 1 + v.length + 1 = k from by omega] at this
  exact this
theorem WordsTell : newellaw05_WordsTell.Pure := by
  intro a0 hs
  by_cases h : (a0.size : Int) > 300
  · refine ⟨40, ?_⟩
    unfold newellaw05_WordsTell.f
    rw [if_pos h, awake5_ge 40 (Nat.le_refl _)]; rfl
  · have hz := ba_size a0
    have hl : a0.data.toList.length ≤ 300 := by omega
    have hp := splitL_len a0.data.toList
    refine ⟨2000, ?_⟩
    unfold newellaw05_WordsTell.f
    have e : ts a0.data.toList = a0 := ts_data a0
    have s1 := split_told a0.data.toList (by omega) 2000 (by omega)
    have s2 := ref_split_told a0.data.toList (by omega) 2000 (by omega)
    have r2 := ref_right_told a0.data.toList (by omega) 2000 (by omega)
    rw [e] at s1 s2 r2
    rw [if_neg h, awake5_ge 2000 (by omega), Option.bind_some, if_pos rfl, right_told a0 2000 (by omega), Option.bind_some, r2, Option.bind_some, if_pos (by rw [beq_self_eq_true]), s1, Option.bind_some, s2, Option.bind_some, plain_told _ _ (by omega) 2000 (by omega), Option.bind_some, decide_eq_true rfl]
end Go.Proofs.YtgdjfcmmpjcaaaaDoor.Pure
