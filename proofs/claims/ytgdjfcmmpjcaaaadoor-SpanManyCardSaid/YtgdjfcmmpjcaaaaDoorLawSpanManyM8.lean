/- Texts put together: what functions of the program compute, and plain words about them. -/
import Derived.Test.YtgdjfcmmpjcaaaaDoorLawSpanManyM4
import Derived.Test.YtgdjfcmmpjcaaaaDoorLawSpanManyM7
import Derived.Test.YtgdjfcmmpjcaaaaDoorLawSpanManyM2
import Derived.Test.YtgdjfcmmpjcaaaaDoorLawSpanManyM5
import Derived.Test.YtgdjfcmmpjcaaaaDoorLawSpanManyM6

namespace Go.Proofs.YtgdjfcmmpjcaaaaDoor.Pure
open Go Go.RowKit Go.Proofs.YtgdjfcmmpjcaaaaDoor.Q Go.Proofs.YtgdjfcmmpjcaaaaDoorW.PrintWords Go.Proofs.YtgdjfcmmpjcaaaaDoorW.PrintLast Go.Proofs.YtgdjfcmmpjcaaaaDoorW.Own Go.Proofs.YtgdjfcmmpjcaaaaDoorW.PrintMore Go.Proofs.YtgdjfcmmpjcaaaaDoorW.Px
set_option linter.unusedSimpArgs false
set_option linter.unusedVariables false
def toN (c : UInt8) : Int := (c.toNat : Int)
theorem nums_ts (l : List UInt8) : strOfNums (l.map toN) = ts l := by
  apply ba_ext
  show (l.map toN).map (fun n => UInt8.ofNat n.toNat) = l
  rw [List.map_map]
  conv => rhs; rw [← List.map_id l]
  apply List.map_congr_left
  intro c _
  show UInt8.ofNat (Int.toNat (c.toNat : Int)) = c
  rw [Int.toNat_natCast]; simp
theorem low_num (c : UInt8) : (if 65 ≤ (c.toNat : Int) ∧ (c.toNat : Int) ≤ 90 then (c.toNat : Int) + 32 else (c.toNat : Int)) = toN (lowB c) := by
  unfold lowB toN
  by_cases h : 65 ≤ c.toNat ∧ c.toNat ≤ 90
  · rw [if_pos (by omega), if_pos h, UInt8.toNat_add]
    have : (32 : UInt8).toNat = 32 := rfl
    rw [this]; omega
  · rw [if_neg (by omega), if_neg h]
theorem lower_told (v : List UInt8) (hv : v.length ≤ 1000000) : chars_Lower.f (ts v) = some (ts (v.map lowB)) := by
  unfold chars_Lower.f
  rw [if_pos (by rw [ts_size]; omega), ← nums_ts (v.map lowB)]
  congr 2
  unfold bytesOf
  rw [ts_list, List.map_map, List.map_map]
  apply List.map_congr_left
  intro c _
  exact low_num c
theorem rev_loop : ∀ (n : Nat) (m a b : List S38) (k : Nat), m.length ≤ n → a.length + m.length + b.length ≤ 4000000 →
    api_Word_73.l0 (k + n + 1) (a ++ (m ++ b)) (a.length : Int) (((a.length + m.length : Nat) : Int) - 1) = some (a ++ (m.reverse ++ b)) := by
  intro n
  induction n with
  | zero =>
    intro m a b k h _
    obtain rfl : m = [] := List.eq_nil_of_length_eq_zero (by omega)
    rw [api_Word_73.l0, if_neg (by simp; omega)]
    rfl
  | succ n ih =>
    intro m a b k h hb
    match m, h, hb with
    | [], h, hb => rw [api_Word_73.l0, if_neg (by simp; omega)]; rfl
    | [x], h, hb => rw [api_Word_73.l0, if_neg (by simp)]; rfl
    | x :: y :: m', h, hb =>
      obtain ⟨c, z, hc⟩ : ∃ c z, y :: m' = c ++ [z] := ⟨(y :: m').dropLast, (y :: m').getLast (by simp), (List.dropLast_concat_getLast (by simp)).symm⟩
      rw [hc] at h hb ⊢
      simp only [List.length_cons, List.length_append, List.length_nil] at h hb
      have hj : (((a.length + (x :: (c ++ [z])).length : Nat) : Int) - 1) = ((a.length + 1 + c.length : Nat) : Int) := by simp; omega
      have hL : (a ++ (x :: (c ++ [z]) ++ b)).length = a.length + 1 + c.length + 1 + b.length := by simp; omega
      have gz : rd_T38 (a ++ (x :: (c ++ [z]) ++ b)) ((a.length + 1 + c.length : Nat) : Int) = z := by
        unfold rd_T38
        rw [Int.toNat_natCast, List.getD_eq_getElem?_getD, List.getElem?_append_right (by omega)]
        rw [show a.length + 1 + c.length - a.length = c.length + 1 from by omega]
        simp
      have gx : rd_T38 (a ++ (x :: (c ++ [z]) ++ b)) ((a.length : Nat) : Int) = x := by
        unfold rd_T38
        rw [Int.toNat_natCast, List.getD_eq_getElem?_getD, List.getElem?_append_right (by omega)]
        simp
      have s1 : (a ++ (x :: (c ++ [z]) ++ b)).set ((a.length : Nat) : Int).toNat z = a ++ (z :: (c ++ [z]) ++ b) := by
        rw [Int.toNat_natCast, List.set_append_right _ _ (by omega)]
        simp
      have s2 : (a ++ (z :: (c ++ [z]) ++ b)).set ((a.length + 1 + c.length : Nat) : Int).toNat x = (a ++ [z]) ++ (c ++ ([x] ++ b)) := by
        rw [Int.toNat_natCast, List.set_append_right _ _ (by omega), show a.length + 1 + c.length - a.length = c.length + 1 from by omega]
        simp
      have w1 : wrap64 (((a.length : Nat) : Int) + 1) = (((a ++ [z]).length : Nat) : Int) := by
        rw [List.length_append]; unfold wrap64; simp; omega
      have w2 : wrap64 (((a.length + 1 + c.length : Nat) : Int) - 1) = (((a ++ [z]).length + c.length : Nat) : Int) - 1 := by
        rw [List.length_append]; unfold wrap64; simp; omega
      have := ih c (a ++ [z]) ([x] ++ b) k (by omega) (by simp; omega)
      rw [show k + (n + 1) + 1 = (k + n + 1) + 1 from by omega, api_Word_73.l0, hj, if_pos (by omega), if_pos (by omega), if_pos (by rw [hL]; omega), if_pos (by omega), if_pos (by rw [hL]; omega), gz, gx]
      show api_Word_73.l0 (k + n + 1) ((((a ++ (x :: (c ++ [z]) ++ b)).set ((a.length : Nat) : Int).toNat z)).set ((a.length + 1 + c.length : Nat) : Int).toNat x) _ _ = _
      rw [s1, s2, w1, w2, this]
      simp
theorem rev_told (l : List S38) (hl : l.length ≤ 4000000) (k : Nat) (hk : l.length + 1 ≤ k) : api_Word_73.f k l = some l.reverse := by
  have := rev_loop l.length l [] [] (k - l.length - 1) (Nat.le_refl _) (by simp; omega)
  rw [show k - l.length - 1 + l.length + 1 = k from by omega, List.append_nil, List.append_nil] at this
  unfold api_Word_73.f
  rw [show wrap64 ((l.length : Int) - 1) = (((([] : List S38).length + l.length : Nat) : Int) - 1) from by unfold wrap64; simp; omega]
  exact this
theorem push_skip (w : Wl) (out : List Wl) (h : w.1 = 6) (g : aheadL out = false) : pushL w out = out := if_pos ⟨h, g⟩
theorem push_add (w : Wl) (out : List Wl) (h : ¬ (w.1 = 6 ∧ aheadL out = false)) : pushL w out = w :: out := if_neg h
theorem ahead_cons (w : Wl) (l : List Wl) : aheadL (w :: l) = false ↔ ¬ w.1 = 6 ∧ ¬ w.1 = 10 := by
  unfold aheadL; simp
theorem split_loop : ∀ (n : Nat) (l : List Pt) (out : List Wl) (k : Nat), l.length = n → out.length + l.length ≤ 1000000 → out.length + l.length + 10 ≤ k →
    words_Split.l0 (k + n + 1) ((out.map w38).reverse) (l.map p93) = some (((l.map wordL).foldr pushL out).map w38) := by
  intro n
  induction n with
  | zero =>
    intro l out k h _ hk
    obtain rfl : l = [] := List.eq_nil_of_length_eq_zero h
    rw [words_Split.l0, if_pos (by simp), rev_told _ (by simp; omega) _ (by simp; omega), Option.bind_some, List.reverse_reverse]
    rfl
  | succ n ih =>
    intro l out k h hs hk
    obtain ⟨l', p, rfl⟩ : ∃ l' p, l = l' ++ [p] := ⟨l.dropLast, l.getLast (by intro z; rw [z] at h; simp at h), (List.dropLast_concat_getLast _).symm⟩
    have hl' : l'.length = n := by simpa using h
    rw [List.length_append, List.length_singleton] at hs hk
    have hm : ((l' ++ [p]).map p93).length = n + 1 := by rw [List.length_map, List.length_append, hl']; rfl
    have hx : wrap64 ((((l' ++ [p]).map p93).length : Int) - 1) = ((n : Nat) : Int) := by rw [hm]; exact last_of n (by omega)
    have hr : rd_T93 ((l' ++ [p]).map p93) ((n : Nat) : Int) = p93 p := by
      unfold rd_T93
      rw [Int.toNat_natCast, List.map_append, List.getD_eq_getElem?_getD, List.getElem?_append_right (by simp; omega)]
      simp [hl']
    have ht : ((l' ++ [p]).map p93).take ((n : Nat) : Int).toNat = l'.map p93 := by
      rw [Int.toNat_natCast, List.map_append, List.take_append_of_le_length (by simp; omega), List.take_of_length_le (by simp; omega)]
    have fold : (((l' ++ [p]).map wordL).foldr pushL out) = (l'.map wordL).foldr pushL (pushL (wordL p) out) := by simp
    have hlen : ((out.map w38).reverse).length = out.length := by simp
    have add : ¬ ((wordL p).1 = 6 ∧ aheadL out = false) → (if ((out.map w38).reverse).length < 5864062014805 then words_Split.l0 (k + n + 1) ((out.map w38).reverse ++ [(⟨(pr (wordL p)).1, (pr (wordL p)).2⟩ : S38)]) (l'.map p93) else none) = some ((((l' ++ [p]).map wordL).foldr pushL out).map w38) := by
      intro hp
      have e : (out.map w38).reverse ++ [(⟨(pr (wordL p)).1, (pr (wordL p)).2⟩ : S38)] = (((wordL p :: out)).map w38).reverse := by
        rw [List.map_cons, List.reverse_cons]; rfl
      rw [if_pos (by rw [hlen]; omega), e, ih l' (wordL p :: out) k hl' (by simp; omega) (by simp; omega), fold, push_add _ _ hp]
    have skip : (wordL p).1 = 6 → aheadL out = false → words_Split.l0 (k + n + 1) ((out.map w38).reverse) (l'.map p93) = some ((((l' ++ [p]).map wordL).foldr pushL out).map w38) := by
      intro h1 h2
      rw [ih l' out k hl' (by omega) (by omega), fold, push_skip _ _ h1 h2]
    rw [show k + (n + 1) + 1 = (k + n + 1) + 1 from by omega, words_Split.l0, if_neg (by rw [hm]; omega), hx, if_pos (by omega), if_pos (by rw [hm]; omega), hr, word_told p _ (by omega), Option.bind_some, if_pos (by rw [hm]; omega), ht, Option.bind_some]
    by_cases h6 : (pr (wordL p)).1 = 6
    · rw [if_pos h6]
      cases out with
      | nil =>
        rw [if_neg (by simp)]
        exact skip h6 rfl
      | cons o os =>
        have ho : (((o :: os).map w38).reverse).length = os.length + 1 := by simp
        have hy : wrap64 (((((o :: os).map w38).reverse).length : Int) - 1) = ((os.length : Nat) : Int) := by rw [ho]; exact last_of _ (by simp at hs; omega)
        have hz : rd_T38 (((o :: os).map w38).reverse) ((os.length : Nat) : Int) = w38 o := by
          unfold rd_T38
          rw [Int.toNat_natCast, List.map_cons, List.reverse_cons, List.getD_eq_getElem?_getD, List.getElem?_append_right (by simp)]
          simp
        rw [if_pos (by rw [ho]; omega), hy, if_pos (by omega), if_pos (by rw [ho]; omega), hz]
        by_cases a6 : (w38 o).f0 = 6
        · rw [if_pos a6]
          exact add (fun h => ((ahead_cons o os).1 h.2).1 a6)
        · rw [if_neg a6]
          by_cases a10 : (w38 o).f0 = 10
          · rw [if_pos a10]
            exact add (fun h => ((ahead_cons o os).1 h.2).2 a10)
          · rw [if_neg a10]
            exact skip h6 ((ahead_cons o os).2 ⟨a6, a10⟩)
    · rw [if_neg h6]
      exact add (fun h => h6 h.1)
theorem stepP_B (r : List Pt × Pt) (c : UInt8) (B : Nat) (h : ∀ p ∈ allP r, p.tx.length ≤ B) : (∀ p ∈ allP (stepP r c), p.tx.length ≤ B + 1) ∧ (allP (stepP r c)).length ≤ (allP r).length + 1 := by
  have h1 : ∀ p ∈ r.1, p.tx.length ≤ B := fun p hp => h p (List.mem_append_left _ hp)
  have h2 : r.2.tx.length ≤ B := h _ (List.mem_append_right _ (List.mem_singleton.2 rfl))
  unfold stepP allP
  split
  · refine ⟨?_, by simp⟩
    intro p hp
    simp only [List.mem_append, List.mem_singleton] at hp
    rcases hp with (hp | rfl) | rfl
    · have := h1 p hp; omega
    · omega
    · simp
  · split
    · refine ⟨?_, by simp⟩
      intro p hp
      simp only [List.mem_append, List.mem_singleton] at hp
      rcases hp with hp | rfl
      · have := h1 p hp; omega
      · simp; omega
    · refine ⟨?_, by simp⟩
      intro p hp
      simp only [List.mem_append, List.mem_singleton] at hp
      rcases hp with (hp | rfl) | rfl
      · have := h1 p hp; omega
      · simp; omega
      · simp
theorem runP_B : ∀ (l : List UInt8) (r : List Pt × Pt) (B : Nat), (∀ p ∈ allP r, p.tx.length ≤ B) → (∀ p ∈ allP (runP r l), p.tx.length ≤ B + l.length) ∧ (allP (runP r l)).length ≤ (allP r).length + l.length
  | [], _, _, h => ⟨fun p hp => h p hp, Nat.le_refl _⟩
  | c :: l, r, B, h => by
    have s := stepP_B r c B h
    have i := runP_B l (stepP r c) (B + 1) s.1
    refine ⟨fun p hp => ?_, ?_⟩
    · have := i.1 p hp
      rw [List.length_cons]; omega
    · have a := i.2
      have b := s.2
      rw [List.length_cons]
      show (allP (runP (stepP r c) l)).length ≤ _
      omega
theorem partsL_B (l : List UInt8) : (∀ p ∈ partsL l, p.tx.length ≤ l.length) ∧ (partsL l).length ≤ l.length + 1 := by
  have := runP_B l p0 0 (fun p hp => by obtain rfl := List.mem_singleton.1 hp; exact Nat.le_refl _)
  refine ⟨fun p hp => ?_, ?_⟩
  · have := this.1 p hp; omega
  · have := this.2
    have e : (allP p0).length = 1 := rfl
    unfold partsL; omega
theorem split_told (v : List UInt8) (hv : v.length ≤ 100000) (k : Nat) (hk : 3 * v.length + 40 ≤ k) : words_Split.f k (ts v) = some ((splitL v).map w38) := by
  have hB := partsL_B (v.map lowB)
  rw [List.length_map] at hB
  unfold words_Split.f
  rw [lower_told v (by omega), Option.bind_some, parts_told _ (by rw [List.length_map]; omega) k (by rw [List.length_map]; omega), Option.bind_some]
  have := split_loop (partsL (v.map lowB)).length (partsL (v.map lowB)) [] (k - (partsL (v.map lowB)).length - 1) rfl (by simp; omega) (by simp; omega)
  rw [show k - (partsL (v.map lowB)).length - 1 + (partsL (v.map lowB)).length + 1 = k from by omega] at this
  exact this
end Go.Proofs.YtgdjfcmmpjcaaaaDoor.Pure

namespace Go.Proofs.YtgdjfcmmpjcaaaaDoor.Pure
open Go Go.RowKit Go.Proofs.YtgdjfcmmpjcaaaaDoor.Q Go.Proofs.YtgdjfcmmpjcaaaaDoorW.PrintWords Go.Proofs.YtgdjfcmmpjcaaaaDoorW.PrintLast Go.Proofs.YtgdjfcmmpjcaaaaDoorW.Own Go.Proofs.YtgdjfcmmpjcaaaaDoorW.PrintMore Go.Proofs.YtgdjfcmmpjcaaaaDoorW.Px
set_option linter.unusedSimpArgs false
set_option linter.unusedVariables false
theorem umod (a : Int) (m : Nat) (hm : 0 < m ∧ m ≤ 1000000) : ∃ n : Nat, n < m ∧ wrap64 (Int.tmod (IntKind.u64.wrap a) (m : Int)) = (n : Int) := by
  have h0 : 0 ≤ IntKind.u64.wrap a := by rw [IntKind.wrap_u64]; omega
  have h1 := Int.tmod_nonneg (m : Int) h0
  have h2 := Int.tmod_lt_of_pos (IntKind.u64.wrap a) (show (0 : Int) < (m : Int) by omega)
  refine ⟨(Int.tmod (IntKind.u64.wrap a) (m : Int)).toNat, by omega, ?_⟩
  unfold wrap64
  omega
theorem digits_mono (n : Int) (r : ByteArray) (h : newelhelp_Digits.f 4 n = some r) : ∀ k, 4 ≤ k → newelhelp_Digits.f k n = some r := by
  intro k hk
  obtain ⟨j, rfl⟩ := Nat.exists_eq_add_of_le hk
  clear hk
  induction j with
  | zero => exact h
  | succ j ih => exact newelhelp_Digits.mono_l _ _ _ ih
theorem run_digits (d : List Pt) (a b : Bool) : ∀ (l t : List UInt8), (∀ c ∈ t, isD c = true) → (∀ c ∈ l, isD c = true) → runP (d, ⟨t, a, b⟩) l = (d, ⟨t ++ l, a, b⟩)
  | [], t, _, _ => by rw [List.append_nil]; rfl
  | c :: l, t, ht, hl => by
    have hc := hl c (List.mem_cons_self ..)
    have nc : ¬ (c = 46 ∨ c = 45) := by rintro (rfl | rfl) <;> exact absurd hc (by decide)
    have lk : likeP t c = true := by
      by_cases z : t = []
      · rw [z]; rfl
      · rw [like_last _ _ z, ht _ (List.getLast_mem z), hc]; rfl
    have e : stepP (d, ⟨t, a, b⟩) c = (d, ⟨t ++ [c], a, b⟩) := stepP_like _ c nc lk
    show runP (stepP _ c) l = _
    rw [e, run_digits d a b l (t ++ [c]) (fun x hx => by
      rcases List.mem_append.1 hx with hx | hx
      · exact ht x hx
      · obtain rfl := List.mem_singleton.1 hx; exact hc) (fun x hx => hl x (List.mem_cons_of_mem _ hx))]
    simp
theorem low_digits (l : List UInt8) (h : ∀ c ∈ l, isD c = true) : l.map lowB = l := by
  conv => rhs; rw [← List.map_id l]
  apply List.map_congr_left
  intro c hc
  have := h c hc
  unfold isD at this
  simp only [Bool.and_eq_true, decide_eq_true_eq] at this
  show lowB c = c
  unfold lowB
  rw [if_neg (by omega)]
end Go.Proofs.YtgdjfcmmpjcaaaaDoor.Pure

namespace Go.Proofs.YtgdjfcmmpjcaaaaDoor.Pure
open Go Go.RowKit Go.Proofs.YtgdjfcmmpjcaaaaDoor.Q Go.Proofs.YtgdjfcmmpjcaaaaDoorW.PrintWords Go.Proofs.YtgdjfcmmpjcaaaaDoorW.PrintLast Go.Proofs.YtgdjfcmmpjcaaaaDoorW.Own Go.Proofs.YtgdjfcmmpjcaaaaDoorW.PrintMore Go.Proofs.YtgdjfcmmpjcaaaaDoorW.Px
set_option linter.unusedSimpArgs false
set_option linter.unusedVariables false
def numD (d : List UInt8) : Bool := match d with
  | [] => false
  | c :: _ => c != 48 && d.all isD
theorem numD_all (d : List UInt8) (h : numD d = true) : d ≠ [] ∧ ∀ c ∈ d, isD c = true := by
  cases d with
  | nil => cases h
  | cons c d =>
    simp only [numD, Bool.and_eq_true] at h
    exact ⟨by simp, List.all_eq_true.1 h.2⟩
theorem numD_word (d : List UInt8) (h : numD d = true) (da nu : Bool) : wordL ⟨d, da, nu⟩ = (if da = true then 9 else 10, d) := by
  cases d with
  | nil => cases h
  | cons c d =>
    simp only [numD, Bool.and_eq_true, bne_iff_ne] at h
    have hd : (c :: d).dropWhile (· == 48) = c :: d := by rw [List.dropWhile_cons, if_neg (by simpa using h.1)]
    have hc : isD c = true := List.all_eq_true.1 h.2 c (List.mem_cons_self ..)
    unfold wordL
    rw [if_pos (show numb (c :: d) = true from hc)]
    unfold numL
    rw [hd, if_neg (List.cons_ne_nil c d)]
    cases da <;> rfl
theorem parts_one (x : List UInt8) (hx : numD x = true) : splitL x = [(10, x)] := by
  have xa := numD_all x hx
  unfold splitL
  rw [low_digits x xa.2]
  unfold partsL p0
  rw [run_digits [] false false x [] (fun c hc => by cases hc) xa.2, List.nil_append]
  show outL [⟨x, false, false⟩] = _
  unfold outL
  simp only [List.map_cons, List.map_nil, List.foldr_cons, List.foldr_nil, numD_word x hx]
  rw [push_add _ [] (by simp)]
  rfl
def cmpL (a b : List UInt8) : Int :=
  if a.length < b.length then -1 else if b.length < a.length then 1 else if Op.bytesLess a b = true then -1 else if Op.bytesLess b a = true then 1 else 0
theorem cmp_int (a b : Int) : cmp_Compare_int.f a b = some (if a < b then -1 else if a > b then 1 else 0) := by
  unfold cmp_Compare_int.f cmp_isNaN_int.f
  rw [Option.bind_some, Option.bind_some, if_neg (by simp), if_neg (by simp)]
  repeat' split
  all_goals rfl
theorem cmp_str (a b : List UInt8) : cmp_Compare_string.f (ts a) (ts b) = some (if Op.bytesLess a b = true then -1 else if Op.bytesLess b a = true then 1 else 0) := by
  unfold cmp_Compare_string.f cmp_isNaN_string.f
  rw [Option.bind_some, Option.bind_some, if_neg (by simp), if_neg (by simp), ts_toList, ts_toList]
  repeat' split
  all_goals rfl
theorem or_two (a b : Int) (k : Nat) (hk : 4 ≤ k) : cmp_Or_int.f k [a, b] = some (if a = 0 then b else a) := by
  obtain ⟨k, rfl⟩ : ∃ j, k = j + 1 + 1 + 1 := ⟨k - 3, by omega⟩
  unfold cmp_Or_int.f
  have r0 : rd [a, b] 0 = a := rfl
  have r1 : rd [a, b] 1 = b := rfl
  have w0 : wrap64 ((0 : Int) + 1) = 1 := by unfold wrap64; omega
  have w1 : wrap64 ((1 : Int) + 1) = 2 := by unfold wrap64; omega
  have l2 : (([a, b] : List Int).length : Int) = 2 := rfl
  rw [l2, cmp_Or_int.l0, if_pos (by decide), if_pos (by decide), l2, if_pos (by decide), r0, w0]
  by_cases h : a = 0
  · rw [if_pos h, if_pos h, cmp_Or_int.l0, if_pos (by decide), if_pos (by decide), l2, if_pos (by decide), r1, w1]
    by_cases g : b = 0
    · rw [if_pos g, cmp_Or_int.l0, if_neg (by decide), g]
    · rw [if_neg g]
  · rw [if_neg h, if_neg h]
theorem compare_told (x y a b : List UInt8) (hx : splitL x = [(10, a)]) (hy : splitL y = [(10, b)]) (lx : x.length ≤ 1000) (ly : y.length ≤ 1000) (la : a.length ≤ 1000) (lb : b.length ≤ 1000) (k : Nat) (hk : 4000 ≤ k) : order_Compare.f k (ts x) (ts y) = some (cmpL a b) := by
  obtain ⟨k, rfl⟩ : ∃ j, k = j + 1 + 1 := ⟨k - 2, by omega⟩
  unfold order_Compare.f
  rw [split_told x (by omega) _ (by omega), Option.bind_some, split_told y (by omega) _ (by omega), Option.bind_some, hx, hy]
  unfold order_Words.f
  have at0 : ∀ d : List UInt8, order_at.f ([((10, d) : Wl)].map w38) 0 = some (10, ts d) := fun d => rfl
  have w1 : wrap64 ((0 : Int) + 1) = 1 := by unfold wrap64; omega
  have sz : ∀ d : List UInt8, ((ts d).size : Int) = (d.length : Int) := fun d => by rw [ts_size]
  have word : order_word.f (k + 1) 10 (ts a) 10 (ts b) = some (cmpL a b) := by
    unfold order_word.f
    rw [cmp_int, if_neg (by decide), if_neg (by decide), Option.bind_some, if_pos rfl, if_neg (by decide), if_neg (by decide), order_word.j0, if_pos (by decide), sz, sz, cmp_int, Option.bind_some, cmp_str, Option.bind_some, or_two _ _ _ (by omega), Option.bind_some]
    unfold cmpL
    by_cases h1 : a.length < b.length
    · rw [if_pos (show (a.length : Int) < (b.length : Int) by omega), if_pos h1, if_neg (by decide)]
    · rw [if_neg (show ¬ (a.length : Int) < (b.length : Int) by omega), if_neg h1]
      by_cases h2 : b.length < a.length
      · rw [if_pos (show (a.length : Int) > (b.length : Int) by omega), if_pos h2, if_neg (by decide)]
      · rw [if_neg (show ¬ (a.length : Int) > (b.length : Int) by omega), if_neg h2, if_pos rfl]
  rw [order_Words.l0, at0, Option.bind_some, at0, Option.bind_some]
  dsimp only
  rw [word, Option.bind_some, w1]
  by_cases z : cmpL a b = 0
  · rw [if_pos z, if_neg (show ¬ (1 : Int) < mx ((([((10, a) : Wl)].map w38).length : Nat) : Int) ((([((10, b) : Wl)].map w38).length : Nat) : Int) by show ¬ (1 : Int) < mx 1 1; decide), Option.bind_some]
  · rw [if_neg z, Option.bind_some]
def dig (n : Nat) : List UInt8 := match newelhelp_Digits.f 4 (n : Int) with
  | some s => s.data.toList
  | none => []
theorem dig_all : (List.range 202).all (fun n => n == 0 || (newelhelp_Digits.f 4 (n : Int)).isSome && numD (dig n) && decide ((dig n).length ≤ 4)) = true := by kernel_rfl
theorem dig_told (n : Nat) (h0 : 1 ≤ n) (h : n < 202) : (∀ k, 4 ≤ k → newelhelp_Digits.f k (n : Int) = some (ts (dig n))) ∧ numD (dig n) = true ∧ (dig n).length ≤ 4 := by
  have := List.all_eq_true.1 dig_all n (by simp; omega)
  have hn : (n == 0) = false := by simp; omega
  rw [hn, Bool.false_or, Bool.and_eq_true, Bool.and_eq_true, decide_eq_true_iff] at this
  refine ⟨fun k hk => ?_, this.1.2, this.2⟩
  obtain ⟨s, hs⟩ := Option.isSome_iff_exists.1 this.1.1
  have e : dig n = s.data.toList := by unfold dig; rw [hs]
  rw [e, ts_data]
  exact digits_mono _ _ hs k hk
end Go.Proofs.YtgdjfcmmpjcaaaaDoor.Pure

namespace Go.Proofs.YtgdjfcmmpjcaaaaDoor.Pure
open Go Go.RowKit Go.Proofs.YtgdjfcmmpjcaaaaDoor.Q Go.Proofs.YtgdjfcmmpjcaaaaDoorW.PrintWords Go.Proofs.YtgdjfcmmpjcaaaaDoorW.PrintLast Go.Proofs.YtgdjfcmmpjcaaaaDoorW.Own Go.Proofs.YtgdjfcmmpjcaaaaDoorW.PrintMore Go.Proofs.YtgdjfcmmpjcaaaaDoorW.Px
set_option linter.unusedSimpArgs false
set_option linter.unusedVariables false
theorem cut_head {s sub : List UInt8} {c : UInt8} {j : Nat} (h : Lib.occAt s (c :: sub) j = true) : s[j]? = some c := by
  unfold Lib.occAt at h
  obtain ⟨t, ht⟩ := List.isPrefixOf_iff_prefix.1 h
  have : (s.drop j)[0]? = some c := by rw [← ht]; rfl
  simpa using this
theorem cut_there (t r sub : List UInt8) (c : UInt8) (h : ∀ x ∈ t, x ≠ c) : Lib.cut (t ++ ((c :: sub) ++ r)) (c :: sub) = (t, r, true) := by
  have e : Lib.index (t ++ ((c :: sub) ++ r)) (c :: sub) = (t.length : Int) := by
    refine Lib.index_first (by simp) ?_ ?_
    · unfold Lib.occAt
      rw [List.drop_left]
      exact List.isPrefixOf_iff_prefix.2 ⟨r, rfl⟩
    · intro j hj
      rw [Bool.eq_false_iff]
      intro ho
      have := cut_head ho
      rw [List.getElem?_append_left hj] at this
      exact h c (List.mem_of_getElem? this) rfl
  unfold Lib.cut
  rw [e, if_pos (by omega), Int.toNat_natCast, List.take_left, show t.length + (c :: sub).length = (t ++ (c :: sub)).length by simp, ← List.append_assoc, List.drop_left]
theorem any_there (chars : List UInt8) (c : UInt8) (r : List UInt8) (hc : chars.contains c = true) : ∀ p : List UInt8, (∀ x ∈ p, chars.contains x = false) → Lib.indexAny (p ++ c :: r) chars = (p.length : Int)
  | [], _ => by
    show (if chars.contains c then (0 : Int) else _) = 0
    rw [if_pos hc]
  | x :: p, h => by
    have ih := any_there chars c r hc p (fun y hy => h y (List.mem_cons_of_mem _ hy))
    show (if chars.contains x then (0 : Int) else if Lib.indexAny (p ++ c :: r) chars == -1 then -1 else Lib.indexAny (p ++ c :: r) chars + 1) = _
    rw [h x (List.mem_cons_self ..), ih]
    have : ((p.length : Int) == -1) = false := by rw [Bool.eq_false_iff]; intro h; have := beq_iff_eq.1 h; omega
    rw [this]
    simp
theorem trim_plain (l : List UInt8) (c : UInt8) (h : ∀ x ∈ l, x ≠ c) : Lib.trimB l c = l := by
  have g : ∀ l : List UInt8, (∀ x ∈ l, x ≠ c) → l.dropWhile (· == c) = l := by
    intro l h
    cases l with
    | nil => rfl
    | cons x l => rw [List.dropWhile_cons, if_neg (by simpa using h x (List.mem_cons_self ..))]
  unfold Lib.trimB Lib.trimRightB Lib.trimLeftB
  rw [g l.reverse (fun x hx => h x (List.mem_reverse.1 hx)), List.reverse_reverse, g l h]
theorem dig_ne (d : List UInt8) (h : numD d = true) (c : UInt8) (hc : isD c = false) : ∀ x ∈ d, x ≠ c := by
  intro x hx e
  rw [e] at hx
  have := (numD_all d h).2 c hx
  rw [hc] at this; cases this
theorem prefix_told (o : UInt8) (l : List UInt8) (p : UInt8) : strings_HasPrefix.f (ts (o :: l)) (ts [p]) = some (o == p) := by
  have s1 : ((ts [p]).size : Int) = 1 := by rw [ts_size]; rfl
  have s2 : ((ts (o :: l)).size : Int) = ((l.length + 1 : Nat) : Int) := by rw [ts_size]; rfl
  have e : ((ts (o :: l)).extract 0 (1 : Int).toNat).toList = [o] := by
    rw [ba_toList, ba_extract, ts_list]; rfl
  unfold strings_HasPrefix.f stringslite_HasPrefix.f
  rw [s1, s2, if_pos (by omega), if_pos (by omega), if_pos (by omega), e, Option.bind_some, ts_toList]
  congr 1
  rw [Bool.eq_iff_iff]; simp
theorem is_told (o : UInt8) (l : List UInt8) (ho : o = 91 ∨ o = 40) : span_Is.f (ts (o :: l)) = some true := by
  unfold span_Is.f
  rw [show (⟨#[91]⟩ : ByteArray) = ts [91] from rfl, prefix_told, Option.bind_some]
  rcases ho with rfl | rfl
  · rw [if_pos (by decide)]
  · rw [if_neg (by decide), show (⟨#[40]⟩ : ByteArray) = ts [40] from rfl, prefix_told]; rfl
theorem right_dig (d : List UInt8) (h : numD d = true) (l : d.length ≤ 100) (k : Nat) (hk : 101 ≤ k) : words_Right.f k (ts d) = some true := by
  rw [right_told _ _ hk, ts_list]
  congr 1
  have a := numD_all d h
  unfold rightB
  rw [decide_eq_true (show 1 ≤ d.length from List.length_pos_iff.2 a.1), decide_eq_true l, Bool.true_and, Bool.true_and, List.all_eq_true]
  intro c hc
  have := a.2 c hc
  unfold isD at this
  simp only [Bool.and_eq_true, decide_eq_true_eq] at this
  unfold sign8 sign
  rw [decide_eq_true (show (33 : Int) ≤ (c.toNat : Int) by omega), decide_eq_true (show (c.toNat : Int) ≤ 126 by omega), bne_iff_ne.2 (show (c.toNat : Int) ≠ 91 by omega), bne_iff_ne.2 (show (c.toNat : Int) ≠ 93 by omega), bne_iff_ne.2 (show (c.toNat : Int) ≠ 40 by omega), bne_iff_ne.2 (show (c.toNat : Int) ≠ 41 by omega), bne_iff_ne.2 (show (c.toNat : Int) ≠ 44 by omega)]
  rfl
def mayL (c : Int) (il ih : Bool) : Bool := if c < 0 then true else if c = 0 then (if il = true then ih else false) else false
theorem cmp_told (a b : List UInt8) (ha : numD a = true) (hb : numD b = true) (la : a.length ≤ 100) (lb : b.length ≤ 100) (k : Nat) (hk : 4000 ≤ k) : order_Compare.f k (ts a) (ts b) = some (cmpL a b) :=
  compare_told a b a b (parts_one a ha) (parts_one b hb) (by omega) (by omega) (by omega) (by omega) k hk
theorem may_told (a b : List UInt8) (ha : numD a = true) (hb : numD b = true) (la : a.length ≤ 100) (lb : b.length ≤ 100) (il ih : Bool) (k : Nat) (hk : 4001 ≤ k) : span_may.f k (ts a) (ts b) il ih = some (mayL (cmpL a b) il ih) := by
  obtain ⟨k, rfl⟩ : ∃ j, k = j + 1 := ⟨k - 1, by omega⟩
  have na : ¬ (ts a).toList = ([] : List UInt8) := by rw [ts_toList]; exact (numD_all a ha).1
  have nb : ¬ (ts b).toList = ([] : List UInt8) := by rw [ts_toList]; exact (numD_all b hb).1
  unfold span_may.f span_bound.f
  have tt : true = true := rfl
  rw [right_dig a ha la _ (by omega), Option.bind_some, if_pos tt, Option.bind_some, if_pos tt, right_dig b hb lb _ (by omega), Option.bind_some, if_pos tt, Option.bind_some]
  show span_may.j0 (k + 1) false _ _ _ _ = _
  rw [span_may.j0, if_neg (by decide), if_neg na, if_neg nb, cmp_told a b ha hb la lb k (by omega), Option.bind_some]
  unfold mayL
  repeat' split
  all_goals rfl
theorem one_pair (a b : List UInt8) (ha : numD a = true) (hb : numD b = true) (la : a.length ≤ 100) (lb : b.length ≤ 100) (o c : UInt8) (ho : o = 91 ∨ o = 40) (hc : c = 93 ∨ c = 41) (r : List UInt8) (lr : r.length ≤ 100000) (k : Nat) (hk : 4002 ≤ k) :
    span_one.f k (ts (o :: ((a ++ 44 :: b) ++ c :: r))) = some (ts a, ts b, o == 91, c == 93, ts r, mayL (cmpL a b) (o == 91) (c == 93)) := by
  obtain ⟨k, rfl⟩ : ∃ j, k = j + 1 := ⟨k - 1, by omega⟩
  have hs : ((ts (o :: ((a ++ 44 :: b) ++ c :: r))).size : Int) = ((a.length + b.length + 3 + r.length : Nat) : Int) := by
    rw [ts_size]; congr 1
    simp only [List.length_cons, List.length_append]; omega
  have hsz : (ts (o :: ((a ++ 44 :: b) ++ c :: r))).size < 4294967281 := by omega
  have z1 : ¬ ((a.length + b.length + 2 : Nat) : Int) < 0 := by omega
  have z2 : (0 : Int) ≤ ((a.length + b.length + 2 : Nat) : Int) := by omega
  have z3 : (1 : Int) ≤ ((a.length + b.length + 2 : Nat) : Int) := by omega
  have z4 : (0 : Int) ≤ ((a.length + b.length + 3 : Nat) : Int) := by omega
  have s0 : (0 : Int) < ((ts (o :: ((a ++ 44 :: b) ++ c :: r))).size : Int) := by rw [hs]; omega
  have s1 : ((a.length + b.length + 2 : Nat) : Int) < ((ts (o :: ((a ++ 44 :: b) ++ c :: r))).size : Int) := by rw [hs]; omega
  have s2 : ((a.length + b.length + 2 : Nat) : Int) ≤ ((ts (o :: ((a ++ 44 :: b) ++ c :: r))).size : Int) := by rw [hs]; omega
  have s3 : ((a.length + b.length + 3 : Nat) : Int) ≤ ((ts (o :: ((a ++ 44 :: b) ++ c :: r))).size : Int) := by rw [hs]; omega
  have hn : wrap64 (((a.length + b.length + 2 : Nat) : Int) + 1) = ((a.length + b.length + 3 : Nat) : Int) := by unfold wrap64; omega
  have k1 : 4001 ≤ k := by omega
  have ht : Lib.indexAny (o :: ((a ++ 44 :: b) ++ c :: r)) [93, 41] = ((a.length + b.length + 2 : Nat) : Int) := by
    have := any_there [93, 41] c r (by rcases hc with rfl | rfl <;> rfl) (o :: (a ++ 44 :: b)) (by
      intro x hx
      rw [List.contains_eq_mem]
      simp only [List.mem_cons, List.mem_append, List.not_mem_nil, or_false, decide_eq_false_iff_not, not_or] at hx ⊢
      rcases hx with rfl | hx | rfl | hx
      · rcases ho with rfl | rfl <;> decide
      · exact ⟨dig_ne a ha 93 (by decide) x hx, dig_ne a ha 41 (by decide) x hx⟩
      · decide
      · exact ⟨dig_ne b hb 93 (by decide) x hx, dig_ne b hb 41 (by decide) x hx⟩)
    rw [List.cons_append] at this
    rw [this]
    congr 1
    simp only [List.length_cons, List.length_append]; omega
  have hi : strings_IndexAny.f (ts (o :: ((a ++ 44 :: b) ++ c :: r))) (⟨#[93, 41]⟩ : ByteArray) = some ((a.length + b.length + 2 : Nat) : Int) := by
    unfold strings_IndexAny.f
    rw [if_pos ⟨hsz, by decide, by decide, by decide⟩, ts_list, ← ht]
  have hx : (ts (o :: ((a ++ 44 :: b) ++ c :: r))).extract 1 ((a.length + b.length + 2 : Nat) : Int).toNat = ts (a ++ 44 :: b) := by
    apply ba_ext
    rw [ba_extract, ts_list, ts_list, Int.toNat_natCast]
    have : (o :: ((a ++ 44 :: b) ++ c :: r)).take (a.length + b.length + 2) = o :: (a ++ 44 :: b) := by
      rw [show a.length + b.length + 2 = (a.length + b.length + 1) + 1 from rfl, List.take_succ_cons, List.take_append_of_le_length (by simp; omega), List.take_of_length_le (by simp; omega)]
    rw [this]; rfl
  have hcut : strings_Cut.f (ts (a ++ 44 :: b)) (⟨#[44]⟩ : ByteArray) = some (ts a, ts b, true) := by
    unfold strings_Cut.f
    rw [if_pos (by rw [ts_size]; simp; omega), ts_list]
    have : Lib.cut (a ++ 44 :: b) [44] = (a, b, true) := cut_there a b [] 44 (dig_ne a ha 44 (by decide))
    show some ((⟨(Lib.cut (a ++ 44 :: b) [44]).1.toArray⟩ : ByteArray), (⟨(Lib.cut (a ++ 44 :: b) [44]).2.1.toArray⟩ : ByteArray), (Lib.cut (a ++ 44 :: b) [44]).2.2) = _
    rw [this]; rfl
  have b0 : bt (ts (o :: ((a ++ 44 :: b) ++ c :: r))) 0 = (o.toNat : Int) := bt_nat (o :: ((a ++ 44 :: b) ++ c :: r)) 0 (by simp)
  have bc : bt (ts (o :: ((a ++ 44 :: b) ++ c :: r))) ((a.length + b.length + 2 : Nat) : Int) = (c.toNat : Int) := by
    rw [bt_nat _ _ (by simp; omega)]
    have : (o :: ((a ++ 44 :: b) ++ c :: r))[a.length + b.length + 2]? = some c := by
      rw [show a.length + b.length + 2 = (a.length + b.length + 1) + 1 from rfl, List.getElem?_cons_succ, List.getElem?_append_right (by simp; omega)]
      rw [show a.length + b.length + 1 - (a ++ 44 :: b).length = 0 from by simp; omega]
      rfl
    rw [List.getElem?_eq_getElem (by simp; omega)] at this
    rw [Option.some.inj this]
  have eo : ((o.toNat : Int) == 91) = (o == 91) := by rcases ho with rfl | rfl <;> rfl
  have ec : ((c.toNat : Int) == 93) = (c == 93) := by rcases hc with rfl | rfl <;> rfl
  have tr : ∀ d : List UInt8, numD d = true → d.length ≤ 100 → strings_Trim.f (ts d) (⟨#[32]⟩ : ByteArray) = some (ts d) := by
    intro d hd ld
    unfold strings_Trim.f
    rw [if_pos ⟨rfl, by decide, by rw [ts_size]; omega⟩]
    show some (ts (Lib.trimB d 32)) = _
    rw [trim_plain d 32 (dig_ne d hd 32 (by decide))]
  have hr : (ts (o :: ((a ++ 44 :: b) ++ c :: r))).extract ((a.length + b.length + 3 : Nat) : Int).toNat (ts (o :: ((a ++ 44 :: b) ++ c :: r))).size = ts r := by
    apply ba_ext
    rw [ba_extract, ts_list, ts_list, ts_size, List.take_length, Int.toNat_natCast]
    rw [show a.length + b.length + 3 = (o :: ((a ++ 44 :: b) ++ [c])).length from by simp; omega]
    rw [show (o :: ((a ++ 44 :: b) ++ c :: r)) = (o :: ((a ++ 44 :: b) ++ [c])) ++ r from by simp, List.drop_left]
  unfold span_one.f
  have tt : true = true := rfl
  rw [is_told o _ ho, Option.bind_some, if_pos tt, hi, Option.bind_some, if_neg z1, if_pos s0, if_pos z2, if_pos s1, if_pos z3, if_pos s2, hx, hcut, Option.bind_some, if_pos tt, b0, bc, eo, ec]
  rw [span_one.j0, tr a ha la, Option.bind_some, tr b hb lb, Option.bind_some, if_pos tt, hn, if_pos z4, if_pos s3, may_told a b ha hb la lb _ _ k k1, Option.bind_some, hr]
end Go.Proofs.YtgdjfcmmpjcaaaaDoor.Pure

namespace Go.Proofs.YtgdjfcmmpjcaaaaDoor.Pure
open Go Go.RowKit Go.Proofs.YtgdjfcmmpjcaaaaDoor.Q Go.Proofs.YtgdjfcmmpjcaaaaDoorW.PrintWords Go.Proofs.YtgdjfcmmpjcaaaaDoorW.PrintLast Go.Proofs.YtgdjfcmmpjcaaaaDoorW.Own Go.Proofs.YtgdjfcmmpjcaaaaDoorW.PrintMore Go.Proofs.YtgdjfcmmpjcaaaaDoorW.Px
set_option linter.unusedSimpArgs false
set_option linter.unusedVariables false
theorem less_self : ∀ a : List UInt8, Op.bytesLess a a = false
  | [] => rfl
  | x :: a => by
    have h1 : decide (x < x) = false := decide_eq_false (fun g => by have := UInt8.lt_iff_toNat_lt.1 g; omega)
    simp [Op.bytesLess, h1, less_self a]
theorem cmp_self (a : List UInt8) : cmpL a a = 0 := by
  unfold cmpL
  rw [if_neg (Nat.lt_irrefl _), if_neg (Nat.lt_irrefl _), less_self, if_neg (by decide), if_neg (by decide)]
def hB (c1 c2 : Int) (il ih : Bool) : Bool :=
  if c1 < 0 then false else if c1 = 0 then (if il = true then (if c2 > 0 then false else if c2 = 0 then ih else true) else false) else (if c2 > 0 then false else if c2 = 0 then ih else true)
theorem holds_told (lo hi v : ByteArray) (il ih : Bool) (c1 c2 : Int) (nl : ¬ lo.toList = []) (nh : ¬ hi.toList = []) (h1 : ∀ k, 4000 ≤ k → order_Compare.f k v lo = some c1) (h2 : ∀ k, 4000 ≤ k → order_Compare.f k v hi = some c2) (k : Nat) (hk : 4001 ≤ k) :
    span_holds.f k lo hi il ih v = some (hB c1 c2 il ih) := by
  obtain ⟨k, rfl⟩ : ∃ j, k = j + 1 := ⟨k - 1, by omega⟩
  have j : span_holds.j0 (k + 1) v lo hi il ih = some (if c2 > 0 then false else if c2 = 0 then ih else true) := by
    rw [span_holds.j0, if_neg nh, h2 k (by omega), Option.bind_some]
    repeat' split
    all_goals first | rfl | (simp_all; done)
  unfold span_holds.f
  rw [if_neg nl, h1 _ (by omega), Option.bind_some, j]
  unfold hB
  repeat' split
  all_goals first | rfl | (simp_all; done)
def sgn (x y : Nat) : Int := if x < y then -1 else if x = y then 0 else 1
theorem table : (List.range 112).all (fun x => x == 0 || (List.range 112).all (fun y => y == 0 || cmpL (dig x) (dig y) == sgn x y)) = true := by kernel_rfl
theorem cmp_dig (x y : Nat) (hx : 1 ≤ x) (hy : 1 ≤ y) (lx : x < 112) (ly : y < 112) : cmpL (dig x) (dig y) = sgn x y := by
  have a := List.all_eq_true.1 table x (by simp; omega)
  rw [show (x == 0) = false from by simp; omega, Bool.false_or] at a
  have b := List.all_eq_true.1 a y (by simp; omega)
  rw [show (y == 0) = false from by simp; omega, Bool.false_or] at b
  exact beq_iff_eq.1 b
end Go.Proofs.YtgdjfcmmpjcaaaaDoor.Pure

/- The plain law of SpanMany, about the functions that the walks compute. -/
namespace Go.Proofs.YtgdjfcmmpjcaaaaDoor.Pure
open Go Go.RowKit Go.Proofs.YtgdjfcmmpjcaaaaDoor.Q Go.Proofs.YtgdjfcmmpjcaaaaDoorW.PrintWords Go.Proofs.YtgdjfcmmpjcaaaaDoorW.PrintLast Go.Proofs.YtgdjfcmmpjcaaaaDoorW.Own Go.Proofs.YtgdjfcmmpjcaaaaDoorW.PrintMore Go.Proofs.YtgdjfcmmpjcaaaaDoorW.Px
set_option linter.unusedSimpArgs false
set_option linter.unusedVariables false
theorem dig_full (n : Nat) (h0 : 1 ≤ n) (h : n < 202) : ¬ (ts (dig n)).toList = ([] : List UInt8) := by
  rw [ts_toList]; exact (numD_all _ (dig_told n h0 h).2.1).1
theorem cmp_small (x y : Nat) (hx : 1 ≤ x) (hy : 1 ≤ y) (lx : x < 112) (ly : y < 112) (k : Nat) (hk : 4000 ≤ k) : order_Compare.f k (ts (dig x)) (ts (dig y)) = some (sgn x y) := by
  have dx := dig_told x hx (by omega)
  have dy := dig_told y hy (by omega)
  rw [cmp_told (dig x) (dig y) dx.2.1 dy.2.1 (by omega) (by omega) k hk, cmp_dig x y hx hy lx ly]
/-- The i-th span, as a text and as it is told. -/
def tx1 (i : Nat) : List UInt8 := 91 :: ((dig (3 * i + 1) ++ 44 :: dig (3 * i + 2)) ++ 93 :: [])
def sp1 (i : Nat) : S58 := ⟨ts (dig (3 * i + 1)), ts (dig (3 * i + 2)), true, true⟩
/-- So many spans from the i-th on: the text, with a comma between. -/
def txs : Nat → Nat → List UInt8
  | _, 0 => []
  | i, 1 => tx1 i
  | i, n + 2 => tx1 i ++ 44 :: txs (i + 1) (n + 1)
def sps (n : Nat) : List S58 := (List.range n).map sp1
theorem sps_succ (n : Nat) : sps (n + 1) = sps n ++ [sp1 n] := by unfold sps; rw [List.range_succ, List.map_append]; rfl
theorem sps_len (n : Nat) : (sps n).length = n := by unfold sps; simp
theorem dig_both (i : Nat) (h : i < 30) : (numD (dig (3 * i + 1)) = true ∧ (dig (3 * i + 1)).length ≤ 4) ∧ (numD (dig (3 * i + 2)) = true ∧ (dig (3 * i + 2)).length ≤ 4) :=
  ⟨(dig_told (3 * i + 1) (by omega) (by omega)).2, (dig_told (3 * i + 2) (by omega) (by omega)).2⟩
theorem tx1_len (i : Nat) (h : i < 30) : (tx1 i).length ≤ 12 := by
  have := dig_both i h
  unfold tx1; simp; omega
theorem txs_len : ∀ (n i : Nat), i + n ≤ 30 → (txs i n).length ≤ 13 * n
  | 0, _, _ => by simp [txs]
  | 1, i, h => by have := tx1_len i (by omega); unfold txs; omega
  | n + 2, i, h => by
    have := tx1_len i (by omega)
    have := txs_len (n + 1) (i + 1) (by omega)
    unfold txs; simp; omega
theorem one_of (i : Nat) (h : i < 30) (r : List UInt8) (lr : r.length ≤ 100000) (k : Nat) (hk : 4002 ≤ k) : span_one.f k (ts (91 :: ((dig (3 * i + 1) ++ 44 :: dig (3 * i + 2)) ++ 93 :: r))) = some ((sp1 i).f0, (sp1 i).f1, true, true, ts r, true) := by
  have d := dig_both i h
  rw [one_pair _ _ d.1.1 d.2.1 (by omega) (by omega) 91 93 (Or.inl rfl) (Or.inl rfl) r lr k hk, cmp_dig _ _ (by omega) (by omega) (by omega) (by omega)]
  unfold mayL sgn
  rw [if_pos (show 3 * i + 1 < 3 * i + 2 by omega), if_pos (by decide)]
  rfl
theorem behind_of (i : Nat) (h : i < 29) (k : Nat) (hk : 4000 ≤ k) : span_behind.f k (sp1 i).f0 (sp1 i).f1 (sp1 i).f2 (sp1 i).f3 (sp1 (i + 1)).f0 (sp1 (i + 1)).f1 true true = some true := by
  have e1 : ¬ (sp1 i).f1.toList = ([] : List UInt8) := dig_full (3 * i + 2) (by omega) (by omega)
  have e2 : ¬ (sp1 (i + 1)).f0.toList = ([] : List UInt8) := dig_full (3 * (i + 1) + 1) (by omega) (by omega)
  have c : order_Compare.f k (sp1 i).f1 (sp1 (i + 1)).f0 = some (-1) := by
    have := cmp_small (3 * i + 2) (3 * (i + 1) + 1) (by omega) (by omega) (by omega) (by omega) k hk
    unfold sgn at this
    rw [if_pos (show 3 * i + 2 < 3 * (i + 1) + 1 by omega)] at this
    exact this
  unfold span_behind.f
  rw [if_neg e1, if_neg e2, c, Option.bind_some, if_pos (by decide)]
theorem comma_told (l : List UInt8) : strings_CutPrefix.f (ts (44 :: l)) (⟨#[44]⟩ : ByteArray) = some (ts l, true) := by
  have s1 : ((ts [44]).size : Int) = 1 := by rw [ts_size]; rfl
  have s2 : ((ts (44 :: l)).size : Int) = ((l.length + 1 : Nat) : Int) := by rw [ts_size]; rfl
  have e : ((ts (44 :: l)).extract 0 (1 : Int).toNat).toList = [44] := by rw [ba_toList, ba_extract, ts_list]; rfl
  have x : (ts (44 :: l)).extract (1 : Int).toNat (ts (44 :: l)).size = ts l := by
    apply ba_ext
    rw [ba_extract, ts_list, ts_list, ts_size, List.take_length]; rfl
  have tt : ((([44] : List UInt8) == (ts [44]).toList) : Bool) = true := by rw [ts_toList]; rfl
  have z1 : ((l.length + 1 : Nat) : Int) ≥ 1 := by omega
  have z2 : (1 : Int) ≤ ((l.length + 1 : Nat) : Int) := by omega
  unfold strings_CutPrefix.f stringslite_CutPrefix.f stringslite_HasPrefix.f
  rw [show (⟨#[44]⟩ : ByteArray) = ts [44] from rfl, s1, s2, if_pos z1, if_pos (by decide), if_pos z2, e, Option.bind_some, if_pos tt, if_pos (by decide), if_pos z2, x, Option.bind_some]
theorem behind_last (i : Nat) (h : i < 29) (k : Nat) (hk : 4000 ≤ k) (h0 : 0 < i) : span_behind.f k ((rd_T58 (sps i) (((i : Nat) : Int) - 1)).f0) ((rd_T58 (sps i) (((i : Nat) : Int) - 1)).f1) ((rd_T58 (sps i) (((i : Nat) : Int) - 1)).f2) ((rd_T58 (sps i) (((i : Nat) : Int) - 1)).f3) (sp1 i).f0 (sp1 i).f1 true true = some true := by
  obtain ⟨j, rfl⟩ : ∃ j, i = j + 1 := ⟨i - 1, by omega⟩
  have e : rd_T58 (sps (j + 1)) (((j + 1 : Nat) : Int) - 1) = sp1 j := by
    unfold rd_T58
    rw [show (((j + 1 : Nat) : Int) - 1) = ((j : Nat) : Int) from by omega, Int.toNat_natCast, sps_succ, List.getD_eq_getElem?_getD, List.getElem?_append_right (by rw [sps_len]; omega), sps_len, Nat.sub_self]
    rfl
  rw [e]
  exact behind_of j (by omega) k hk
/-- Spans one behind the other, up to twenty. -/
theorem parse_loop : ∀ (n i k : Nat), i + (n + 1) ≤ 20 → 4010 ≤ k → span_Parse.l0 (k + 2 * n + 2) (ts (txs i (n + 1))) (sps i) = some (sps (i + (n + 1)), 0) := by
  have tt : true = true := rfl
  have step : ∀ (i k : Nat) (r : List UInt8), i < 20 → 4010 ≤ k → r.length ≤ 1000 → span_Parse.l0 (k + 1 + 1) (ts (91 :: ((dig (3 * i + 1) ++ 44 :: dig (3 * i + 2)) ++ 93 :: r))) (sps i) = span_Parse.j1 (k + 1) (sps i) (ts r) false (sp1 i).f0 (sp1 i).f1 true true := by
    intro i k r hi hk lr
    have k1 : 4002 ≤ k + 1 := by omega
    have k2 : 4000 ≤ k + 1 := by omega
    have sl : ((sps i).length : Int) = (i : Int) := by rw [sps_len]
    have w : wrap64 ((i : Int) - 1) = (i : Int) - 1 := by unfold wrap64; omega
    have z1 : ¬ (i : Int) ≥ 20 := by omega
    rw [span_Parse.l0, one_of i (by omega) r (by omega) _ k1, Option.bind_some, if_pos tt, sl, if_neg z1]
    by_cases h0 : 0 < i
    · have z2 : (i : Int) > 0 := by omega
      have z3 : (0 : Int) ≤ (i : Int) - 1 := by omega
      have z4 : (i : Int) - 1 < (i : Int) := by omega
      rw [if_pos z2, w, if_pos z3, if_pos z4, behind_last i (by omega) _ k2 h0, Option.bind_some]
      rfl
    · have z2 : ¬ (i : Int) > 0 := by omega
      rw [if_neg z2]
  have put : ∀ i, sps i ++ [(⟨(sp1 i).f0, (sp1 i).f1, true, true⟩ : S58)] = sps (i + 1) := fun i => by rw [sps_succ]; rfl
  have lim : ∀ i, i < 20 → (sps i).length < 3518437208883 := fun i h => by rw [sps_len]; omega
  intro n
  induction n with
  | zero =>
    intro i k h hk
    have e0 : (ts []).toList = ([] : List UInt8) := ts_toList []
    show span_Parse.l0 (k + 1 + 1) (ts (91 :: ((dig (3 * i + 1) ++ 44 :: dig (3 * i + 2)) ++ 93 :: []))) (sps i) = _
    rw [step i k [] (by omega) hk (by simp), span_Parse.j1, if_neg (by decide), if_pos (lim i (by omega)), Option.bind_some, if_pos e0, put]
  | succ n ih =>
    intro i k h hk
    have e0 : ¬ (ts (44 :: txs (i + 1) (n + 1))).toList = ([] : List UInt8) := by rw [ts_toList]; simp
    have tl := txs_len (n + 1) (i + 1) (by omega)
    have e : txs i (n + 1 + 1) = 91 :: ((dig (3 * i + 1) ++ 44 :: dig (3 * i + 2)) ++ 93 :: (44 :: txs (i + 1) (n + 1))) := by
      show tx1 i ++ 44 :: txs (i + 1) (n + 1) = _
      unfold tx1; simp
    rw [e, show k + 2 * (n + 1) + 2 = (k + 2 * n + 2) + 1 + 1 from by omega, step i (k + 2 * n + 2) _ (by omega) (by omega) (by simp; omega), span_Parse.j1, if_neg (by decide), if_pos (lim i (by omega)), Option.bind_some, if_neg e0, comma_told, Option.bind_some, if_pos tt, put]
    rw [ih (i + 1) k (by omega) hk, show i + 1 + (n + 1) = i + (n + 1 + 1) from by omega]
/-- One more than twenty. -/
theorem parse_over : ∀ (n i k : Nat), i ≤ 20 → 20 < i + (n + 1) → i + (n + 1) ≤ 23 → 4010 ≤ k → span_Parse.l0 (k + 2 * n + 2) (ts (txs i (n + 1))) (sps i) = some ([], 12) := by
  have tt : true = true := rfl
  have over : ∀ (k : Nat) (r : List UInt8), 4010 ≤ k → r.length ≤ 1000 → span_Parse.l0 (k + 1 + 1) (ts (91 :: ((dig (3 * 20 + 1) ++ 44 :: dig (3 * 20 + 2)) ++ 93 :: r))) (sps 20) = some ([], 12) := by
    intro k r hk lr
    have k1 : 4002 ≤ k + 1 := by omega
    have sl : ((sps 20).length : Int) = 20 := by rw [sps_len]; rfl
    rw [span_Parse.l0, one_of 20 (by omega) r (by omega) _ k1, Option.bind_some, if_pos tt, sl, if_pos (by decide), span_Parse.j1, if_pos tt]
  have step : ∀ (i k : Nat) (r : List UInt8), i < 20 → 4010 ≤ k → r.length ≤ 1000 → span_Parse.l0 (k + 1 + 1) (ts (91 :: ((dig (3 * i + 1) ++ 44 :: dig (3 * i + 2)) ++ 93 :: r))) (sps i) = span_Parse.j1 (k + 1) (sps i) (ts r) false (sp1 i).f0 (sp1 i).f1 true true := by
    intro i k r hi hk lr
    have k1 : 4002 ≤ k + 1 := by omega
    have k2 : 4000 ≤ k + 1 := by omega
    have sl : ((sps i).length : Int) = (i : Int) := by rw [sps_len]
    have w : wrap64 ((i : Int) - 1) = (i : Int) - 1 := by unfold wrap64; omega
    have z1 : ¬ (i : Int) ≥ 20 := by omega
    rw [span_Parse.l0, one_of i (by omega) r (by omega) _ k1, Option.bind_some, if_pos tt, sl, if_neg z1]
    by_cases h0 : 0 < i
    · have z2 : (i : Int) > 0 := by omega
      have z3 : (0 : Int) ≤ (i : Int) - 1 := by omega
      have z4 : (i : Int) - 1 < (i : Int) := by omega
      rw [if_pos z2, w, if_pos z3, if_pos z4, behind_last i (by omega) _ k2 h0, Option.bind_some]
      rfl
    · have z2 : ¬ (i : Int) > 0 := by omega
      rw [if_neg z2]
  have put : ∀ i, sps i ++ [(⟨(sp1 i).f0, (sp1 i).f1, true, true⟩ : S58)] = sps (i + 1) := fun i => by rw [sps_succ]; rfl
  have lim : ∀ i, i < 20 → (sps i).length < 3518437208883 := fun i h => by rw [sps_len]; omega
  intro n
  induction n with
  | zero =>
    intro i k hi h h3 hk
    obtain rfl : i = 20 := by omega
    exact over k [] hk (by simp)
  | succ n ih =>
    intro i k hi h h3 hk
    have tl := txs_len (n + 1) (i + 1) (by omega)
    have tl3 : i = 20 → (txs 21 (n + 1)).length ≤ 13 * (n + 1) := fun e => by subst e; exact tl
    have e : txs i (n + 1 + 1) = 91 :: ((dig (3 * i + 1) ++ 44 :: dig (3 * i + 2)) ++ 93 :: (44 :: txs (i + 1) (n + 1))) := by
      show tx1 i ++ 44 :: txs (i + 1) (n + 1) = _
      unfold tx1; simp
    rw [e, show k + 2 * (n + 1) + 2 = (k + 2 * n + 2) + 1 + 1 from by omega]
    by_cases z : i = 20
    · have tl4 := tl3 z
      subst z
      exact over (k + 2 * n + 2) _ (by omega) (by simp; omega)
    · have e0 : ¬ (ts (44 :: txs (i + 1) (n + 1))).toList = ([] : List UInt8) := by rw [ts_toList]; simp
      rw [step i (k + 2 * n + 2) _ (by omega) (by omega) (by simp; omega), span_Parse.j1, if_neg (by decide), if_pos (lim i (by omega)), Option.bind_some, if_neg e0, comma_told, Option.bind_some, if_pos tt, put]
      exact ih (i + 1) k (by omega) (by omega) (by omega) hk
theorem txs_snoc : ∀ n j : Nat, txs j (n + 1) ++ 44 :: tx1 (j + n + 1) = txs j (n + 2)
  | 0, j => rfl
  | n + 1, j => by
    have ih := txs_snoc n (j + 1)
    show (tx1 j ++ 44 :: txs (j + 1) (n + 1)) ++ 44 :: tx1 (j + (n + 1) + 1) = tx1 j ++ 44 :: txs (j + 1) (n + 2)
    rw [← ih, show j + (n + 1) + 1 = j + 1 + n + 1 from by omega]
    simp
theorem join_txs : ∀ n i : Nat, Lib.join ((List.range' i n).map tx1) [44] = txs i n
  | 0, i => rfl
  | 1, i => by rw [List.range'_succ, List.range'_zero]; exact Lib.join_one _ _
  | n + 2, i => by
    have ih := join_txs (n + 1) (i + 1)
    rw [List.range'_succ, List.map_cons]
    rw [List.range'_succ, List.map_cons] at ih ⊢
    show _ = tx1 i ++ 44 :: txs (i + 1) (n + 1)
    rw [← ih]
    simp [Lib.join, List.intercalate, List.intersperse]
theorem text_loop (n : Nat) (hn : n ≤ 22) : ∀ (d i k : Nat), i + d = n → span_Text.l0 (k + d + 1) ((List.range i).map fun i => ts (tx1 i)) (sps n) (n : Int) (i : Int) = some (ts (txs 0 n)) := by
  intro d
  induction d with
  | zero =>
    intro i k h
    obtain rfl : i = n := by omega
    have e : ((List.range i).map fun i => ts (tx1 i)).map (fun x : ByteArray => x.data.toList) = (List.range' 0 i).map tx1 := by
      rw [List.map_map, List.range_eq_range']
      rfl
    have tl := txs_len i 0 (by omega)
    have hj : strings_Join.f ((List.range i).map fun i => ts (tx1 i)) (⟨#[44]⟩ : ByteArray) = some (ts (txs 0 i)) := by
      unfold strings_Join.f
      rw [e]
      show (if ((List.range i).map fun i => ts (tx1 i)).length ≤ 140737488355328 ∧ (Lib.join ((List.range' 0 i).map tx1) [44]).length ≤ 140737488355328 then some (ts (Lib.join ((List.range' 0 i).map tx1) [44])) else none) = _
      rw [join_txs, if_pos ⟨by simp; omega, by omega⟩]
    rw [span_Text.l0, if_neg (by omega), hj]
    rfl
  | succ d ih =>
    intro i k h
    have hi : i < n := by omega
    have db := dig_both i (by omega)
    have hr : rd_T58 (sps n) (i : Int) = sp1 i := by
      unfold rd_T58 sps
      rw [Int.toNat_natCast, List.getD_eq_getElem?_getD, List.getElem?_map, List.getElem?_range hi]; rfl
    have f0 : (sp1 i).f0 = ts (dig (3 * i + 1)) := rfl
    have f1 : (sp1 i).f1 = ts (dig (3 * i + 2)) := rfl
    have f2 : (sp1 i).f2 = true := rfl
    have f3 : (sp1 i).f3 = true := rfl
    have ne : ¬ (ts (dig (3 * i + 1))).toList = (ts (dig (3 * i + 2))).toList := by
      rw [ts_toList, ts_toList]
      intro e
      have c := cmp_dig (3 * i + 1) (3 * i + 2) (by omega) (by omega) (by omega) (by omega)
      rw [e, cmp_self] at c
      unfold sgn at c
      rw [if_pos (by omega)] at c
      cases c
    have mk : ∀ a b : ByteArray, span_mark.f true a b = some a := fun a b => if_pos rfl
    have q1 : (ts (dig (3 * i + 1))).size + 1 ≤ 9223372036854775807 := by rw [ts_size]; omega
    have ex : (ts (dig (3 * i + 1)) ++ (⟨#[44]⟩ : ByteArray)) ++ ts (dig (3 * i + 2)) = ts (dig (3 * i + 1) ++ 44 :: dig (3 * i + 2)) := by
      rw [show (⟨#[44]⟩ : ByteArray) = ts [44] from rfl, ts_append, ts_append]; simp
    have q2 : (ts (dig (3 * i + 1)) ++ (⟨#[44]⟩ : ByteArray)).size + (ts (dig (3 * i + 2))).size ≤ 9223372036854775807 := by
      rw [show (⟨#[44]⟩ : ByteArray) = ts [44] from rfl, ts_append, ts_size, ts_size]; simp; omega
    have q3 : (⟨#[91]⟩ : ByteArray).size + (ts (dig (3 * i + 1) ++ 44 :: dig (3 * i + 2))).size ≤ 9223372036854775807 := by
      rw [show (⟨#[91]⟩ : ByteArray) = ts [91] from rfl, ts_size, ts_size]; simp; omega
    have q4 : ((⟨#[91]⟩ : ByteArray) ++ ts (dig (3 * i + 1) ++ 44 :: dig (3 * i + 2))).size + (⟨#[93]⟩ : ByteArray).size ≤ 9223372036854775807 := by
      rw [show (⟨#[91]⟩ : ByteArray) = ts [91] from rfl, show (⟨#[93]⟩ : ByteArray) = ts [93] from rfl, ts_append, ts_size, ts_size]; simp; omega
    have ey : ((⟨#[91]⟩ : ByteArray) ++ ts (dig (3 * i + 1) ++ 44 :: dig (3 * i + 2))) ++ (⟨#[93]⟩ : ByteArray) = ts (tx1 i) := by
      rw [show (⟨#[91]⟩ : ByteArray) = ts [91] from rfl, show (⟨#[93]⟩ : ByteArray) = ts [93] from rfl, ts_append, ts_append]
      unfold tx1; simp
    have q5 : ((List.range i).map fun i => ts (tx1 i)).length < 8796093022208 := by simp; omega
    have nx : ((List.range i).map fun i => ts (tx1 i)) ++ [ts (tx1 i)] = (List.range (i + 1)).map fun i => ts (tx1 i) := by rw [List.range_succ, List.map_append]; rfl
    have z1 : (i : Int) < (n : Int) := by omega
    have z2 : (0 : Int) ≤ (i : Int) := by omega
    have z3 : (i : Int) < ((sps n).length : Int) := by rw [sps_len]; omega
    have hw := next_of i (by omega)
    rw [show k + (d + 1) + 1 = (k + d + 1) + 1 from by omega, span_Text.l0, if_pos z1, if_pos z2, if_pos z3, hr, f0, f1, f2, f3, if_pos q1, if_pos q2, if_neg ne, mk, Option.bind_some, ex, if_pos q3, mk, Option.bind_some, if_pos q4, if_pos q5, ey, nx, hw]
    exact ih (i + 1) k (by omega)
theorem zero_told (k : Nat) (hk : 1 ≤ k) : newelhelp_Digits.f k 0 = some (ts [48]) := by
  obtain ⟨k, rfl⟩ : ∃ j, k = j + 1 := ⟨k - 1, by omega⟩
  rw [newelhelp_Digits.f, if_pos (by decide)]
  kernel_rfl
theorem zero_less (d : List UInt8) (hd : numD d = true) (ld : d.length ≤ 100) (k : Nat) (hk : 4000 ≤ k) : order_Compare.f k (ts [48]) (ts d) = some (-1) := by
  obtain ⟨k, rfl⟩ : ∃ j, k = j + 1 + 1 := ⟨k - 2, by omega⟩
  have e : splitL [48] = [] := rfl
  unfold order_Compare.f
  rw [split_told [48] (by simp) _ (by simp; omega), Option.bind_some, split_told d (by omega) _ (by omega), Option.bind_some, e, parts_one d hd]
  have a0 : order_at.f (([] : List Wl).map w38) 0 = some (6, (⟨#[]⟩ : ByteArray)) := rfl
  have a1 : order_at.f ([((10, d) : Wl)].map w38) 0 = some (10, ts d) := rfl
  have word : order_word.f (k + 1) 6 (⟨#[]⟩ : ByteArray) 10 (ts d) = some (-1) := by
    unfold order_word.f
    rw [cmp_int, if_pos (by decide), Option.bind_some, if_neg (by decide)]
  unfold order_Words.f
  rw [order_Words.l0, a0, Option.bind_some, a1, Option.bind_some]
  dsimp only
  rw [word, Option.bind_some, if_neg (by decide), Option.bind_some]
/-- A small number's text. -/
def dg (v : Nat) : List UInt8 := if v = 0 then [48] else dig v
theorem dg_told (v : Nat) (lv : v < 100) (k : Nat) (hk : 4 ≤ k) : newelhelp_Digits.f k (v : Int) = some (ts (dg v)) := by
  unfold dg
  by_cases z : v = 0
  · rw [if_pos z, z]; exact zero_told k (by omega)
  · rw [if_neg z]; exact (dig_told v (by omega) (by omega)).1 k hk
theorem dg_cmp (v x : Nat) (lv : v < 100) (hx : 1 ≤ x) (lx : x < 100) (k : Nat) (hk : 4000 ≤ k) : order_Compare.f k (ts (dg v)) (ts (dig x)) = some (sgn v x) := by
  have dx := dig_told x hx (by omega)
  unfold dg
  by_cases z : v = 0
  · rw [if_pos z, zero_less _ dx.2.1 (by omega) k hk]
    unfold sgn
    rw [if_pos (by omega)]
  · rw [if_neg z]; exact cmp_small v x (by omega) hx (by omega) (by omega) k hk
def inS (v i : Nat) : Bool := decide (v = 3 * i + 1 ∨ v = 3 * i + 2)
theorem holds_many (n v : Nat) (hn : n ≤ 22) (lv : v < 100) : ∀ (d i k : Nat), i + d = n → 4010 ≤ k → ∃ r, span_Holds.l0 (k + d + 1) (sps n) (ts (dg v)) (i : Int) = some r ∧ decide (r ≥ 0) = (List.range' i d).any (inS v) := by
  intro d
  induction d with
  | zero =>
    intro i k h hk
    have z3 : ¬ (i : Int) < ((sps n).length : Int) := by rw [sps_len]; omega
    refine ⟨-1, ?_, rfl⟩
    rw [span_Holds.l0, if_neg z3]
  | succ d ih =>
    intro i k h hk
    have hi : i < n := by omega
    have hr : rd_T58 (sps n) (i : Int) = sp1 i := by
      unfold rd_T58 sps
      rw [Int.toNat_natCast, List.getD_eq_getElem?_getD, List.getElem?_map, List.getElem?_range hi]; rfl
    have ho : span_Holds.one (k + d + 1) (ts (dg v)) (sp1 i) = some (inS v i) := by
      have := holds_told (sp1 i).f0 (sp1 i).f1 (ts (dg v)) true true _ _ (dig_full (3 * i + 1) (by omega) (by omega)) (dig_full (3 * i + 2) (by omega) (by omega)) (dg_cmp v (3 * i + 1) lv (by omega) (by omega)) (dg_cmp v (3 * i + 2) lv (by omega) (by omega)) (k + d + 1) (by omega)
      show span_holds.f (k + d + 1) (sp1 i).f0 (sp1 i).f1 true true (ts (dg v)) = _
      rw [this]
      congr 1
      unfold hB sgn inS
      rcases Nat.lt_trichotomy v (3 * i + 1) with c | c | c
      · rw [if_pos c, if_pos (by decide), decide_eq_false (by omega)]
      · rw [if_neg (show ¬ v < 3 * i + 1 by omega), if_pos c, if_pos (show v < 3 * i + 2 by omega), decide_eq_true (by omega)]; rfl
      · rw [if_neg (show ¬ v < 3 * i + 1 by omega), if_neg (show ¬ v = 3 * i + 1 by omega)]
        by_cases e : v = 3 * i + 2
        · rw [if_neg (show ¬ v < 3 * i + 2 by omega), if_pos e, decide_eq_true (by omega)]; rfl
        · rw [if_neg (show ¬ v < 3 * i + 2 by omega), if_neg e, decide_eq_false (by omega)]; rfl
    obtain ⟨r, h1, h2⟩ := ih (i + 1) k (by omega) hk
    have z1 : (i : Int) < ((sps n).length : Int) := by rw [sps_len]; omega
    have z2 : (0 : Int) ≤ (i : Int) := by omega
    rw [List.range'_succ, List.any_cons]
    by_cases b : inS v i = true
    · refine ⟨(i : Int), ?_, ?_⟩
      · rw [show k + (d + 1) + 1 = (k + d + 1) + 1 from by omega, span_Holds.l0, if_pos z1, if_pos z2, hr, ho, Option.bind_some, if_pos b]
      · rw [b, decide_eq_true (by omega)]; rfl
    · refine ⟨r, ?_, ?_⟩
      · rw [show k + (d + 1) + 1 = (k + d + 1) + 1 from by omega, span_Holds.l0, if_pos z1, if_pos z2, hr, ho, Option.bind_some, if_neg b, next_of i (by omega), h1]
      · rw [Bool.eq_false_iff.2 b, h2]; rfl
theorem many_told (n v : Nat) (hn : n ≤ 22) (lv : v < 100) (k : Nat) (hk : 5000 ≤ k) : span_Holds.f k (sps n) (ts (dg v)) = some (decide (v % 3 ≠ 0 ∧ v < 3 * n)) := by
  obtain ⟨r, h1, h2⟩ := holds_many n v hn lv n 0 (k - n - 1) (by omega) (by omega)
  rw [show k - n - 1 + n + 1 = k from by omega] at h1
  unfold span_Holds.f
  rw [show (0 : Int) = ((0 : Nat) : Int) from rfl, h1, Option.bind_some]
  rw [show decide (r ≥ ((0 : Nat) : Int)) = decide (r ≥ 0) from rfl, h2]
  congr 1
  rw [Bool.eq_iff_iff, List.any_eq_true, decide_eq_true_iff]
  unfold inS
  simp only [List.mem_range'_1, decide_eq_true_eq]
  constructor
  · rintro ⟨i, ⟨_, h⟩, e⟩; omega
  · rintro ⟨a, b⟩; exact ⟨v / 3, by omega, by omega⟩
theorem tmod3 (v : Nat) : Int.tmod (v : Int) 3 = ((v % 3 : Nat) : Int) := by rw [Int.tmod_eq_emod_of_nonneg (by omega)]; omega
theorem many_end (n v : Nat) (hn : 17 ≤ n) (hn2 : n ≤ 22) (lv : v < 60) (a1 : Int) (k : Nat) (hk : 6000 ≤ k) (e : wrap64 (Int.tmod (IntKind.u64.wrap a1) 60) = (v : Int)) : newellaw07_SpanMany.l0 (k + 1) (n : Int) a1 (ts (txs 0 n)) (n : Int) = some true := by
  revert e
  have z0 : ¬ (n : Int) < (n : Int) := by omega
  have tt : true = true := rfl
  have aw := awake7_ge k (by omega)
  by_cases h : n ≤ 20
  · have pr_ : span_Parse.f k (ts (txs 0 n)) = some (sps n, 0) := by
      obtain ⟨m, rfl⟩ : ∃ m, n = m + 1 := ⟨n - 1, by omega⟩
      have := parse_loop m 0 (k - (2 * m + 2)) (by omega) (by omega)
      rw [show k - (2 * m + 2) + 2 * m + 2 = k from by omega, Nat.zero_add] at this
      exact this
    have tx_ : span_Text.f k (sps n) = some (ts (txs 0 n)) := by
      have := text_loop n hn2 n 0 (k - n - 1) (by omega)
      rw [show k - n - 1 + n + 1 = k from by omega] at this
      unfold span_Text.f
      rw [sps_len]
      exact this
    have z1 : ¬ (n : Int) > 20 := by omega
    have z2 : ((sps n).length : Int) = (n : Int) := by rw [sps_len]
    have dv := dg_told v (by omega) k (by omega)
    have ho := many_told n v hn2 (by omega) k (by omega)
    have w3 : wrap64 (3 * (n : Int)) = ((3 * n : Nat) : Int) := by unfold wrap64; omega
    have tm := tmod3 v
    have fin : (if ((v % 3 : Nat) : Int) = 0 then some (decide (v % 3 ≠ 0 ∧ v < 3 * n) == false) else some (decide (v % 3 ≠ 0 ∧ v < 3 * n) == decide ((v : Int) < ((3 * n : Nat) : Int)))) = some true := by
      by_cases c : v % 3 = 0
      · rw [if_pos (by omega), decide_eq_false (by omega)]; rfl
      · rw [if_neg (by omega)]
        by_cases d : v < 3 * n
        · rw [decide_eq_true ⟨c, d⟩, decide_eq_true (by omega)]; rfl
        · rw [decide_eq_false (by omega), decide_eq_false (by omega)]; rfl
    intro e
    rw [newellaw07_SpanMany.l0, if_neg z0, pr_, Option.bind_some, if_neg z1, aw, Option.bind_some, if_pos tt, if_pos rfl, if_pos z2, tx_, Option.bind_some, if_pos rfl, e, dv, Option.bind_some, ho, Option.bind_some, tm, w3]
    exact fin
  · have pr_ : span_Parse.f k (ts (txs 0 n)) = some ([], 12) := by
      obtain ⟨m, rfl⟩ : ∃ m, n = m + 1 := ⟨n - 1, by omega⟩
      have := parse_over m 0 (k - (2 * m + 2)) (by omega) (by omega) (by omega) (by omega)
      rw [show k - (2 * m + 2) + 2 * m + 2 = k from by omega] at this
      exact this
    have z1 : (n : Int) > 20 := by omega
    intro e
    rw [newellaw07_SpanMany.l0, if_neg z0, pr_, Option.bind_some, if_pos z1, aw, Option.bind_some, if_pos tt, if_pos rfl]
    rfl
theorem wrap_one (i : Nat) (h : i < 30) : wrap64 ((wrap64 (3 * (i : Int))) + 1) = ((3 * i + 1 : Nat) : Int) := by
  rw [show wrap64 (3 * (i : Int)) = 3 * (i : Int) from by unfold wrap64; omega]
  unfold wrap64; omega
theorem wrap_two (i : Nat) (h : i < 30) : wrap64 ((wrap64 (3 * (i : Int))) + 2) = ((3 * i + 2 : Nat) : Int) := by
  rw [show wrap64 (3 * (i : Int)) = 3 * (i : Int) from by unfold wrap64; omega]
  unfold wrap64; omega
theorem many_loop (n v : Nat) (hn : 17 ≤ n) (hn2 : n ≤ 22) (lv : v < 60) (a1 : Int) (e : wrap64 (Int.tmod (IntKind.u64.wrap a1) 60) = (v : Int)) : ∀ (d i k : Nat), i + d = n → 6000 ≤ k → newellaw07_SpanMany.l0 (k + d + 1) (n : Int) a1 (ts (txs 0 i)) (i : Int) = some true := by
  intro d
  induction d with
  | zero =>
    intro i k h hk
    rw [Nat.add_zero] at h
    subst h
    exact many_end i v hn hn2 lv a1 k hk e
  | succ d ih =>
    intro i k h hk
    have step := fun h1 => ih (i + 1) k h1 hk
    clear ih e
    have ih' := step (by omega)
    clear step
    have hi : i < 30 := by omega
    have db := dig_both i hi
    have tl := txs_len i 0 (by omega)
    have d1 : newelhelp_Digits.f (k + d + 1) ((3 * i + 1 : Nat) : Int) = some (ts (dig (3 * i + 1))) := (dig_told (3 * i + 1) (by omega) (by omega)).1 _ (by omega)
    have d2 : newelhelp_Digits.f (k + d + 1) ((3 * i + 2 : Nat) : Int) = some (ts (dig (3 * i + 2))) := (dig_told (3 * i + 2) (by omega) (by omega)).1 _ (by omega)
    have z1 : (i : Int) < (n : Int) := by omega
    have g44 : (⟨#[44]⟩ : ByteArray) = ts [44] := rfl
    have g91 : (⟨#[91]⟩ : ByteArray) = ts [91] := rfl
    have g93 : (⟨#[93]⟩ : ByteArray) = ts [93] := rfl
    rw [show k + (d + 1) + 1 = (k + d + 1) + 1 from by omega, newellaw07_SpanMany.l0, if_pos z1, wrap_one i hi, wrap_two i hi, next_of i (by omega), d1, d2, g44, g91, g93]
    by_cases h0 : 0 < i
    · have z2 : (i : Int) > 0 := by omega
      have e6 : ts (txs 0 i) ++ ts [44] ++ ts [91] ++ ts (dig (3 * i + 1)) ++ ts [44] ++ ts (dig (3 * i + 2)) ++ ts [93] = ts (txs 0 (i + 1)) := by
        obtain ⟨m, rfl⟩ : ∃ m, i = m + 1 := ⟨i - 1, by omega⟩
        rw [← txs_snoc m 0, ts_append, ts_append, ts_append, ts_append, ts_append, ts_append, Nat.zero_add]
        congr 1
        unfold tx1; simp
      rw [if_pos z2, if_pos (by rw [ts_size]; omega), if_pos (by rw [ts_append, ts_size]; simp; omega), Option.bind_some, if_pos (by rw [ts_append, ts_append, ts_size, ts_size]; simp; omega), if_pos (by rw [ts_append, ts_append, ts_append, ts_size]; simp; omega), Option.bind_some, if_pos (by rw [ts_append, ts_append, ts_append, ts_append, ts_size, ts_size]; simp; omega), if_pos (by rw [ts_append, ts_append, ts_append, ts_append, ts_append, ts_size]; simp; omega), e6]
      exact ih'
    · obtain rfl : i = 0 := by omega
      have b1 : (dig 1).length ≤ 4 := db.1.2
      have b2 : (dig 2).length ≤ 4 := db.2.2
      have e6 : ts (txs 0 0) ++ ts [91] ++ ts (dig (3 * 0 + 1)) ++ ts [44] ++ ts (dig (3 * 0 + 2)) ++ ts [93] = ts (txs 0 (0 + 1)) := by
        rw [ts_append, ts_append, ts_append, ts_append, ts_append]
        congr 1
      rw [if_neg (by omega), if_pos (by rw [ts_size]; omega), Option.bind_some, if_pos (by rw [ts_append, ts_size, ts_size]; simp; omega), if_pos (by rw [ts_append, ts_append, ts_size]; simp; omega), Option.bind_some, if_pos (by rw [ts_append, ts_append, ts_append, ts_size, ts_size]; simp; omega), if_pos (by rw [ts_append, ts_append, ts_append, ts_append, ts_size]; simp; omega), e6]
      exact ih'
theorem SpanMany : newellaw07_SpanMany.Pure := by
  intro a0 a1 h0 h1
  obtain ⟨p, lp, e0⟩ := umod a0 6 (by decide)
  obtain ⟨v, lv, e1⟩ := umod a1 60 (by decide)
  have e0 : wrap64 (Int.tmod (IntKind.u64.wrap a0) 6) = (p : Int) := e0
  have e1 : wrap64 (Int.tmod (IntKind.u64.wrap a1) 60) = (v : Int) := e1
  have hp : 17 ≤ 17 + p := Nat.le_add_right _ _
  have hq : 17 + p ≤ 22 := Nat.add_le_add_left (Nat.le_of_lt_succ lp) 17
  have w : wrap64 (17 + (p : Int)) = ((17 + p : Nat) : Int) := by clear e0 e1; unfold wrap64; omega
  have := many_loop (17 + p) v hp hq lv a1 e1 (17 + p) 0 6000 (Nat.zero_add _) (Nat.le_refl _)
  refine ⟨6000 + (17 + p) + 1, ?_⟩
  unfold newellaw07_SpanMany.f
  rw [e0, w]
  exact this
end Go.Proofs.YtgdjfcmmpjcaaaaDoor.Pure
