/- Texts put together: what functions of the program compute, and plain words about them. -/
import Derived.Test.YtkoogebfdinbnaaGreatLawElementTellsUptoM3
import Derived.Test.YtkoogebfdinbnaaGreatLawElementTellsUptoM7
namespace Go.Proofs.YtkoogebfdinbnaaGreat.Pure
open Go Go.RowKit Go.Proofs.YtkoogebfdinbnaaGreat.Q Go.Proofs.YtkoogebfdinbnaaGreatW.PrintWords
theorem upto_at {x l a r : List UInt8} {p : Nat} (h : Tk.upto x (l.drop p) = some (a, r)) : r = l.drop (p + a.length + x.length) ∧ p + a.length + x.length ≤ l.length ∨ l.length < p := by
  by_cases hp : l.length < p
  · exact .inr hp
  left
  have hs := eA_ h
  rw [List.length_drop] at hs
  unfold Tk.upto at h
  split at h
  · injection h with h
    injection h with h1 h2
    have hl : a.length = (Lib.index (l.drop p) x).toNat := by
      have := Lib.index_le (l.drop p) x
      rw [← h1, List.length_take, List.length_drop]
      rw [List.length_drop] at this
      omega
    refine ⟨?_, by omega⟩
    rw [← h2, List.drop_drop, ← hl, Nat.add_assoc]
  · cases h
theorem pre_take (x l : List UInt8) (p : Nat) (h : p + x.length ≤ l.length) : ((Tk.bs l).extract p (p + x.length)).toList = (l.drop p).take x.length := by
  rw [Lib.toList_data, Lib.extract_data, show p + x.length - p = x.length by omega]; rfl
theorem pre_iff (x l : List UInt8) : x.isPrefixOf l = true ↔ l.take x.length = x := by
  rw [List.isPrefixOf_iff_prefix]
  constructor
  · rintro ⟨t, rfl⟩
    exact List.take_left
  · intro h
    exact ⟨l.drop x.length, by conv => lhs; arg 1; rw [← h]
                               exact List.take_append_drop _ _⟩
theorem find_loop (l x : List UInt8) (hl : l.length ≤ 1000000) (hx0 : x ≠ []) (hx : x.length ≤ 100) : ∀ (d p : Nat), p + d = l.length → ∃ k, aW_.l0 k (Tk.bs l) (Tk.bs x) (p : Int) = some (match Tk.upto x (l.drop p) with | some (a, _) => ((p + a.length : Nat) : Int) | none => -1) := by
  have hsz := bV_ l
  have hxz := bV_ x
  have hxl : 0 < x.length := by cases x with | nil => exact absurd rfl hx0 | cons _ _ => simp
  intro d
  induction d with
  | zero =>
    intro p hp
    refine ⟨1, ?_⟩
    have hw : wrap64 ((p : Int) + (x.length : Int)) = ((p + x.length : Nat) : Int) := by unfold wrap64; omega
    rw [aW_.l0, hsz, hxz, hw, if_neg (by omega)]
    have hn : Tk.upto x (l.drop p) = none := by
      rw [List.drop_eq_nil_of_le (by omega)]
      unfold Tk.upto
      rw [if_neg]
      intro h0
      have := Lib.index_room [] x h0
      simp only [List.length_nil] at this
      omega
    rw [hn]
  | succ d ih =>
    intro p hp
    obtain ⟨k, hk⟩ := ih (p + 1) (by omega)
    refine ⟨k + 1, ?_⟩
    have hw : wrap64 ((p : Int) + (x.length : Int)) = ((p + x.length : Nat) : Int) := by unfold wrap64; omega
    have hw1 : wrap64 ((p : Int) + 1) = ((p + 1 : Nat) : Int) := by unfold wrap64; omega
    rw [aW_.l0, hsz, hxz, hw, hw1]
    have hc : l.drop p = l[p] :: l.drop (p + 1) := List.drop_eq_getElem_cons (by omega)
    have hgi := Lib.index_ge (l.drop (p + 1)) x
    by_cases h1 : p + x.length ≤ l.length
    · rw [if_pos (by omega), if_pos (by omega), if_pos (by omega), Int.toNat_natCast, Int.toNat_natCast, pre_take x l p h1, dA_]
      by_cases h2 : (l.drop p).take x.length = x
      · rw [if_pos h2]
        have hpre := (pre_iff x (l.drop p)).2 h2
        have hi : Lib.index (l.drop p) x = 0 := by rw [hc] at hpre ⊢; rw [Lib.index, if_pos hpre]
        unfold Tk.upto
        rw [hi]
        simp
      · rw [if_neg h2, hk]
        have hpre : ¬ x.isPrefixOf (l.drop p) = true := fun h => h2 ((pre_iff x (l.drop p)).1 h)
        have hi : Lib.index (l.drop p) x = if Lib.index (l.drop (p + 1)) x == -1 then -1 else Lib.index (l.drop (p + 1)) x + 1 := by
          rw [hc] at hpre ⊢; rw [Lib.index, if_neg hpre]
        have hle := Lib.index_le (l.drop (p + 1)) x
        rw [List.length_drop] at hle
        unfold Tk.upto
        rw [hi]
        by_cases h3 : Lib.index (l.drop (p + 1)) x = -1
        · rw [h3]; rfl
        · have h4 : (Lib.index (l.drop (p + 1)) x == -1) = false := by simpa using h3
          rw [h4]
          generalize Lib.index (l.drop (p + 1)) x = m at *
          simp only [Bool.false_eq_true, if_false]
          rw [if_pos (show 0 ≤ m by omega), if_pos (show 0 ≤ m + 1 by omega)]
          simp only [List.length_take, List.length_drop]
          congr 1
          omega
    · rw [if_neg (by omega)]
      have hn : Tk.upto x (l.drop p) = none := by
        unfold Tk.upto
        rw [if_neg]
        intro h0
        have := Lib.index_room (l.drop p) x h0
        rw [List.length_drop] at this
        omega
      rw [hn]
theorem bs_cut (l : List UInt8) (i j : Nat) : (Tk.bs l).extract i j = Tk.bs ((l.drop i).take (j - i)) := by
  have h : ((Tk.bs l).extract i j).data.toList = (l.drop i).take (j - i) := by rw [Lib.extract_data]; rfl
  rw [← bs_data ((Tk.bs l).extract i j), h]
theorem ref_space (c : UInt8) : bS_.f (c.toNat : Int) = some (Tk.space c) := Tk.bytes_all (by kernel_rfl) c
theorem ref_within (c : UInt8) : b1_.f (c.toNat : Int) = some (Tk.within c) := Tk.bytes_all (by kernel_rfl) c
theorem ref_letter (c : UInt8) : b7_.f (c.toNat : Int) = some (Tk.letter c) := Tk.bytes_all (by kernel_rfl) c
theorem letter_within (c : UInt8) (h : Tk.letter c = true) : Tk.within c = true := by unfold Tk.within; rw [h]; rfl
theorem tw_all {p : UInt8 → Bool} (l : List UInt8) : ∀ c ∈ l.takeWhile p, p c = true := by
  induction l with
  | nil => intro c h; simp at h
  | cons d r ih =>
    intro c h
    rw [List.takeWhile_cons] at h
    split at h
    · rename_i hd
      rcases List.mem_cons.1 h with rfl | h
      · exact hd
      · exact ih c h
    · simp at h
def nameB : List UInt8 → Bool | [] => false | c :: _ => Tk.letter c
theorem name_told (x : List UInt8) (hl : x.length ≤ 1000000) (ha : ∀ c ∈ x, Tk.within c = true) : ∃ k, a3_.f k (Tk.bs x) = some (nameB x) := by
  have hsz := bV_ x
  cases x with
  | nil => exact ⟨1, by kernel_rfl⟩
  | cons c r =>
    have loop : ∀ (d i : Nat), i + d = (c :: r).length → a3_.l0 (d + 1) (Tk.bs (c :: r)) (i : Int) = some true := by
      intro d
      induction d with
      | zero =>
        intro i hi
        rw [a3_.l0, hsz, if_neg (by omega)]
      | succ d ih =>
        intro i hi
        have hlt : i < (c :: r).length := by omega
        have hw : wrap64 ((i : Int) + 1) = ((i + 1 : Nat) : Int) := by unfold wrap64; omega
        rw [a3_.l0, hsz, if_pos (by omega), if_pos (by omega), bs_bt _ i hlt, ref_within, ha _ (List.getElem_mem hlt), Option.bind_some, if_pos rfl, hw]
        exact ih (i + 1) (by omega)
    refine ⟨(c :: r).length + 2, ?_⟩
    unfold a3_.f
    rw [hsz, if_neg (by simp only [List.length_cons]; omega), if_pos (by simp only [List.length_cons]; omega), show (0 : Int) = ((0 : Nat) : Int) from rfl, bs_bt _ 0 (by simp), ref_letter, Option.bind_some]
    show a3_.j0 _ _ (!Tk.letter c) = some (Tk.letter c)
    rw [a3_.j0]
    cases Tk.letter c with
    | true =>
      rw [if_neg (by decide)]
      exact loop (c :: r).length 0 (by omega)
    | false => rw [if_pos (by decide)]
theorem head_tw (r : List UInt8) : Tk.head r = match r.takeWhile Tk.within with | [] => [] | c :: q => if Tk.letter c = true then c :: q else [] := by
  cases r with
  | nil => rfl
  | cons c q =>
    show (if Tk.letter c = true then c :: q.takeWhile Tk.within else []) = _
    by_cases hc : Tk.letter c = true
    · rw [if_pos hc, List.takeWhile_cons, if_pos (letter_within c hc)]
      show _ = if Tk.letter c = true then _ else _
      rw [if_pos hc]
    · rw [if_neg hc, List.takeWhile_cons]
      by_cases hw : Tk.within c = true
      · rw [if_pos hw]
        show _ = if Tk.letter c = true then _ else _
        rw [if_neg hc]
      · rw [if_neg hw]
theorem head_len_tw {r : List UInt8} (h : Tk.head r ≠ []) : Tk.head r = r.takeWhile Tk.within := by
  rw [head_tw] at h ⊢
  cases ht : r.takeWhile Tk.within with
  | nil => rfl
  | cons c q =>
    rw [ht] at h
    show (if Tk.letter c = true then c :: q else []) = c :: q
    by_cases hc : Tk.letter c = true
    · rw [if_pos hc]
    · exact absurd (if_neg hc) h
theorem ref_digit (c : UInt8) : b9_.f (c.toNat : Int) = some (Tk.digit c) := Tk.bytes_all (by kernel_rfl) c
theorem may_iff (v : Nat) : Tk.may v = true ↔ (v = 9 ∨ v = 10 ∨ v = 13 ∨ (32 ≤ v ∧ v ≤ 1114111 ∧ (v < 55296 ∨ 57343 < v))) := by
  unfold Tk.may
  simp only [Bool.or_eq_true, Bool.and_eq_true, beq_iff_eq, decide_eq_true_eq]
  omega
theorem strN (x : List Int) (y : List UInt8) (h : x.map (fun n => UInt8.ofNat n.toNat) = y) : strOfNums x = ⟨y.toArray⟩ := by
  unfold strOfNums; rw [h]
theorem utf_told (v : Nat) (h : Tk.may v = true) : b2_.f (v : Int) = some (Utf8.encode (v : Int)) := by
  rw [may_iff] at h
  have hv : Utf8.valid (v : Int) = true := by
    unfold Utf8.valid
    simp only [Bool.or_eq_true, Bool.and_eq_true, decide_eq_true_eq]
    omega
  have ht : ∀ (a m : Int), 0 < m → 0 ≤ a → Int.tdiv a m = a / m ∧ Int.tmod a m = a % m := fun a m _ h0 => ⟨Int.tdiv_eq_ediv_of_nonneg h0, Int.tmod_eq_emod_of_nonneg h0⟩
  have w64 : ∀ a : Int, 0 ≤ a → a < 9223372036854775808 → wrap64 a = a := by intro a h0 h1; unfold wrap64; omega
  have ofn : ∀ (a : Int) (n : Nat), a = (n : Int) → UInt8.ofNat a.toNat = UInt8.ofNat n := by rintro _ n rfl; rw [Int.toNat_natCast]
  unfold b2_.f Utf8.encode
  rw [if_pos hv, Int.toNat_natCast]
  have d64 := ht v 64 (by omega) (by omega)
  have d4096 := ht v 4096 (by omega) (by omega)
  have d262 := ht v 262144 (by omega) (by omega)
  have e64 := ht ((v : Int) / 64) 64 (by omega) (by omega)
  have e4096 := ht ((v : Int) / 4096) 64 (by omega) (by omega)
  rw [d64.1, d64.2, d4096.1, d262.1, w64 ((v : Int) / 64) (by omega) (by omega), w64 ((v : Int) / 4096) (by omega) (by omega), w64 ((v : Int) / 262144) (by omega) (by omega), e64.2, e4096.2]
  clear d64 d4096 d262 e64 e4096 ht hv
  by_cases h1 : v < 128
  · rw [if_pos (by omega), if_pos h1]
    refine congrArg some (strN _ [_] ?_)
    simp only [List.map_cons, List.map_nil]
    rw [ofn _ v (by omega)]
  rw [if_neg (by omega), if_neg h1]
  by_cases h2 : v < 2048
  · rw [if_pos (by omega), if_pos (show v < 0x800 from h2)]
    refine congrArg some (strN _ [_, _] ?_)
    simp only [List.map_cons, List.map_nil]
    rw [w64 _ (by omega) (by omega), w64 _ (by omega) (by omega), ofn _ (192 + v / 64) (by omega), ofn _ (128 + v % 64) (by omega)]
  rw [if_neg (by omega), if_neg (show ¬ v < 0x800 from h2)]
  by_cases h3 : v < 65536
  · rw [if_pos (by omega), if_pos (show v < 0x10000 from h3)]
    refine congrArg some (strN _ [_, _, _] ?_)
    simp only [List.map_cons, List.map_nil]
    rw [w64 _ (by omega) (by omega), w64 _ (by omega) (by omega), w64 _ (by omega) (by omega), ofn _ (224 + v / 4096) (by omega), ofn _ (128 + v / 64 % 64) (by omega), ofn _ (128 + v % 64) (by omega)]
  rw [if_neg (by omega), if_neg (show ¬ v < 0x10000 from h3)]
  refine congrArg some (strN _ [_, _, _, _] ?_)
  simp only [List.map_cons, List.map_nil]
  rw [w64 _ (by omega) (by omega), w64 _ (by omega) (by omega), w64 _ (by omega) (by omega), w64 _ (by omega) (by omega), ofn _ (240 + v / 262144) (by omega), ofn _ (128 + v / 4096 % 64) (by omega), ofn _ (128 + v / 64 % 64) (by omega), ofn _ (128 + v % 64) (by omega)]
theorem num_step (l : List UInt8) (hl : l.length ≤ 1000000) (base : Nat) (hb : base = 16 ∨ base = 10) (i : Nat) (hi : i < l.length) (v : Int) (k : Nat) :
    (∀ n, Tk.digitOf base l[i] = some n → ∃ j, j ≤ 2 ∧ aN_.l0 (k + 3) (Tk.bs l) (base : Int) v (i : Int) = aN_.l0 (k + j) (Tk.bs l) (base : Int) (wrap64 (wrap64 (v * (base : Int)) + (n : Int))) ((i + 1 : Nat) : Int)) ∧
    (Tk.digitOf base l[i] = none → aN_.l0 (k + 3) (Tk.bs l) (base : Int) v (i : Int) = some (Tk.bs [], false)) := by
  have hsz := bV_ l
  have hbt := bs_bt l i hi
  have hw : wrap64 ((i : Int) + 1) = ((i + 1 : Nat) : Int) := by unfold wrap64; omega
  have hd0 := ref_digit l[i]
  rw [aN_.l0, hsz, if_pos (by omega), if_pos (by omega), hbt, hd0, Option.bind_some, hw]
  have hc := l[i].toNat_lt
  generalize l[i] = c at *
  cases hd : Tk.digit c with
  | true =>
    have hd1 : 48 ≤ c.toNat ∧ c.toNat ≤ 57 := by unfold Tk.digit at hd; simpa using hd
    have e : ((c.toNat : Int) - 48) % 256 = ((c.toNat - 48 : Nat) : Int) := by omega
    have ho : Tk.digitOf base c = some (c.toNat - 48) := by
      unfold Tk.digitOf
      rw [hd]
      show (if c.toNat - 48 < base then some (c.toNat - 48) else none) = _
      rw [if_pos (by rcases hb with rfl | rfl <;> omega)]
    rw [if_pos rfl, e, if_neg (by omega), ho]
    refine ⟨fun n hn => ?_, fun hn => by cases hn⟩
    cases hn
    exact ⟨2, Nat.le_refl _, rfl⟩
  | false =>
    have hd1 : ¬ (48 ≤ c.toNat ∧ c.toNat ≤ 57) := by intro h; unfold Tk.digit at hd; simp [h.1, h.2] at hd
    rw [if_neg (by decide)]
    rcases hb with rfl | rfl
    · rw [if_pos (show ((16 : Nat) : Int) = 16 from rfl)]
      by_cases h1 : 97 ≤ c.toNat ∧ c.toNat ≤ 102
      · have e : ((c.toNat : Int) - 97) % 256 + 10 = ((c.toNat - 87 : Nat) : Int) := by omega
        have ho : Tk.digitOf 16 c = some (c.toNat - 87) := by
          unfold Tk.digitOf
          rw [hd, if_neg (by decide), if_pos h1]
          show (if c.toNat - 87 < 16 then some (c.toNat - 87) else none) = _
          rw [if_pos (by omega)]
        rw [if_pos (by omega), decide_eq_true (by omega), aN_.j1, if_pos rfl, e, if_neg (by omega), ho, hw]
        refine ⟨fun n hn => ?_, fun hn => by cases hn⟩
        cases hn
        exact ⟨1, by omega, rfl⟩
      · have hj : ∀ x, (if (c.toNat : Int) ≥ 97 then aN_.j1 (k + 2) (Tk.bs l) ((16 : Nat) : Int) v (i : Int) (c.toNat : Int) (-1) (decide ((c.toNat : Int) ≤ 102)) else aN_.j1 (k + 2) (Tk.bs l) ((16 : Nat) : Int) v (i : Int) (c.toNat : Int) (-1) false) = x ↔ aN_.j1 (k + 2) (Tk.bs l) ((16 : Nat) : Int) v (i : Int) (c.toNat : Int) (-1) false = x := by
          intro x
          by_cases h2 : 97 ≤ c.toNat
          · rw [if_pos (by omega), decide_eq_false (by omega)]
          · rw [if_neg (by omega)]
        have hj2 := (hj _).2 rfl
        rw [hj2, aN_.j1, if_neg (by decide), if_pos (show ((16 : Nat) : Int) = 16 from rfl)]
        by_cases h3 : 65 ≤ c.toNat ∧ c.toNat ≤ 70
        · have e : ((c.toNat : Int) - 65) % 256 + 10 = ((c.toNat - 55 : Nat) : Int) := by omega
          have ho : Tk.digitOf 16 c = some (c.toNat - 55) := by
            unfold Tk.digitOf
            rw [hd, if_neg (by decide), if_neg h1, if_pos h3]
            show (if c.toNat - 55 < 16 then some (c.toNat - 55) else none) = _
            rw [if_pos (by omega)]
          rw [if_pos (by omega), decide_eq_true (by omega), aN_.j2, if_pos rfl, e, if_neg (by omega), ho, hw]
          refine ⟨fun n hn => ?_, fun hn => by cases hn⟩
          cases hn
          exact ⟨0, by omega, rfl⟩
        · have ho : Tk.digitOf 16 c = none := by
            unfold Tk.digitOf
            rw [hd, if_neg (by decide), if_neg h1, if_neg h3]; rfl
          rw [ho]
          refine ⟨fun n hn => (by cases hn), fun _ => ?_⟩
          by_cases h2 : 65 ≤ c.toNat
          · rw [if_pos (by omega), decide_eq_false (by omega), aN_.j2, if_neg (by decide), if_pos (by decide)]; rfl
          · rw [if_neg (by omega), aN_.j2, if_neg (by decide), if_pos (by decide)]; rfl
    · have ho : Tk.digitOf 10 c = none := by
        unfold Tk.digitOf
        rw [hd, if_neg (by decide)]
        split
        · show (if c.toNat - 87 < 10 then some (c.toNat - 87) else none) = none
          rw [if_neg (by omega)]
        · split
          · show (if c.toNat - 55 < 10 then some (c.toNat - 55) else none) = none
            rw [if_neg (by omega)]
          · rfl
      rw [ho]
      refine ⟨fun n hn => (by cases hn), fun _ => ?_⟩
      rw [if_neg (show ¬ ((10 : Nat) : Int) = 16 by decide), aN_.j1, if_neg (by decide), if_neg (show ¬ ((10 : Nat) : Int) = 16 by decide), aN_.j2, if_neg (by decide), if_pos (by decide)]; rfl
theorem num_end (l : List UInt8) (hl : l.length ≤ 1000000) (base : Int) (v : Nat) (k : Nat) :
    aN_.l0 (k + 1) (Tk.bs l) base (v : Int) (l.length : Int) = some (if 1 ≤ l.length ∧ l.length ≤ 6 ∧ Tk.may v = true then (Utf8.encode (v : Int), true) else (Tk.bs [], false)) := by
  have hsz := bV_ l
  rw [aN_.l0, hsz, if_neg (by omega)]
  by_cases h : 1 ≤ l.length ∧ l.length ≤ 6 ∧ Tk.may v = true
  · rw [if_pos h]
    obtain ⟨h1, h2, hm⟩ := h
    rw [if_pos (by omega), if_pos (by omega), utf_told v hm]
    rw [may_iff] at hm
    repeat' split
    all_goals first | (exfalso; omega) | rfl
  · rw [if_neg h]
    have h' : 1 ≤ l.length → l.length ≤ 6 → ¬ (v = 9 ∨ v = 10 ∨ v = 13 ∨ (32 ≤ v ∧ v ≤ 1114111 ∧ (v < 55296 ∨ 57343 < v))) := fun a b c => h ⟨a, b, (may_iff v).2 c⟩
    repeat' split
    all_goals first | (exfalso; exact h' (by omega) (by omega) (by omega)) | rfl
theorem num_any (l : List UInt8) (hl : l.length ≤ 1000000) (h6 : 6 < l.length) (base : Nat) (hb : base = 16 ∨ base = 10) : ∀ (d i : Nat) (v : Int), i + d = l.length → ∃ k, aN_.l0 k (Tk.bs l) (base : Int) v (i : Int) = some (Tk.bs [], false) := by
  intro d
  induction d with
  | zero =>
    intro i v hi
    refine ⟨1, ?_⟩
    have hsz := bV_ l
    rw [aN_.l0, hsz, if_neg (by omega), if_pos (by omega), if_neg (by omega)]; rfl
  | succ d ih =>
    intro i v hi
    have hlt : i < l.length := by omega
    have hs := num_step l hl base hb i hlt v
    cases hd : Tk.digitOf base l[i] with
    | none => exact ⟨0 + 3, (hs 0).2 hd⟩
    | some n =>
      obtain ⟨k, hk⟩ := ih (i + 1) (wrap64 (wrap64 (v * (base : Int)) + (n : Int))) (by omega)
      obtain ⟨j, hj, he⟩ := (hs k).1 n hd
      refine ⟨k + 3, ?_⟩
      rw [he]
      have m := aN_.mono_l
      rcases (show j = 0 ∨ j = 1 ∨ j = 2 by omega) with rfl | rfl | rfl
      · exact hk
      · exact (m k).1 _ _ _ _ _ hk
      · exact (m (k + 1)).1 _ _ _ _ _ ((m k).1 _ _ _ _ _ hk)
theorem digitOf_lt' {base : Nat} {c : UInt8} {n : Nat} (h : Tk.digitOf base c = some n) : n < base := by
  unfold Tk.digitOf at h
  obtain ⟨m, _, h⟩ := Option.bind_eq_some_iff.1 h
  split at h
  · rename_i hm
    injection h with h
    omega
  · cases h
theorem wr2 (q n : Nat) (hq : q < 16777216) (hn : n < 16) : wrap64 (wrap64 (q : Int) + (n : Int)) = ((q + n : Nat) : Int) := by unfold wrap64; omega
theorem num_few (l : List UInt8) (h1 : 1 ≤ l.length) (h6 : l.length ≤ 6) (base : Nat) (hb : base = 16 ∨ base = 10) : ∀ (d i v : Nat), i + d = l.length → v < 16 ^ i → ∃ k, aN_.l0 k (Tk.bs l) (base : Int) (v : Int) (i : Int) = some (match (Tk.number base v (l.drop i)).bind fun v => if Tk.may v then some (Utf8.encode (v : Int)).data.toList else none with | some c => (Tk.bs c, true) | none => (Tk.bs [], false)) := by
  intro d
  induction d with
  | zero =>
    intro i v hi hv
    refine ⟨0 + 1, ?_⟩
    obtain rfl : i = l.length := by omega
    rw [num_end l (by omega) base v 0, List.drop_length]
    show _ = some (match (if Tk.may v then some (Utf8.encode (v : Int)).data.toList else none) with | some c => (Tk.bs c, true) | none => (Tk.bs [], false))
    by_cases hm : Tk.may v = true
    · rw [if_pos ⟨h1, h6, hm⟩, if_pos hm]
      show some (_, true) = some (Tk.bs _, true)
      rw [bs_data]
    · rw [if_neg (fun h => hm h.2.2), if_neg hm]
  | succ d ih =>
    intro i v hi hv
    have hlt : i < l.length := by omega
    have hs := num_step l (by omega) base hb i hlt (v : Int)
    have hc : l.drop i = l[i] :: l.drop (i + 1) := List.drop_eq_getElem_cons hlt
    rw [hc, Tk.number]
    cases hd : Tk.digitOf base l[i] with
    | none =>
      exact ⟨0 + 3, (hs 0).2 hd⟩
    | some n =>
      have hn := digitOf_lt' hd
      have hb16 : base ≤ 16 := by rcases hb with rfl | rfl <;> omega
      have hp : 16 ^ i ≤ 1048576 := Nat.le_trans (Nat.pow_le_pow_right (by decide) (show i ≤ 5 by omega)) (Nat.le_of_eq rfl)
      have hm1 : v * base ≤ v * 16 := Nat.mul_le_mul_left _ hb16
      have hq : v * base < 16777216 := by generalize 16 ^ i = q at *; omega
      have hv2 : v * base + n < 16 ^ (i + 1) := by rw [Nat.pow_succ]; generalize 16 ^ i = q at *; omega
      have hw : wrap64 (wrap64 ((v : Int) * (base : Int)) + (n : Int)) = ((v * base + n : Nat) : Int) := by
        have e : (v : Int) * (base : Int) = ((v * base : Nat) : Int) := (Int.natCast_mul v base).symm
        rw [e]
        exact wr2 _ _ hq (by omega)
      obtain ⟨k, hk⟩ := ih (i + 1) (v * base + n) (by clear hp hv2 hv hq; omega) hv2
      obtain ⟨j, hj, he⟩ := (hs k).1 n hd
      refine ⟨k + 3, ?_⟩
      rw [he, hw, Option.bind_some]
      have m := aN_.mono_l
      rcases (show j = 0 ∨ j = 1 ∨ j = 2 by omega) with rfl | rfl | rfl
      · exact hk
      · exact (m k).1 _ _ _ _ _ hk
      · exact (m (k + 1)).1 _ _ _ _ _ ((m k).1 _ _ _ _ _ hk)
theorem number_told (l : List UInt8) (hl : l.length ≤ 1000000) (base : Nat) (hb : base = 16 ∨ base = 10) : ∃ k, aN_.f k (Tk.bs l) (base : Int) = some (Tk.bs (numB base l).1, (numB base l).2) := by
  unfold aN_.f numB Tk.numbered
  by_cases h0 : l = []
  · subst h0
    refine ⟨0 + 1, ?_⟩
    have := num_end [] (by simp) (base : Int) 0 0
    simp only [List.length_nil] at this
    rw [if_pos (.inl rfl)]
    exact this.trans (by rw [if_neg (by omega)])
  by_cases h6 : 6 < l.length
  · obtain ⟨k, hk⟩ := num_any l hl h6 base hb l.length 0 0 (by omega)
    rw [if_pos (.inr h6)]
    exact ⟨k, hk⟩
  have h1 : 1 ≤ l.length := by cases l with | nil => exact absurd rfl h0 | cons _ _ => simp
  obtain ⟨k, hk⟩ := num_few l h1 (by omega) base hb l.length 0 0 (by omega) (by decide)
  rw [if_neg (by rintro (h | h); exact h0 h; exact h6 h)]
  rw [List.drop_zero] at hk
  refine ⟨k, hk.trans ?_⟩
  split <;> rename_i e <;> rw [e]
theorem begins_f (l x : List UInt8) (hl : l.length ≤ 1000000) (hx : x.length ≤ 100) (p : Nat) (hp : p ≤ l.length) : aK_.f (Tk.bs l) (Tk.bs x) (p : Int) = some (x.isPrefixOf (l.drop p)) := by
  unfold aK_.f
  have hsz := bV_ l
  have hxz := bV_ x
  have hw : wrap64 ((p : Int) + (x.length : Int)) = ((p + x.length : Nat) : Int) := by unfold wrap64; omega
  rw [hsz, hxz, hw]
  by_cases h1 : p + x.length ≤ l.length
  · rw [if_pos (by omega), if_pos (by omega), if_pos (by omega), Int.toNat_natCast, Int.toNat_natCast, pre_take x l p h1, dA_]
    congr 1
    rw [Bool.eq_iff_iff, beq_iff_eq]
    exact (pre_iff x (l.drop p)).symm
  · rw [if_neg (by omega)]
    congr 1
    rw [eq_comm, Bool.eq_false_iff]
    intro h
    have := (List.isPrefixOf_iff_prefix.1 h).length_le
    rw [List.length_drop] at this
    omega
theorem entity_told (l : List UInt8) (hl : l.length ≤ 1000000) : ∃ k, b0_.f k (Tk.bs l) = some (Tk.bs (entV l).1, (entV l).2) := by
  have b2 := begins_f l [35, 120] hl (by decide) 0 (by omega)
  have b1 := begins_f l [35] hl (by decide) 0 (by omega)
  rw [List.drop_zero] at b1 b2
  change aK_.f (Tk.bs l) (⟨#[35, 120]⟩ : ByteArray) 0 = _ at b2
  change aK_.f (Tk.bs l) (⟨#[35]⟩ : ByteArray) 0 = _ at b1
  have hsz := bV_ l
  have nm : ∀ (c : List UInt8), Tk.named l = some c → Lib.hasPrefix l [35] = false → entV l = (c, true) := fun c h h2 => by unfold entV; rw [entV_named l h2, h]
  unfold b0_.f
  rw [dA_, b2, b1]
  by_cases h1 : l = [108, 116]
  · subst h1; exact ⟨0, rfl⟩
  simp only [if_neg h1]
  by_cases h2 : l = [103, 116]
  · subst h2; exact ⟨0, rfl⟩
  simp only [if_neg h2]
  by_cases h3 : l = [97, 109, 112]
  · subst h3; exact ⟨0, rfl⟩
  simp only [if_neg h3]
  by_cases h4 : l = [113, 117, 111, 116]
  · subst h4; exact ⟨0, rfl⟩
  simp only [if_neg h4]
  by_cases h5 : l = [97, 112, 111, 115]
  · subst h5; exact ⟨0, rfl⟩
  simp only [if_neg h5, Option.bind_some]
  have named0 : Tk.named l = none := by unfold Tk.named; rw [if_neg h1, if_neg h2, if_neg h3, if_neg h4, if_neg h5]
  cases hp2 : List.isPrefixOf [35, 120] l with
  | true =>
    obtain ⟨r, rfl⟩ := List.isPrefixOf_iff_prefix.1 hp2
    obtain ⟨k, hk⟩ := number_told r (by simp at hl; omega) 16 (.inl rfl)
    refine ⟨k, ?_⟩
    have e := bs_drop ([35, 120] ++ r) 2
    rw [if_pos rfl, if_pos (by rw [hsz]; simp; omega), e]
    show (aN_.f k (Tk.bs r) ((16 : Nat) : Int)).bind _ = _
    rw [hk]; rfl
  | false =>
    simp only [Bool.false_eq_true, if_false, Option.bind_some]
    cases hp1 : List.isPrefixOf [35] l with
    | true =>
      obtain ⟨r, rfl⟩ := List.isPrefixOf_iff_prefix.1 hp1
      obtain ⟨k, hk⟩ := number_told r (by simp at hl; omega) 10 (.inr rfl)
      refine ⟨k, ?_⟩
      have e := bs_drop ([35] ++ r) 1
      have h120 : Lib.hasPrefix r [120] = false := by
        rw [← hp2]
        show List.isPrefixOf [120] r = List.isPrefixOf [35, 120] (35 :: r)
        simp [List.isPrefixOf]
      rw [if_pos rfl, if_pos (by rw [hsz]; simp; omega), e]
      show (aN_.f k (Tk.bs r) ((10 : Nat) : Int)).bind _ = _
      rw [hk, show entV ([35] ++ r) = numB 10 r from entV_hash10 r h120]; rfl
    | false =>
      refine ⟨0, ?_⟩
      have : entV l = ([], false) := by unfold entV; rw [entV_named l hp1, named0]
      rw [if_neg (by decide), this]; rfl
theorem upto_cons_ne (y c : UInt8) (m : List UInt8) (h : c ≠ y) : Tk.upto [y] (c :: m) = (Tk.upto [y] m).map fun p => (c :: p.1, p.2) := by
  have hp : ¬ List.isPrefixOf [y] (c :: m) = true := by simp [List.isPrefixOf]; exact fun e => h e.symm
  have hi : Lib.index (c :: m) [y] = if Lib.index m [y] == -1 then -1 else Lib.index m [y] + 1 := by rw [Lib.index, if_neg hp]
  have hg := Lib.index_ge m [y]
  unfold Tk.upto
  rw [hi]
  by_cases h3 : Lib.index m [y] = -1
  · rw [h3]; rfl
  · have h4 : (Lib.index m [y] == -1) = false := by simpa using h3
    rw [h4]
    generalize Lib.index m [y] = j at *
    obtain ⟨n, rfl⟩ : ∃ n : Nat, j = (n : Int) := ⟨j.toNat, by omega⟩
    simp only [Bool.false_eq_true, if_false]
    rw [if_pos (by omega), if_pos (by omega), show ((n : Int) + 1).toNat = n + 1 by omega, Int.toNat_natCast]
    rw [Option.map_some, List.take_succ_cons]
    congr 2
theorem upto_cons_eq (y : UInt8) (m : List UInt8) : Tk.upto [y] (y :: m) = some ([], m) := by
  have hp : List.isPrefixOf [y] (y :: m) = true := by simp [List.isPrefixOf]
  have hi : Lib.index (y :: m) [y] = 0 := by rw [Lib.index, if_pos hp]
  unfold Tk.upto
  rw [hi]; rfl
theorem upto_nil (y : UInt8) : Tk.upto [y] [] = none := rfl
theorem ents_cons (n : Nat) (c : UInt8) (m : List UInt8) (h : c ≠ 38) : Tk.ents n (c :: m) = (Tk.ents n m).map (c :: ·) := by
  cases n with
  | zero => rfl
  | succ n =>
    cases hu : Tk.upto [38] m with
    | none =>
      rw [ents_none hu, ents_none (by rw [upto_cons_ne 38 c m h, hu]; rfl)]; rfl
    | some p =>
      obtain ⟨a, b⟩ := p
      have hu2 : Tk.upto [38] (c :: m) = some (c :: a, b) := by rw [upto_cons_ne 38 c m h, hu]; rfl
      cases hv : Tk.upto [59] b with
      | none => rw [ents_open hu hv, ents_open hu2 hv]; rfl
      | some q =>
        obtain ⟨nm, r⟩ := q
        rw [ents_step hu hv, ents_step hu2 hv]
        cases Tk.entity nm with
        | none => rfl
        | some t => cases Tk.ents n r <;> rfl
def nums1 (d : List UInt8) : List Int := d.map fun b => (b.toNat : Int)
theorem strOf_nums1 (d : List UInt8) : strOfNums (nums1 d) = Tk.bs d := by
  refine (strN _ d ?_).trans rfl
  unfold nums1
  rw [List.map_map]
  conv => rhs; rw [← List.map_id d]
  refine List.map_congr_left fun b _ => ?_
  show UInt8.ofNat ((b.toNat : Int)).toNat = b
  rw [Int.toNat_natCast, UInt8.ofNat_toNat]
theorem leo_ge {α : Type} {f : Nat → Option α} (h : ∀ k, LeO (f k) (f (k + 1))) {k : Nat} {r : α} (e : f k = some r) : ∀ j, f (k + j) = some r := by
  intro j
  induction j with
  | zero => exact e
  | succ j ih => exact h (k + j) r ih
theorem nums1_append (a b : List UInt8) : nums1 (a ++ b) = nums1 a ++ nums1 b := List.map_append
theorem nums1_length (a : List UInt8) : (nums1 a).length = a.length := List.length_map _
theorem bnds (i n L : Nat) (h : i + (n + 1) ≤ L) : ¬ ((i + (n + 1) : Nat) : Int) < 0 ∧ 0 ≤ ((i + 1 : Nat) : Int) ∧ ((i + 1 : Nat) : Int) ≤ ((i + (n + 1) : Nat) : Int) ∧ ((i + (n + 1) : Nat) : Int) ≤ (L : Int) := by omega
set_option maxHeartbeats 800000 in
theorem entities_loop (l : List UInt8) (hl : l.length ≤ 1000000) : ∀ (D d i : Nat) (acc : List UInt8) (n : Nat), d ≤ D → i + d = l.length → d < n → acc.length ≤ 4 * i →
    ∃ k, aU_.l0 k (Tk.bs l) (nums1 acc) (i : Int) = some (match Tk.ents n (l.drop i) with | some t => (Tk.bs (acc ++ t), 0) | none => (Tk.bs [], 5)) := by
  have hsz := bV_ l
  intro D
  induction D with
  | zero =>
    intro d i acc n hD hi hn ha
    obtain ⟨n, rfl⟩ : ∃ m, n = m + 1 := ⟨n - 1, by omega⟩
    refine ⟨1, ?_⟩
    rw [aU_.l0, hsz, if_neg (by omega), List.drop_eq_nil_of_le (by omega), ents_none (upto_nil 38), strOf_nums1]
    show _ = some (Tk.bs (acc ++ []), (0 : Int))
    rw [List.append_nil]
  | succ D ih =>
    intro d i acc n hD hi hn ha
    by_cases hd : d ≤ D
    · exact ih d i acc n hd hi hn ha
    obtain ⟨n, rfl⟩ : ∃ m, n = m + 1 := ⟨n - 1, by omega⟩
    have hlt : i < l.length := by omega
    have hc : l.drop i = l[i] :: l.drop (i + 1) := List.drop_eq_getElem_cons hlt
    have hA0 : acc.length + 4 < 140737488355328 := by omega
    have hw : wrap64 ((i : Int) + 1) = ((i + 1 : Nat) : Int) := by unfold wrap64; omega
    have z1 : (i : Int) < (l.length : Int) := by omega
    have z2 : 0 ≤ (i : Int) := by omega
    have hbt := bs_bt l i hlt
    have HW := Lib.hid hw
    have HA := Lib.hid hA0
    have HBT := Lib.hid hbt
    have HAL := Lib.hid (nums1_length acc)
    clear hw hA0 hbt
    by_cases h38 : l[i] = 38
    · have hu : Tk.upto [38] (l.drop i) = some ([], l.drop (i + 1)) := by rw [hc, h38]; exact upto_cons_eq 38 _
      have hu9 : Tk.upto [59] (l.drop i) = (Tk.upto [59] (l.drop (i + 1))).map fun p => (38 :: p.1, p.2) := by rw [hc, h38]; exact upto_cons_ne 59 38 _ (by decide)
      obtain ⟨kf, hkf⟩ := find_loop l [59] hl (by decide) (by decide) (l.length - i) i (by omega)
      have hf0 : aW_.f kf (Tk.bs l) (⟨#[59]⟩ : ByteArray) (i : Int) = _ := hkf
      rw [hu9] at hf0
      have h38n : ((l[i].toNat : Nat) : Int) = 38 := by rw [h38]; rfl
      have HN := Lib.hid h38n
      clear h38n
      cases hv : Tk.upto [59] (l.drop (i + 1)) with
      | none =>
        rw [hv] at hf0
        have hf1 : aW_.f kf (Tk.bs l) (⟨#[59]⟩ : ByteArray) (i : Int) = some (-1) := hf0
        refine ⟨kf + 1, ?_⟩
        rw [aU_.l0, hsz, if_pos z1, if_pos z2, HBT.out, if_pos HN.out, hf1, ents_open hu hv, Option.bind_some, if_pos (by decide)]
        rfl
      | some q =>
        obtain ⟨nm, r⟩ := q
        rw [hv] at hf0
        have hf1 : aW_.f kf (Tk.bs l) (⟨#[59]⟩ : ByteArray) (i : Int) = some ((i + (nm.length + 1) : Nat) : Int) := hf0
        clear hf0 hkf
        have hsum := eA_ hv
        rw [List.length_drop] at hsum
        simp only [List.length_cons, List.length_nil] at hsum
        have hB := bnds i nm.length l.length (by omega)
        have hr : r = l.drop (i + 1 + nm.length + 1) := by
          rcases upto_at hv with h | h
          · exact h.1
          · omega
        have hnm : (l.drop (i + 1)).take nm.length = nm := by
          have hx := hv
          unfold Tk.upto at hx
          split at hx
          · injection hx with hx
            injection hx with h1 h2
            have := Lib.index_le (l.drop (i + 1)) [59]
            rw [← h1, List.length_take]
            rw [show min (Lib.index (l.drop (i + 1)) [59]).toNat (l.drop (i + 1)).length = (Lib.index (l.drop (i + 1)) [59]).toNat by omega]
          · cases hx
        have hcut : (Tk.bs l).extract (i + 1) (i + (nm.length + 1)) = Tk.bs nm := by
          rw [bs_cut, show i + (nm.length + 1) - (i + 1) = nm.length by omega, hnm]
        obtain ⟨ke, hke⟩ := entity_told nm (by omega)
        rw [ents_step hu hv]
        cases hen : Tk.entity nm with
        | none =>
          have hv2 : entV nm = ([], false) := by unfold entV; rw [hen]
          rw [hv2] at hke
          refine ⟨kf + ke + 1, ?_⟩
          have f1 := leo_ge (f := fun k => aW_.f k (Tk.bs l) (⟨#[59]⟩ : ByteArray) (i : Int)) (fun k => aW_.mono _ _ _ k) hf1 ke
          have f2 := leo_ge (f := fun k => b0_.f k (Tk.bs nm)) (fun k => b0_.mono _ k) hke kf
          rw [Nat.add_comm ke kf] at f2
          dsimp only at f1 f2
          rw [aU_.l0, hsz, if_pos z1, if_pos z2, HBT.out, if_pos HN.out, f1, Option.bind_some, if_neg hB.1, HW.out, if_pos hB.2.1, if_pos hB.2.2.1, if_pos hB.2.2.2, Int.toNat_natCast, Int.toNat_natCast, hcut, f2]
          rfl
        | some c =>
          have hv2 : entV nm = (c, true) := by unfold entV; rw [hen]
          rw [hv2] at hke
          have hcl := entity_len hen
          obtain ⟨ki, hki⟩ := ih (l.length - (i + 1 + nm.length + 1)) (i + 1 + nm.length + 1) (acc ++ c) n (by omega) (by omega) (by omega) (by rw [List.length_append]; omega)
          refine ⟨kf + ke + ki + 1, ?_⟩
          have f1 := leo_ge (f := fun k => aW_.f k (Tk.bs l) (⟨#[59]⟩ : ByteArray) (i : Int)) (fun k => aW_.mono _ _ _ k) hf1 (ke + ki)
          have f2 := leo_ge (f := fun k => b0_.f k (Tk.bs nm)) (fun k => b0_.mono _ k) hke (kf + ki)
          have f3 := leo_ge (f := fun k => aU_.l0 k (Tk.bs l) (nums1 (acc ++ c)) ((i + 1 + nm.length + 1 : Nat) : Int)) (fun k => aU_.mono_l k _ _ _) hki (kf + ke)
          dsimp only at f1 f2 f3
          rw [show kf + (ke + ki) = kf + ke + ki by omega] at f1
          rw [show ke + (kf + ki) = kf + ke + ki by omega] at f2
          rw [show ki + (kf + ke) = kf + ke + ki by omega] at f3
          have hw2 : wrap64 (((i + (nm.length + 1) : Nat) : Int) + 1) = ((i + 1 + nm.length + 1 : Nat) : Int) := by unfold wrap64; omega
          have hbz := bV_ c
          have hby : dE_ (Tk.bs c) = nums1 c := rfl
          rw [aU_.l0, hsz, if_pos z1, if_pos z2, HBT.out, if_pos HN.out, f1, Option.bind_some, if_neg hB.1, HW.out, if_pos hB.2.1, if_pos hB.2.2.1, if_pos hB.2.2.2, Int.toNat_natCast, Int.toNat_natCast, hcut, f2, Option.bind_some]
          dsimp only
          rw [if_pos rfl, if_pos (by rw [HAL.out, hbz]; exact Nat.lt_of_le_of_lt (Nat.add_le_add_left hcl _) HA.out), hby, ← nums1_append, hw2, f3, hr]
          rw [Option.bind_some]
          cases Tk.ents n (l.drop (i + 1 + nm.length + 1)) with
          | none => rfl
          | some t => simp
    · have hn38 : ¬ ((l[i].toNat : Nat) : Int) = 38 := by
        intro h
        refine h38 ?_
        have : l[i].toNat = (38 : UInt8).toNat := by show _ = 38; omega
        exact UInt8.toNat_inj.1 this
      obtain ⟨k, hk⟩ := ih (d - 1) (i + 1) (acc ++ [l[i]]) (n + 1) (by omega) (by omega) (by omega) (by rw [List.length_append]; simp; omega)
      refine ⟨k + 1, ?_⟩
      have e1 : nums1 acc ++ [((l[i].toNat : Nat) : Int)] = nums1 (acc ++ [l[i]]) := (nums1_append acc [l[i]]).symm
      rw [aU_.l0, hsz, if_pos z1, if_pos z2, HBT.out, if_neg hn38, if_pos (by rw [HAL.out]; exact Nat.lt_of_le_of_lt (Nat.le_add_right _ 4) HA.out), e1, HW.out, hk, hc, ents_cons _ _ _ h38]
      cases Tk.ents (n + 1) (l.drop (i + 1)) with
      | none => rfl
      | some t => simp
theorem entities_told (l : List UInt8) (hl : l.length ≤ 1000000) : ∃ k, aU_.f k (Tk.bs l) = some (Tk.bs (entsV l).1, (entsV l).2) := by
  obtain ⟨k, hk⟩ := entities_loop l hl l.length l.length 0 [] (l.length + 1) (Nat.le_refl _) (by omega) (by omega) (by simp)
  refine ⟨k, hk.trans ?_⟩
  rw [List.drop_zero]
  unfold entsV Tk.entities
  cases Tk.ents (l.length + 1) l with
  | none => rfl
  | some t => rfl
theorem ev_eq {α : Type} {g : Nat → Option α} {r s : α} (h : Ev g r) (e : r = s) : Ev g s := e ▸ h
theorem dI_ {α : Type} {g : Nat → Option α} {r : α} (h : ∀ k, g k = some r) : Ev g r := ⟨0, fun k _ => h k⟩
def place (x l : List UInt8) (p : Nat) : Int := match Tk.upto x (l.drop p) with | some (a, _) => ((p + a.length : Nat) : Int) | none => -1
theorem find_ev (l x : List UInt8) (hl : l.length ≤ 1000000) (hx0 : x ≠ []) (hx : x.length ≤ 100) (p : Nat) (hp : p ≤ l.length) : Ev (fun k => aW_.f k (Tk.bs l) (Tk.bs x) (p : Int)) (place x l p) := by
  obtain ⟨k, hk⟩ := find_loop l x hl hx0 hx (l.length - p) p (by omega)
  exact Ev.of (fun k => aW_.mono _ _ _ k) hk
theorem upto_take {x l a r : List UInt8} (h : Tk.upto x l = some (a, r)) : l.take a.length = a := by
  unfold Tk.upto at h
  split at h
  · injection h with h
    injection h with h1 h2
    have := Lib.index_le l x
    rw [← h1, List.length_take]
    rw [show min (Lib.index l x).toNat l.length = (Lib.index l x).toNat by omega]
  · cases h
theorem upto_rest {x l a r : List UInt8} (h : Tk.upto x l = some (a, r)) : r = l.drop (a.length + x.length) := by
  unfold Tk.upto at h
  split at h
  · injection h with h
    injection h with h1 h2
    have := Lib.index_le l x
    rw [← h2, ← h1, List.length_take]
    rw [show min (Lib.index l x).toNat l.length = (Lib.index l x).toNat by omega]
  · cases h
def uptoR (l x : List UInt8) (p q : Nat) : ByteArray × Bool × ByteArray × Int := match Tk.upto x (l.drop q) with
  | some (a, _) => (Tk.bs a, true, Tk.bs l, ((q + a.length + x.length : Nat) : Int))
  | none => (Tk.bs [], false, Tk.bs l, (p : Int))
theorem upto_ev (l x : List UInt8) (hl : l.length ≤ 1000000) (hx0 : x ≠ []) (hx : x.length ≤ 100) (p q : Nat) (hq : q ≤ l.length) : Ev (fun k => a2_.f k (Tk.bs l) (p : Int) (q : Int) (Tk.bs x)) (uptoR l x p q) := by
  unfold a2_.f uptoR
  refine Ev.bind (find_ev l x hl hx0 hx q hq) ?_
  unfold place
  have hsz := bV_ l
  have hxz := bV_ x
  cases hu : Tk.upto x (l.drop q) with
  | none => exact dI_ fun k => rfl
  | some z =>
    obtain ⟨a, r⟩ := z
    have hs := eA_ hu
    rw [List.length_drop] at hs
    have ht := upto_take hu
    dsimp only
    have hw : wrap64 (((q + a.length : Nat) : Int) + (x.length : Int)) = ((q + a.length + x.length : Nat) : Int) := by unfold wrap64; omega
    refine dI_ fun k => ?_
    rw [hsz, hxz, hw, if_neg (by omega), if_pos (by omega), if_pos (by omega), if_pos (by omega), Int.toNat_natCast, Int.toNat_natCast, bs_cut, show q + a.length - q = a.length by omega, ht]
theorem skip_drop (l : List UInt8) : Tk.skip l = l.drop (l.takeWhile Tk.space).length := by
  unfold Tk.skip
  conv => rhs; arg 2; rw [← List.takeWhile_append_dropWhile (p := Tk.space) (l := l)]
  rw [List.drop_left]
theorem spaces_loop (l : List UInt8) (hl : l.length ≤ 1000000) (p : Nat) : ∀ (d i : Nat), i + d = l.length → p ≤ i → Ev (fun k => aP_.l0 k (p : Int) (Tk.bs l) (i : Int)) ((((i - p + ((l.drop i).takeWhile Tk.space).length : Nat) : Int)), Tk.bs l, ((i + ((l.drop i).takeWhile Tk.space).length : Nat) : Int)) := by
  have hsz := bV_ l
  intro d
  induction d with
  | zero =>
    intro i hi hp
    have hw : wrap64 ((i : Int) - (p : Int)) = ((i - p : Nat) : Int) := by unfold wrap64; omega
    refine Ev.step (f := fun _ => some _) (fun k => ?_) (Ev.now _)
    rw [aP_.l0, hsz, if_neg (by omega), hw, List.drop_eq_nil_of_le (by omega)]
    rfl
  | succ d ih =>
    intro i hi hp
    have hlt : i < l.length := by omega
    have hw : wrap64 ((i : Int) - (p : Int)) = ((i - p : Nat) : Int) := by unfold wrap64; omega
    have hw1 : wrap64 ((i : Int) + 1) = ((i + 1 : Nat) : Int) := by unfold wrap64; omega
    have hc : l.drop i = l[i] :: l.drop (i + 1) := List.drop_eq_getElem_cons hlt
    have hb := bs_bt l i hlt
    cases hsp : Tk.space l[i] with
    | true =>
      refine ev_eq (Ev.step (fun k => ?_) (ih (i + 1) (by omega) (by omega))) ?_
      · rw [aP_.l0, hsz, if_pos (by omega), if_pos (by omega), hb, ref_space, hsp, Option.bind_some, if_pos rfl, hw1]
      · rw [hc, List.takeWhile_cons, if_pos hsp, List.length_cons]
        congr 1
        · congr 1; omega
        · congr 2; omega
    | false =>
      refine Ev.step (f := fun _ => some _) (fun k => ?_) (Ev.now _)
      rw [aP_.l0, hsz, if_pos (by omega), if_pos (by omega), hb, ref_space, hsp, Option.bind_some, if_neg (by decide), hw, hc, List.takeWhile_cons, if_neg (by rw [hsp]; decide)]
      rfl
theorem spaces_ev (l : List UInt8) (hl : l.length ≤ 1000000) (p : Nat) (hp : p ≤ l.length) : Ev (fun k => aP_.f k (Tk.bs l) (p : Int)) (((((l.drop p).takeWhile Tk.space).length : Nat) : Int), Tk.bs l, ((p + ((l.drop p).takeWhile Tk.space).length : Nat) : Int)) := by
  unfold aP_.f
  refine ev_eq (spaces_loop l hl p (l.length - p) p (by omega) (Nat.le_refl _)) ?_
  rw [Nat.sub_self, Nat.zero_add]
theorem head_name (x r : List UInt8) (h : r.takeWhile Tk.within = x) : (if nameB x = true then Tk.bs x else Tk.bs []) = Tk.bs (Tk.head r) := by
  rw [head_tw, h]
  cases x with
  | nil => rfl
  | cons c q =>
    show (if Tk.letter c = true then _ else _) = Tk.bs (if Tk.letter c = true then c :: q else [])
    split <;> rfl
theorem name_loop (l : List UInt8) (hl : l.length ≤ 1000000) (p : Nat) : ∀ (d i : Nat), i + d = l.length → p ≤ i → ((l.drop p).take (i - p)).all Tk.within = true → Ev (fun k => aX_.l0 k (p : Int) (Tk.bs l) (i : Int)) (Tk.bs (Tk.head (l.drop p)), Tk.bs l, ((p + ((l.drop p).takeWhile Tk.within).length : Nat) : Int)) := by
  have hsz := bV_ l
  have last : ∀ i, i ≤ l.length → p ≤ i → (l.drop p).takeWhile Tk.within = (l.drop p).take (i - p) → Ev (fun k => if 0 ≤ (p : Int) then (if (p : Int) ≤ (i : Int) then (if (i : Int) ≤ ((Tk.bs l).size : Int) then ((a3_.f k ((Tk.bs l).extract ((p : Int)).toNat ((i : Int)).toNat)).bind fun t273 => (if t273 = true then (some ((Tk.bs l).extract ((p : Int)).toNat ((i : Int)).toNat, Tk.bs l, (i : Int))) else (some ((⟨#[]⟩ : ByteArray), Tk.bs l, (i : Int))))) else (none)) else (none)) else (none)) (Tk.bs (Tk.head (l.drop p)), Tk.bs l, ((p + ((l.drop p).takeWhile Tk.within).length : Nat) : Int)) := by
    intro i hi hp ht
    have hlen : (l.drop p).length = l.length - p := List.length_drop
    obtain ⟨kn, hkn⟩ := name_told ((l.drop p).take (i - p)) (by rw [List.length_take]; omega) (by rw [← ht]; exact tw_all _)
    have hev := Ev.of (fun k => a3_.mono _ k) hkn
    refine ev_eq (Ev.congr (fun k => ?_) (Ev.bind hev (f := fun _ b => some (if b = true then Tk.bs ((l.drop p).take (i - p)) else Tk.bs [], Tk.bs l, (i : Int))) (Ev.now _))) ?_
    · rw [if_pos (by omega), if_pos (by omega), if_pos (by rw [hsz]; omega), Int.toNat_natCast, Int.toNat_natCast, bs_cut]
      congr 1
      funext b
      cases b <;> rfl
    · rw [head_name _ _ ht, ht, List.length_take, hlen, show p + min (i - p) (l.length - p) = i by omega]
  intro d
  induction d with
  | zero =>
    intro i hi hp ha
    refine Ev.step (fun k => ?_) (last i (by omega) hp ?_)
    · rw [aX_.l0, hsz, if_neg (by omega)]
    · have : (l.drop p).take (i - p) = l.drop p := List.take_of_length_le (by rw [List.length_drop]; omega)
      rw [this] at ha ⊢
      have h2 := List.takeWhile_append_of_pos (p := Tk.within) (l₂ := []) (fun x hx => List.all_eq_true.1 ha x hx)
      simpa using h2
  | succ d ih =>
    intro i hi hp ha
    have hlt : i < l.length := by omega
    have hw1 : wrap64 ((i : Int) + 1) = ((i + 1 : Nat) : Int) := by unfold wrap64; omega
    have hb := bs_bt l i hlt
    have hgi : (l.drop p)[i - p]? = some l[i] := by rw [List.getElem?_drop, show p + (i - p) = i by omega, List.getElem?_eq_getElem hlt]
    cases hsp : Tk.within l[i] with
    | true =>
      refine Ev.step (fun k => ?_) (ih (i + 1) (by omega) (by omega) ?_)
      · rw [aX_.l0, hsz, if_pos (by omega), if_pos (by omega), hb, ref_within, hsp, Option.bind_some, if_pos rfl, hw1]
      · rw [show i + 1 - p = i - p + 1 by omega, List.take_add_one, hgi, List.all_append, ha]
        simp [hsp]
    | false =>
      refine Ev.step (fun k => ?_) (last i (by omega) hp ?_)
      · rw [aX_.l0, hsz, if_pos (by omega), if_pos (by omega), hb, ref_within, hsp, Option.bind_some, if_neg (by decide)]
      · have hd : l.drop p = (l.drop p).take (i - p) ++ l[i] :: l.drop (i + 1) := by
          conv => lhs; rw [← List.take_append_drop (i - p) (l.drop p), List.drop_drop, show p + (i - p) = i by omega, List.drop_eq_getElem_cons hlt]
        conv => lhs; rw [hd]
        rw [List.takeWhile_append_of_pos (fun x hx => List.all_eq_true.1 ha x hx), List.takeWhile_cons, if_neg (by rw [hsp]; decide), List.append_nil]
theorem name_ev (l : List UInt8) (hl : l.length ≤ 1000000) (p : Nat) (hp : p ≤ l.length) : Ev (fun k => aX_.f k (Tk.bs l) (p : Int)) (Tk.bs (Tk.head (l.drop p)), Tk.bs l, ((p + ((l.drop p).takeWhile Tk.within).length : Nat) : Int)) := by
  unfold aX_.f
  exact name_loop l hl p (l.length - p) p (by omega) (Nat.le_refl _) (by rw [Nat.sub_self]; rfl)
theorem d5_ {x m r : List UInt8} (h : Tk.behind x m = some r) : x.isPrefixOf m = true ∧ r = m.drop x.length := by
  unfold Tk.behind at h
  split at h
  · rename_i hp
    injection h with h
    exact ⟨hp, h.symm⟩
  · cases h
theorem d1_ {x m : List UInt8} (h : Tk.behind x m = none) : x.isPrefixOf m = false := by
  unfold Tk.behind at h
  split at h
  · cases h
  · rename_i hp
    exact Bool.eq_false_iff.2 hp
theorem place0 (x a : List UInt8) : (0 ≤ place x a 0) ↔ 0 ≤ Lib.index a x := by
  unfold place
  rw [List.drop_zero]
  unfold Tk.upto
  by_cases h : 0 ≤ Lib.index a x
  · rw [if_pos h]; exact ⟨fun _ => h, fun _ => by dsimp only; omega⟩
  · rw [if_neg h]; exact ⟨fun h2 => absurd h2 (by decide), fun h2 => absurd h2 h⟩
theorem find0_ev (a x : List UInt8) (ha : a.length ≤ 1000000) (hx0 : x ≠ []) (hx : x.length ≤ 100) : Ev (fun k => aW_.f k (Tk.bs a) (Tk.bs x) 0) (place x a 0) := find_ev a x ha hx0 hx 0 (Nat.zero_le _)
theorem ents_ev (a : List UInt8) (ha : a.length ≤ 1000000) : Ev (fun k => aU_.f k (Tk.bs a)) (Tk.bs (entsV a).1, (entsV a).2) := by
  obtain ⟨k, hk⟩ := entities_told a ha
  exact Ev.of (fun k => aU_.mono _ k) hk
theorem ents_some {a v : List UInt8} (h : Tk.entities a = some v) : entsV a = (v, 0) := by unfold entsV; rw [h]
theorem ents_no {a : List UInt8} (h : Tk.entities a = none) : (entsV a).2 = 5 := by unfold entsV; rw [h]
def valueM (q : UInt8) (r : List UInt8) : Option (List UInt8 × List UInt8) := (Tk.upto [q] r).bind fun p => if 0 ≤ Lib.index p.1 [60] then none else (Tk.entities p.1).map fun v => (v, p.2)
theorem value_cons (c : UInt8) (m : List UInt8) : Tk.value (c :: m) = if c = 34 ∨ c = 39 then valueM c m else none := by
  unfold Tk.value valueM
  by_cases h1 : c = 34
  · subst h1
    conv => rhs; rw [if_pos (Or.inl rfl)]
    have e1 : List.isPrefixOf [34] (34 :: m) = true := rfl
    have e2 : Tk.behind [34] (34 :: m) = some m := by unfold Tk.behind; rw [if_pos e1]; rfl
    simp only [e1, if_true, e2, Option.bind_some]
  · have e1 : List.isPrefixOf [34] (c :: m) = false := by simp [List.isPrefixOf, Ne.symm h1]
    simp only [e1, Bool.false_eq_true, if_false]
    by_cases h2 : c = 39
    · subst h2
      conv => rhs; rw [if_pos (Or.inr rfl)]
      have e3 : Tk.behind [39] (39 :: m) = some m := rfl
      simp only [e3, Option.bind_some]
    · rw [if_neg (fun h => h.elim h1 h2)]
      have e3 : List.isPrefixOf [39] (c :: m) = false := by simp [List.isPrefixOf, Ne.symm h2]
      have e4 : Tk.behind [39] (c :: m) = none := by unfold Tk.behind; rw [if_neg (by rw [e3]; decide)]
      rw [e4]; rfl
theorem value_nil : Tk.value [] = none := rfl
theorem bt_is (l : List UInt8) (p : Nat) (h : p < l.length) (c : UInt8) (n : Int) (hn : n = (c.toNat : Int)) : bt (Tk.bs l) (p : Int) = n ↔ l[p] = c := by
  rw [bs_bt l p h, hn]
  constructor
  · intro e; exact UInt8.toNat_inj.1 (by omega)
  · intro e; rw [e]
def ValueTold (l : List UInt8) (p : Nat) : Prop := match Tk.value (l.drop p) with
  | some (v, r) => ∃ p', p' ≤ l.length ∧ l.drop p' = r ∧ Ev (fun k => aO_.f k (Tk.bs l) (p : Int)) (Tk.bs v, true, Tk.bs l, (p' : Int))
  | none => ∃ v b p', Ev (fun k => aO_.f k (Tk.bs l) (p : Int)) (v, false, b, p')
theorem value_ev (l : List UInt8) (hl : l.length ≤ 1000000) (p : Nat) (hp : p ≤ l.length) : ValueTold l p := by
  have hsz := bV_ l
  unfold ValueTold
  by_cases hlt : p < l.length
  · have hc : l.drop p = l[p] :: l.drop (p + 1) := List.drop_eq_getElem_cons hlt
    have b34 := bt_is l p hlt 34 34 rfl
    have b39 := bt_is l p hlt 39 39 rfl
    have hw1 : wrap64 ((p : Int) + 1) = ((p + 1 : Nat) : Int) := by unfold wrap64; omega
    rw [hc, value_cons]
    by_cases hq : l[p] = 34 ∨ l[p] = 39
    · rw [if_pos hq]
      have j0 : ∀ r, Ev (fun k => (a2_.f k (Tk.bs l) (p : Int) ((p + 1 : Nat) : Int) (Tk.bs [l[p]])).bind fun bt321 => (if bt321.2.1 = true then ((aW_.f k bt321.1 (⟨#[60]⟩ : ByteArray) 0).bind fun t325 => (if t325 ≥ 0 then (some ((⟨#[]⟩ : ByteArray), false, bt321.2.2.1, bt321.2.2.2)) else ((aU_.f k bt321.1).bind fun bt326 => (some (bt326.1, (bt326.2 == 0), bt321.2.2.1, bt321.2.2.2))))) else (some ((⟨#[]⟩ : ByteArray), false, bt321.2.2.1, bt321.2.2.2)))) r → Ev (fun k => aO_.f k (Tk.bs l) (p : Int)) r := by
        intro r h
        refine Ev.step (fun k => ?_) h
        have hcut : (Tk.bs l).extract p (p + 1) = Tk.bs [l[p]] := by rw [bs_cut, show p + 1 - p = 1 by omega, hc]; rfl
        have hj : aO_.f (k + 1) (Tk.bs l) (p : Int) = aO_.j0 (k + 1) false (Tk.bs l) (p : Int) := by
          unfold aO_.f
          rw [hsz, if_neg (by omega), if_pos (by omega), if_pos (by omega)]
          by_cases h1 : l[p] = 34
          · rw [if_pos (b34.2 h1)]
          · rw [if_neg (fun h => h1 (b34.1 h)), b39.2 (hq.resolve_left h1)]; rfl
        rw [hj, aO_.j0, hw1, hsz, if_neg (by decide), if_pos (by omega), if_pos (by omega), if_pos (by omega), Int.toNat_natCast, Int.toNat_natCast, hcut]
      have hu := upto_ev l [l[p]] hl (by simp) (by simp) p (p + 1) (by omega)
      unfold uptoR at hu
      unfold valueM
      cases hup : Tk.upto [l[p]] (l.drop (p + 1)) with
      | none =>
        rw [hup] at hu
        exact ⟨⟨#[]⟩, Tk.bs l, (p : Int), j0 _ (Ev.bind hu (dI_ fun k => rfl))⟩
      | some z =>
        obtain ⟨a, r⟩ := z
        rw [hup] at hu
        have hs := eA_ hup
        rw [List.length_drop] at hs
        simp only [List.length_cons, List.length_nil] at hs
        have hr := upto_rest hup
        have ha : a.length ≤ 1000000 := by omega
        rw [Option.bind_some]
        have hf := find0_ev a [60] ha (by simp) (by simp)
        have hf : Ev (fun k => aW_.f k (Tk.bs a) (⟨#[60]⟩ : ByteArray) 0) (place [60] a 0) := hf
        by_cases hix : 0 ≤ Lib.index a [60]
        · rw [if_pos hix]
          have hpl := (place0 [60] a).2 hix
          refine ⟨⟨#[]⟩, Tk.bs l, ((p + 1 + a.length + [l[p]].length : Nat) : Int), j0 _ (Ev.bind hu ?_)⟩
          refine Ev.congr (fun k => if_pos rfl) (Ev.bind hf (dI_ fun k => if_pos hpl))
        · rw [if_neg hix]
          have hpl : ¬ place [60] a 0 ≥ 0 := fun h => hix ((place0 [60] a).1 h)
          have hfin := fun r2 (h : Ev (fun k => (aU_.f k (Tk.bs a)).bind fun bt326 => some (bt326.1, (bt326.2 == 0), Tk.bs l, ((p + 1 + a.length + [l[p]].length : Nat) : Int))) r2) => j0 r2 (Ev.bind hu (Ev.congr (fun k => if_pos rfl) (Ev.bind hf (Ev.congr (fun k => if_neg hpl) h))))
          cases he : Tk.entities a with
          | none =>
            refine ⟨Tk.bs (entsV a).1, Tk.bs l, ((p + 1 + a.length + [l[p]].length : Nat) : Int), hfin _ (ev_eq (Ev.bind (ents_ev a ha) (Ev.now _)) ?_)⟩
            dsimp only
            rw [ents_no he]
            rfl
          | some v =>
            have := ents_some he
            refine ⟨p + 1 + a.length + 1, by omega, ?_, hfin _ (ev_eq (Ev.bind (ents_ev a ha) (Ev.now _)) ?_)⟩
            · rw [hr, List.drop_drop]
              rfl
            · rw [this]; rfl
    · rw [if_neg hq]
      refine ⟨⟨#[]⟩, Tk.bs l, (p : Int), Ev.step (f := fun _ => some _) (fun k => ?_) (Ev.now _)⟩
      unfold aO_.f
      have n39 : (bt (Tk.bs l) (p : Int) != 39) = true := bne_iff_ne.2 fun h => hq (.inr (b39.1 h))
      rw [hsz, if_neg (by omega), if_pos (by omega), if_pos (by omega), if_neg (fun h => hq (.inl (b34.1 h))), n39, aO_.j0, if_pos rfl]
  · rw [List.drop_eq_nil_of_le (by omega), value_nil]
    refine ⟨⟨#[]⟩, Tk.bs l, (p : Int), Ev.step (f := fun _ => some _) (fun k => ?_) (Ev.now _)⟩
    unfold aO_.f
    rw [hsz, if_pos (by omega), aO_.j0, if_pos rfl]
theorem begins_ev (l x : List UInt8) (hl : l.length ≤ 1000000) (hx : x.length ≤ 100) (p : Nat) (hp : p ≤ l.length) : aK_.f (Tk.bs l) (Tk.bs x) (p : Int) = some (x.isPrefixOf (l.drop p)) := begins_f l x hl hx p hp
theorem pre_room {x l : List UInt8} {p : Nat} (h : x.isPrefixOf (l.drop p) = true) : p + x.length ≤ l.length ∨ x = [] := by
  have := (List.isPrefixOf_iff_prefix.1 h).length_le
  rw [List.length_drop] at this
  cases x with
  | nil => exact .inr rfl
  | cons c q => left; simp only [List.length_cons] at this ⊢; omega
def AttrTold (l : List UInt8) (p : Nat) : Prop := match Tk.attr (l.drop p) with
  | some (a, r) => ∃ p', p' ≤ l.length ∧ l.drop p' = r ∧ Ev (fun k => aY_.f k (Tk.bs l) (p : Int)) (a.f0, a.f1, true, Tk.bs l, (p' : Int))
  | none => ∃ n v b p', Ev (fun k => aY_.f k (Tk.bs l) (p : Int)) (n, v, false, b, p')
theorem attr_ev (l : List UInt8) (hl : l.length ≤ 1000000) (p : Nat) (hp : p ≤ l.length) : AttrTold l p := by
  unfold AttrTold Tk.attr
  have hn := name_ev l hl p hp
  have htw := tw_le (p := Tk.within) (l.drop p)
  rw [List.length_drop] at htw
  obtain ⟨n1, hn1⟩ : ∃ n1, n1 = ((l.drop p).takeWhile Tk.within).length := ⟨_, rfl⟩
  rw [← hn1] at hn htw
  have hs := spaces_ev l hl (p + n1) (by omega)
  have htw2 := tw_le (p := Tk.space) (l.drop (p + n1))
  rw [List.length_drop] at htw2
  obtain ⟨n2, hn2⟩ : ∃ n2, n2 = ((l.drop (p + n1)).takeWhile Tk.space).length := ⟨_, rfl⟩
  rw [← hn2] at hs htw2
  have j1 : ∀ r, Ev (fun k => if (Tk.bs (Tk.head (l.drop p))).toList = ([] : List UInt8) then (aY_.j0 k true (Tk.bs l) ((p + n1 + n2 : Nat) : Int) (Tk.bs (Tk.head (l.drop p))) (⟨#[]⟩ : ByteArray)) else ((aK_.f (Tk.bs l) (⟨#[61]⟩ : ByteArray) ((p + n1 + n2 : Nat) : Int)).bind fun t336 => (aY_.j0 k (!t336) (Tk.bs l) ((p + n1 + n2 : Nat) : Int) (Tk.bs (Tk.head (l.drop p))) (⟨#[]⟩ : ByteArray)))) r → Ev (fun k => aY_.f k (Tk.bs l) (p : Int)) r := by
    intro r h
    unfold aY_.f
    exact Ev.bind hn (Ev.bind hs h)
  by_cases hh : Tk.head (l.drop p) = []
  · rw [if_pos hh]
    refine ⟨Tk.bs (Tk.head (l.drop p)), ⟨#[]⟩, Tk.bs l, ((p + n1 + n2 : Nat) : Int), j1 _ (Ev.step (f := fun _ => some _) (fun k => ?_) (Ev.now _))⟩
    rw [if_pos (by rw [dA_, hh]), aY_.j0, if_pos rfl]
  · rw [if_neg hh]
    have hd1 : l.drop (p + n1) = (l.drop p).drop (Tk.head (l.drop p)).length := by rw [List.drop_drop, head_len_tw hh, hn1]
    have hd2 : l.drop (p + n1 + n2) = Tk.skip ((l.drop p).drop (Tk.head (l.drop p)).length) := by rw [skip_drop, ← hd1, List.drop_drop, hn2]
    have hb := begins_ev l [61] hl (by simp) (p + n1 + n2) (by omega)
    rw [← hd2]
    have j2 : ∀ r, Ev (fun k => aY_.j0 k (!List.isPrefixOf [61] (l.drop (p + n1 + n2))) (Tk.bs l) ((p + n1 + n2 : Nat) : Int) (Tk.bs (Tk.head (l.drop p))) (⟨#[]⟩ : ByteArray)) r → Ev (fun k => aY_.f k (Tk.bs l) (p : Int)) r := by
      intro r h
      refine j1 r (Ev.congr (fun k => ?_) h)
      rw [if_neg (by rw [dA_]; exact hh), show (⟨#[61]⟩ : ByteArray) = Tk.bs [61] from rfl, hb, Option.bind_some]
    cases hbe : Tk.behind [61] (l.drop (p + n1 + n2)) with
    | none =>
      have := d1_ hbe
      refine ⟨Tk.bs (Tk.head (l.drop p)), ⟨#[]⟩, Tk.bs l, ((p + n1 + n2 : Nat) : Int), j2 _ (Ev.step (f := fun _ => some _) (fun k => ?_) (Ev.now _))⟩
      rw [this]
      show aY_.j0 (k + 1) true _ _ _ _ = _
      rw [aY_.j0, if_pos rfl]
    | some r0 =>
      obtain ⟨hpre, hr0⟩ := d5_ hbe
      have hroom := (pre_room hpre).resolve_right (by simp)
      simp only [List.length_cons, List.length_nil] at hroom
      have hw1 : wrap64 (((p + n1 + n2 : Nat) : Int) + 1) = ((p + n1 + n2 + 1 : Nat) : Int) := by unfold wrap64; omega
      have hs3 := spaces_ev l hl (p + n1 + n2 + 1) (by omega)
      have htw3 := tw_le (p := Tk.space) (l.drop (p + n1 + n2 + 1))
      rw [List.length_drop] at htw3
      obtain ⟨n3, hn3⟩ : ∃ n3, n3 = ((l.drop (p + n1 + n2 + 1)).takeWhile Tk.space).length := ⟨_, rfl⟩
      rw [← hn3] at hs3 htw3
      have hd3 : l.drop (p + n1 + n2 + 1 + n3) = Tk.skip r0 := by
        have hr0' : r0 = l.drop (p + n1 + n2 + 1) := by rw [hr0, List.drop_drop]; rfl
        rw [skip_drop, hr0', List.drop_drop, ← hn3]
      have hv := value_ev l hl (p + n1 + n2 + 1 + n3) (by omega)
      unfold ValueTold at hv
      rw [hd3] at hv
      rw [Option.bind_some]
      have j3 : ∀ r, Ev (fun k => (aO_.f k (Tk.bs l) ((p + n1 + n2 + 1 + n3 : Nat) : Int)).bind fun bt340 => (some (Tk.bs (Tk.head (l.drop p)), bt340.1, bt340.2.1, bt340.2.2.1, bt340.2.2.2))) r → Ev (fun k => aY_.f k (Tk.bs l) (p : Int)) r := by
        intro r h
        refine j2 r (Ev.step (f := fun k => (aP_.f k (Tk.bs l) ((p + n1 + n2 + 1 : Nat) : Int)).bind fun bt337 => (aO_.f k bt337.2.1 bt337.2.2).bind fun bt340 => some (Tk.bs (Tk.head (l.drop p)), bt340.1, bt340.2.1, bt340.2.2.1, bt340.2.2.2)) (fun k => ?_) (Ev.bind hs3 h))
        rw [hpre]
        show aY_.j0 (k + 1) false _ _ _ _ = _
        rw [aY_.j0, if_neg (by decide), hw1]
      cases hva : Tk.value (Tk.skip r0) with
      | none =>
        rw [hva] at hv
        obtain ⟨v, b, p', hv⟩ := hv
        exact ⟨_, _, _, _, j3 _ (Ev.bind hv (Ev.now _))⟩
      | some z =>
        obtain ⟨v, r⟩ := z
        rw [hva] at hv
        obtain ⟨p', h1, h2, hv⟩ := hv
        exact ⟨p', h1, h2, j3 _ (Ev.bind hv (Ev.now _))⟩
abbrev TokR := Int × ByteArray × ByteArray × List S53 × Bool × Bool × ByteArray × Int
def tokR (l : List UInt8) (t : S45) (p : Nat) : TokR := (t.f0, t.f1, t.f2, t.f3, t.f4, true, Tk.bs l, (p : Int))
def Told (l : List UInt8) (g : Nat → Option TokR) (o : Option (S45 × List UInt8)) : Prop := match o with
  | some (t, r) => ∃ p', p' ≤ l.length ∧ l.drop p' = r ∧ Ev g (tokR l t p')
  | none => ∃ a b c d e s p', Ev g (a, b, c, d, e, false, s, p')
theorem Told.no {l : List UInt8} {g : Nat → Option TokR} {r : TokR} (h : Ev g r) (hr : r.2.2.2.2.2.1 = false) : Told l g none := by
  obtain ⟨a, b, c, d, e, f, s, p⟩ := r
  obtain rfl : f = false := hr
  exact ⟨a, b, c, d, e, s, p, h⟩
theorem Told.imp {l : List UInt8} {g g2 : Nat → Option TokR} {o : Option (S45 × List UInt8)} (h : Told l g o) (hg : ∀ r, Ev g r → Ev g2 r) : Told l g2 o := by
  cases o with
  | none => obtain ⟨a, b, c, d, e, s, p, h⟩ := h; exact ⟨a, b, c, d, e, s, p, hg _ h⟩
  | some z => obtain ⟨p, h1, h2, h⟩ := h; exact ⟨p, h1, h2, hg _ h⟩
theorem dup_loop (l : List UInt8) (q : Int) (nm n v : ByteArray) (ys : List S53) (hy : ys.length ≤ 1000000) (e : Bool) : ∀ (d i : Nat), i + d = ys.length → (ys.take i).any (fun x => x.f0.toList == n.toList) = false → ∀ r, (if ys.any (fun x => x.f0.toList == n.toList) then Ev (fun _ => some (1, nm, (⟨#[]⟩ : ByteArray), ys, e, false, Tk.bs l, q)) r else Ev (fun k => aT_.l0 k (Tk.bs l) q 1 nm (⟨#[]⟩ : ByteArray) (ys ++ [⟨n, v⟩]) e) r) → Ev (fun k => aT_.l1 k (i : Int) (Tk.bs l) q 1 nm (⟨#[]⟩ : ByteArray) ys e n v) r := by
  intro d
  induction d with
  | zero =>
    intro i hi ha r h
    rw [List.take_of_length_le (by omega)] at ha
    rw [ha, if_neg (by decide)] at h
    refine Ev.step (fun k => ?_) h
    rw [aT_.l1, if_neg (by omega), if_pos (by omega)]
  | succ d ih =>
    intro i hi ha r h
    have hlt : i < ys.length := by omega
    have hw1 : wrap64 ((i : Int) + 1) = ((i + 1 : Nat) : Int) := by unfold wrap64; omega
    have hrd : cN_ ys (i : Int) = ys[i] := by unfold cN_; rw [Int.toNat_natCast]; simp [List.getD, hlt]
    by_cases hn : (ys[i].f0.toList == n.toList) = true
    · have hany : ys.any (fun x => x.f0.toList == n.toList) = true := List.any_eq_true.2 ⟨ys[i], List.getElem_mem hlt, hn⟩
      rw [hany, if_pos rfl] at h
      refine Ev.step (fun k => ?_) h
      rw [aT_.l1, if_pos (by omega), if_pos (by omega), hrd, if_pos (beq_iff_eq.1 hn)]
    · refine Ev.step (fun k => ?_) (ih (i + 1) (by omega) ?_ r h)
      · rw [aT_.l1, if_pos (by omega), if_pos (by omega), hrd, if_neg (fun h2 => hn (beq_iff_eq.2 h2)), hw1]
      · rw [List.take_add_one, List.any_append, ha, List.getElem?_eq_getElem hlt]
        simpa using hn
theorem attrs_ev (l : List UInt8) (hl : l.length ≤ 1000000) (nm : List UInt8) (hnm : nm ≠ []) : ∀ (n p : Nat) (ys : List S53), p ≤ l.length → l.length - p < n → ys.length ≤ p → Told l (fun k => aT_.l0 k (Tk.bs l) (p : Int) 1 (Tk.bs nm) (⟨#[]⟩ : ByteArray) ys false) (Tk.attrs n nm ys (l.drop p)) := by
  intro n
  induction n with
  | zero => intro p ys _ h; omega
  | succ n ih =>
    intro p ys hp hn hys
    have hs := spaces_ev l hl p hp
    have htw := tw_le (p := Tk.space) (l.drop p)
    rw [List.length_drop] at htw
    obtain ⟨n2, hn2⟩ : ∃ n2, n2 = ((l.drop p).takeWhile Tk.space).length := ⟨_, rfl⟩
    rw [← hn2] at hs htw
    have hd : Tk.skip (l.drop p) = l.drop (p + n2) := by rw [skip_drop, List.drop_drop, hn2]
    have hb1 := begins_ev l [62] hl (by simp) (p + n2) (by omega)
    have hb2 := begins_ev l [47, 62] hl (by simp) (p + n2) (by omega)
    have hb1 : aK_.f (Tk.bs l) (⟨#[62]⟩ : ByteArray) ((p + n2 : Nat) : Int) = _ := hb1
    have hb2 : aK_.f (Tk.bs l) (⟨#[47, 62]⟩ : ByteArray) ((p + n2 : Nat) : Int) = _ := hb2
    have j1 : ∀ r, Ev (fun k => (aK_.f (Tk.bs l) (⟨#[62]⟩ : ByteArray) ((p + n2 : Nat) : Int)).bind fun t352 => (if t352 = true then (some (1, Tk.bs nm, (⟨#[]⟩ : ByteArray), ys, false, true, Tk.bs l, wrap64 (((p + n2 : Nat) : Int) + 1))) else ((aK_.f (Tk.bs l) (⟨#[47, 62]⟩ : ByteArray) ((p + n2 : Nat) : Int)).bind fun t353 => (if t353 = true then (some (1, Tk.bs nm, (⟨#[]⟩ : ByteArray), ys, true, true, Tk.bs l, wrap64 (((p + n2 : Nat) : Int) + 2))) else (if (n2 : Int) = 0 then (some (1, Tk.bs nm, (⟨#[]⟩ : ByteArray), ys, false, false, Tk.bs l, ((p + n2 : Nat) : Int))) else ((aY_.f k (Tk.bs l) ((p + n2 : Nat) : Int)).bind fun bt354 => (if bt354.2.2.1 = true then (aT_.l1 k 0 bt354.2.2.2.1 bt354.2.2.2.2 1 (Tk.bs nm) (⟨#[]⟩ : ByteArray) ys false bt354.1 bt354.2.1) else (some (1, Tk.bs nm, (⟨#[]⟩ : ByteArray), ys, false, false, bt354.2.2.2.1, bt354.2.2.2.2))))))))) r → Ev (fun k => aT_.l0 k (Tk.bs l) (p : Int) 1 (Tk.bs nm) (⟨#[]⟩ : ByteArray) ys false) r := by
      intro r h
      refine Ev.step (f := fun k => (aP_.f k (Tk.bs l) (p : Int)).bind fun bt349 => ((aK_.f bt349.2.1 (⟨#[62]⟩ : ByteArray) bt349.2.2).bind fun t352 => (if t352 = true then (some (1, Tk.bs nm, (⟨#[]⟩ : ByteArray), ys, false, true, bt349.2.1, wrap64 (bt349.2.2 + 1))) else ((aK_.f bt349.2.1 (⟨#[47, 62]⟩ : ByteArray) bt349.2.2).bind fun t353 => (if t353 = true then (some (1, Tk.bs nm, (⟨#[]⟩ : ByteArray), ys, true, true, bt349.2.1, wrap64 (bt349.2.2 + 2))) else (if bt349.1 = 0 then (some (1, Tk.bs nm, (⟨#[]⟩ : ByteArray), ys, false, false, bt349.2.1, bt349.2.2)) else ((aY_.f k bt349.2.1 bt349.2.2).bind fun bt354 => (if bt354.2.2.1 = true then (aT_.l1 k 0 bt354.2.2.2.1 bt354.2.2.2.2 1 (Tk.bs nm) (⟨#[]⟩ : ByteArray) ys false bt354.1 bt354.2.1) else (some (1, Tk.bs nm, (⟨#[]⟩ : ByteArray), ys, false, false, bt354.2.2.2.1, bt354.2.2.2.2)))))))))) (fun k => ?_) (Ev.bind hs h)
      rw [aT_.l0, if_neg (by rw [dA_]; exact hnm)]
    rw [Tk.attrs]
    (try dsimp only)
    rw [hd]
    cases h1 : Tk.behind [62] (l.drop (p + n2)) with
    | some r =>
      obtain ⟨hpre, hr⟩ := d5_ h1
      have hroom := (pre_room hpre).resolve_right (by simp)
      simp only [List.length_cons, List.length_nil] at hroom
      have hw1 : wrap64 (((p + n2 : Nat) : Int) + 1) = ((p + n2 + 1 : Nat) : Int) := by unfold wrap64; omega
      refine ⟨p + n2 + 1, by omega, ?_, j1 _ (dI_ fun k => ?_)⟩
      · rw [hr, List.drop_drop]; rfl
      · rw [hb1, hpre, Option.bind_some, if_pos rfl, hw1]; rfl
    | none =>
      have hpre := d1_ h1
      dsimp only
      cases h2 : Tk.behind [47, 62] (l.drop (p + n2)) with
      | some r =>
        obtain ⟨hpre2, hr⟩ := d5_ h2
        have hroom := (pre_room hpre2).resolve_right (by simp)
        simp only [List.length_cons, List.length_nil] at hroom
        have hw1 : wrap64 (((p + n2 : Nat) : Int) + 2) = ((p + n2 + 2 : Nat) : Int) := by unfold wrap64; omega
        refine ⟨p + n2 + 2, by omega, ?_, j1 _ (dI_ fun k => ?_)⟩
        · rw [hr, List.drop_drop]; rfl
        · rw [hb1, hpre, Option.bind_some, if_neg (by decide), hb2, hpre2, Option.bind_some, if_pos rfl, hw1]; rfl
      | none =>
        have hpre2 := d1_ h2
        dsimp only
        by_cases hz : n2 = 0
        · rw [if_pos (by rw [hz, Nat.add_zero])]
          refine Told.no (r := (1, Tk.bs nm, (⟨#[]⟩ : ByteArray), ys, false, false, Tk.bs l, ((p + n2 : Nat) : Int))) (j1 _ (dI_ fun k => ?_)) rfl
          rw [hb1, hpre, Option.bind_some, if_neg (by decide), hb2, hpre2, Option.bind_some, if_neg (by decide), if_pos (by omega)]
        · rw [if_neg (by rw [List.length_drop, List.length_drop]; omega)]
          have j2 : ∀ r, Ev (fun k => (aY_.f k (Tk.bs l) ((p + n2 : Nat) : Int)).bind fun bt354 => (if bt354.2.2.1 = true then (aT_.l1 k 0 bt354.2.2.2.1 bt354.2.2.2.2 1 (Tk.bs nm) (⟨#[]⟩ : ByteArray) ys false bt354.1 bt354.2.1) else (some (1, Tk.bs nm, (⟨#[]⟩ : ByteArray), ys, false, false, bt354.2.2.2.1, bt354.2.2.2.2)))) r → Ev (fun k => aT_.l0 k (Tk.bs l) (p : Int) 1 (Tk.bs nm) (⟨#[]⟩ : ByteArray) ys false) r := by
            intro r h
            refine j1 r (Ev.congr (fun k => ?_) h)
            rw [hb1, hpre, Option.bind_some, if_neg (by decide), hb2, hpre2, Option.bind_some, if_neg (by decide), if_neg (by omega)]
          have ha := attr_ev l hl (p + n2) (by omega)
          unfold AttrTold at ha
          cases hat : Tk.attr (l.drop (p + n2)) with
          | none =>
            rw [hat] at ha
            obtain ⟨x, v, b, p', ha⟩ := ha
            refine Told.no (r := (1, Tk.bs nm, (⟨#[]⟩ : ByteArray), ys, false, false, b, p')) (j2 _ (Ev.bind ha (dI_ fun k => rfl))) rfl
          | some z =>
            obtain ⟨a, r⟩ := z
            rw [hat] at ha
            obtain ⟨p', hp1, hp2, ha⟩ := ha
            have hlen := attr_len hat
            rw [← hp2, List.length_drop, List.length_drop] at hlen
            rw [Option.bind_some]
            dsimp only
            have hdup := dup_loop l (p' : Int) (Tk.bs nm) a.f0 a.f1 ys (by omega) false ys.length 0 (by omega) (by rw [List.take_zero]; rfl)
            have j3 : ∀ r, Ev (fun k => aT_.l1 k ((0 : Nat) : Int) (Tk.bs l) (p' : Int) 1 (Tk.bs nm) (⟨#[]⟩ : ByteArray) ys false a.f0 a.f1) r → Ev (fun k => aT_.l0 k (Tk.bs l) (p : Int) 1 (Tk.bs nm) (⟨#[]⟩ : ByteArray) ys false) r := fun r h => j2 r (Ev.bind ha (Ev.congr (fun k => if_pos rfl) h))
            by_cases hany : ys.any (fun x => x.f0.toList == a.f0.toList) = true
            · rw [if_pos hany]
              refine Told.no (r := (1, Tk.bs nm, (⟨#[]⟩ : ByteArray), ys, false, false, Tk.bs l, (p' : Int))) (j3 _ (hdup _ ?_)) rfl
              rw [if_pos hany]
              exact Ev.now _
            · rw [if_neg hany, ← hp2]
              refine (ih p' (ys ++ [a]) hp1 (by omega) (by rw [List.length_append, List.length_singleton]; omega)).imp fun r h => j3 r (hdup r ?_)
              rw [if_neg hany]
              exact h
theorem open_ev (l : List UInt8) (hl : l.length ≤ 1000000) (p : Nat) (hp : p + 1 ≤ l.length) : Told l (fun k => aT_.f k (Tk.bs l) (p : Int)) (Tk.opening (l.drop (p + 1))) := by
  have hw1 : wrap64 ((p : Int) + 1) = ((p + 1 : Nat) : Int) := by unfold wrap64; omega
  have hn := name_ev l hl (p + 1) hp
  have htw := tw_le (p := Tk.within) (l.drop (p + 1))
  rw [List.length_drop] at htw
  have j0 : ∀ r, Ev (fun k => aT_.l0 k (Tk.bs l) ((p + 1 + ((l.drop (p + 1)).takeWhile Tk.within).length : Nat) : Int) 1 (Tk.bs (Tk.head (l.drop (p + 1)))) (⟨#[]⟩ : ByteArray) ([] : List S53) false) r → Ev (fun k => aT_.f k (Tk.bs l) (p : Int)) r := by
    intro r h
    unfold aT_.f
    rw [hw1]
    exact Ev.bind hn h
  unfold Tk.opening
  by_cases hh : Tk.head (l.drop (p + 1)) = []
  · rw [if_pos hh]
    refine Told.no (r := (1, Tk.bs (Tk.head (l.drop (p + 1))), (⟨#[]⟩ : ByteArray), ([] : List S53), false, false, Tk.bs l, ((p + 1 + ((l.drop (p + 1)).takeWhile Tk.within).length : Nat) : Int))) (j0 _ (Ev.step (f := fun _ => some _) (fun k => ?_) (Ev.now _))) rfl
    rw [aT_.l0, if_pos (by rw [dA_, hh])]
  · rw [if_neg hh]
    have hd1 : (l.drop (p + 1)).drop (Tk.head (l.drop (p + 1))).length = l.drop (p + 1 + ((l.drop (p + 1)).takeWhile Tk.within).length) := by rw [List.drop_drop, head_len_tw hh]
    rw [hd1]
    exact (attrs_ev l hl _ hh _ _ [] (by omega) (by rw [List.length_drop]; omega) (Nat.zero_le _)).imp j0
theorem closing_ev (l : List UInt8) (hl : l.length ≤ 1000000) (p : Nat) (hp : p + 2 ≤ l.length) : Told l (fun k => bI_.f k (Tk.bs l) (p : Int)) (Tk.close (l.drop (p + 2))) := by
  have hw1 : wrap64 ((p : Int) + 2) = ((p + 2 : Nat) : Int) := by unfold wrap64; omega
  have hn := name_ev l hl (p + 2) hp
  have htw := tw_le (p := Tk.within) (l.drop (p + 2))
  rw [List.length_drop] at htw
  obtain ⟨n1, hn1⟩ : ∃ n1, n1 = ((l.drop (p + 2)).takeWhile Tk.within).length := ⟨_, rfl⟩
  rw [← hn1] at hn htw
  have hs := spaces_ev l hl (p + 2 + n1) (by omega)
  have htw2 := tw_le (p := Tk.space) (l.drop (p + 2 + n1))
  rw [List.length_drop] at htw2
  obtain ⟨n2, hn2⟩ : ∃ n2, n2 = ((l.drop (p + 2 + n1)).takeWhile Tk.space).length := ⟨_, rfl⟩
  rw [← hn2] at hs htw2
  have hb := begins_ev l [62] hl (by simp) (p + 2 + n1 + n2) (by omega)
  have hb : aK_.f (Tk.bs l) (⟨#[62]⟩ : ByteArray) ((p + 2 + n1 + n2 : Nat) : Int) = _ := hb
  have j0 : ∀ r, Ev (fun k => (if (Tk.bs (Tk.head (l.drop (p + 2)))).toList = ([] : List UInt8) then (some (2, Tk.bs (Tk.head (l.drop (p + 2))), (⟨#[]⟩ : ByteArray), ([] : List S53), false, false, Tk.bs l, ((p + 2 + n1 + n2 : Nat) : Int))) else ((aK_.f (Tk.bs l) (⟨#[62]⟩ : ByteArray) ((p + 2 + n1 + n2 : Nat) : Int)).bind fun t284 => (if t284 = true then (some (2, Tk.bs (Tk.head (l.drop (p + 2))), (⟨#[]⟩ : ByteArray), ([] : List S53), false, true, Tk.bs l, wrap64 (((p + 2 + n1 + n2 : Nat) : Int) + 1))) else (some (2, Tk.bs (Tk.head (l.drop (p + 2))), (⟨#[]⟩ : ByteArray), ([] : List S53), false, false, Tk.bs l, ((p + 2 + n1 + n2 : Nat) : Int))))))) r → Ev (fun k => bI_.f k (Tk.bs l) (p : Int)) r := by
    intro r h
    unfold bI_.f
    rw [hw1]
    exact Ev.bind hn (Ev.bind hs h)
  unfold Tk.close
  by_cases hh : Tk.head (l.drop (p + 2)) = []
  · rw [if_pos hh]
    exact Told.no (j0 _ (dI_ fun k => if_pos (by rw [dA_, hh]))) rfl
  · rw [if_neg hh]
    have hd1 : l.drop (p + 2 + n1) = (l.drop (p + 2)).drop (Tk.head (l.drop (p + 2))).length := by rw [List.drop_drop, head_len_tw hh, hn1]
    have hd2 : l.drop (p + 2 + n1 + n2) = Tk.skip ((l.drop (p + 2)).drop (Tk.head (l.drop (p + 2))).length) := by rw [skip_drop, ← hd1, List.drop_drop, hn2]
    rw [← hd2]
    cases hbe : Tk.behind [62] (l.drop (p + 2 + n1 + n2)) with
    | none =>
      have hpre := d1_ hbe
      refine Told.no (r := (2, Tk.bs (Tk.head (l.drop (p + 2))), (⟨#[]⟩ : ByteArray), ([] : List S53), false, false, Tk.bs l, ((p + 2 + n1 + n2 : Nat) : Int))) (j0 _ (dI_ fun k => ?_)) rfl
      rw [if_neg (by rw [dA_]; exact hh), hb, hpre, Option.bind_some, if_neg (by decide)]
    | some r =>
      obtain ⟨hpre, hr⟩ := d5_ hbe
      have hroom := (pre_room hpre).resolve_right (by simp)
      simp only [List.length_cons, List.length_nil] at hroom
      have hw2 : wrap64 (((p + 2 + n1 + n2 : Nat) : Int) + 1) = ((p + 2 + n1 + n2 + 1 : Nat) : Int) := by unfold wrap64; omega
      refine ⟨p + 2 + n1 + n2 + 1, by omega, ?_, j0 _ (dI_ fun k => ?_)⟩
      · rw [hr, List.drop_drop]; rfl
      · rw [if_neg (by rw [dA_]; exact hh), hb, hpre, Option.bind_some, if_pos rfl, hw2]; rfl
theorem suffix1 (a : List UInt8) (c : UInt8) (i : Nat) (hi : i < a.length) (he : i + 1 = a.length) : Lib.hasSuffix a [c] = (a[i] == c) := by
  have h1 : [c].length ≤ a.length := by simp only [List.length_cons, List.length_nil]; omega
  have h2 : a.length - [c].length = i := by simp only [List.length_cons, List.length_nil]; omega
  rw [← Lib.hasSuffix_of_drop, decide_eq_true h1, Bool.true_and, h2, List.drop_eq_getElem_cons hi, List.drop_eq_nil_of_le (by omega)]
  by_cases hx : a[i] = c
  · rw [hx]; simp
  · have : (a[i] == c) = false := by simpa using hx
    rw [this]
    simpa using hx
theorem comment_ev (l : List UInt8) (hl : l.length ≤ 1000000) (p : Nat) (hp : p + 4 ≤ l.length) : Told l (fun k => a4_.f k (Tk.bs l) (p : Int)) (Tk.comment (l.drop (p + 4))) := by
  have hw1 : wrap64 ((p : Int) + 4) = ((p + 4 : Nat) : Int) := by unfold wrap64; omega
  have hu := upto_ev l [45, 45, 62] hl (by simp) (by simp) p (p + 4) hp
  unfold uptoR at hu
  unfold Tk.comment
  have j0 : ∀ r, Ev (fun k => (a2_.f k (Tk.bs l) (p : Int) ((p + 4 : Nat) : Int) (Tk.bs [45, 45, 62])).bind fun bt263 => (if bt263.2.1 = true then ((aW_.f k bt263.1 (⟨#[45, 45]⟩ : ByteArray) 0).bind fun t267 => (if t267 < 0 then (if (bt263.1.size : Int) = 0 then (some (4, (⟨#[]⟩ : ByteArray), bt263.1, ([] : List S53), false, true, bt263.2.2.1, bt263.2.2.2)) else (if 0 ≤ (wrap64 ((bt263.1.size : Int) - 1)) then (if (wrap64 ((bt263.1.size : Int) - 1)) < (bt263.1.size : Int) then (some (4, (⟨#[]⟩ : ByteArray), bt263.1, ([] : List S53), false, ((bt bt263.1 (wrap64 ((bt263.1.size : Int) - 1))) != 45), bt263.2.2.1, bt263.2.2.2)) else (none)) else (none))) else (some (4, (⟨#[]⟩ : ByteArray), bt263.1, ([] : List S53), false, false, bt263.2.2.1, bt263.2.2.2)))) else (some (4, (⟨#[]⟩ : ByteArray), bt263.1, ([] : List S53), false, false, bt263.2.2.1, bt263.2.2.2)))) r → Ev (fun k => a4_.f k (Tk.bs l) (p : Int)) r := by
    intro r h
    unfold a4_.f
    rw [hw1]
    exact h
  cases hup : Tk.upto [45, 45, 62] (l.drop (p + 4)) with
  | none =>
    rw [hup] at hu
    exact Told.no (r := (4, (⟨#[]⟩ : ByteArray), Tk.bs [], ([] : List S53), false, false, Tk.bs l, (p : Int))) (j0 _ (Ev.bind hu (dI_ fun k => rfl))) rfl
  | some z =>
    obtain ⟨a, r⟩ := z
    rw [hup] at hu
    have hs := eA_ hup
    rw [List.length_drop] at hs
    simp only [List.length_cons, List.length_nil] at hs
    have hr := upto_rest hup
    have ha : a.length ≤ 1000000 := by omega
    have hf : Ev (fun k => aW_.f k (Tk.bs a) (⟨#[45, 45]⟩ : ByteArray) 0) (place [45, 45] a 0) := find0_ev a [45, 45] ha (by simp) (by simp)
    rw [Option.bind_some]
    dsimp only
    by_cases hix : 0 ≤ Lib.index a [45, 45]
    · rw [if_pos (.inl hix)]
      have hpl := (place0 [45, 45] a).2 hix
      exact Told.no (r := (4, (⟨#[]⟩ : ByteArray), Tk.bs a, ([] : List S53), false, false, Tk.bs l, ((p + 4 + a.length + [45, 45, 62].length : Nat) : Int))) (j0 _ (Ev.bind hu (Ev.congr (fun k => if_pos rfl) (Ev.bind hf (dI_ fun k => if_neg (by omega)))))) rfl
    · have hpl : place [45, 45] a 0 < 0 := Int.not_le.1 (fun h => hix ((place0 [45, 45] a).1 h))
      have hsz := bV_ a
      have j1 : ∀ r, Ev (fun _ => (if ((Tk.bs a).size : Int) = 0 then (some (4, (⟨#[]⟩ : ByteArray), Tk.bs a, ([] : List S53), false, true, Tk.bs l, ((p + 4 + a.length + [45, 45, 62].length : Nat) : Int))) else (if 0 ≤ (wrap64 (((Tk.bs a).size : Int) - 1)) then (if (wrap64 (((Tk.bs a).size : Int) - 1)) < ((Tk.bs a).size : Int) then (some (4, (⟨#[]⟩ : ByteArray), Tk.bs a, ([] : List S53), false, ((bt (Tk.bs a) (wrap64 (((Tk.bs a).size : Int) - 1))) != 45), Tk.bs l, ((p + 4 + a.length + [45, 45, 62].length : Nat) : Int))) else (none)) else (none)))) r → Ev (fun k => a4_.f k (Tk.bs l) (p : Int)) r := by
        intro r h
        refine j0 r (Ev.bind hu (Ev.congr (fun k => if_pos rfl) (Ev.bind hf (Ev.congr (fun k => if_pos hpl) h))))
      have hpos : ∀ (b : Bool), Ev (fun k => a4_.f k (Tk.bs l) (p : Int)) (4, (⟨#[]⟩ : ByteArray), Tk.bs a, ([] : List S53), false, true, Tk.bs l, ((p + 4 + a.length + [45, 45, 62].length : Nat) : Int)) → Told l (fun k => a4_.f k (Tk.bs l) (p : Int)) (some (Tk.tk 4 [] a [] false, r)) := by
        intro _ h
        exact ⟨p + 4 + a.length + 3, by omega, by rw [hr, List.drop_drop]; rfl, h⟩
      by_cases h0 : a = []
      · rw [if_neg (fun h => h.elim hix (fun h => by rw [h0] at h; cases h))]
        refine hpos true (j1 _ (dI_ fun k => ?_))
        rw [if_pos (by rw [hsz, h0]; rfl)]
      · have hlen : 0 < a.length := by cases a with | nil => exact absurd rfl h0 | cons _ _ => simp
        have hw2 : wrap64 ((a.length : Int) - 1) = ((a.length - 1 : Nat) : Int) := by unfold wrap64; omega
        have hb := bs_bt a (a.length - 1) (by omega)
        have hsx := suffix1 a 45 (a.length - 1) (by omega) (by omega)
        have j2 : Ev (fun k => a4_.f k (Tk.bs l) (p : Int)) (4, (⟨#[]⟩ : ByteArray), Tk.bs a, ([] : List S53), false, ((a[a.length - 1].toNat : Int) != 45), Tk.bs l, ((p + 4 + a.length + [45, 45, 62].length : Nat) : Int)) := by
          refine j1 _ (dI_ fun k => ?_)
          rw [hsz, if_neg (by omega), hw2, if_pos (by omega), if_pos (by omega), hb]
        by_cases hc : a[a.length - 1] = 45
        · rw [if_pos (.inr (by rw [hsx, hc]; rfl))]
          rw [hc] at j2
          exact Told.no j2 rfl
        · rw [if_neg (fun h => h.elim hix (fun h => hc (by rw [hsx] at h; exact beq_iff_eq.1 h)))]
          have hne : ((a[a.length - 1].toNat : Int) != 45) = true := bne_iff_ne.2 fun h => hc (UInt8.toNat_inj.1 (show a[a.length - 1].toNat = (45 : UInt8).toNat by show _ = 45; omega))
          rw [hne] at j2
          exact hpos true j2
theorem upto60 : ∀ m : List UInt8, Tk.upto [60] m = if (m.takeWhile (· != 60)).length < m.length then some (m.takeWhile (· != 60), m.drop ((m.takeWhile (· != 60)).length + 1)) else none
  | [] => rfl
  | c :: m => by
    have ih := upto60 m
    by_cases hc : c = 60
    · subst hc
      rw [upto_cons_eq, List.takeWhile_cons]
      simp
    · have h2 : (c != 60) = true := by simpa using hc
      rw [upto_cons_ne 60 c m hc, ih, List.takeWhile_cons, if_pos h2]
      simp only [List.length_cons]
      by_cases hl : (m.takeWhile (· != 60)).length < m.length
      · rw [if_pos hl, if_pos (by omega)]; rfl
      · rw [if_neg hl, if_neg (by omega)]; rfl
theorem next_ev (l : List UInt8) (hl : l.length ≤ 1000000) (p : Nat) (hp : p < l.length) : Told l (fun k => aR_.f k (Tk.bs l) (p : Int)) (Tk.next (decide (p = 0)) (l.drop p)) := by
  have hsz := bV_ l
  have hb := fun x hx => begins_ev l x hl hx p (by omega)
  have b1 : aK_.f (Tk.bs l) (⟨#[60, 33, 45, 45]⟩ : ByteArray) (p : Int) = _ := hb [60, 33, 45, 45] (by simp)
  have b2 : aK_.f (Tk.bs l) (⟨#[60, 33, 91, 67, 68, 65, 84, 65, 91]⟩ : ByteArray) (p : Int) = _ := hb [60, 33, 91, 67, 68, 65, 84, 65, 91] (by simp)
  have b3 : aK_.f (Tk.bs l) (⟨#[60, 63]⟩ : ByteArray) (p : Int) = _ := hb [60, 63] (by simp)
  have b4 : aK_.f (Tk.bs l) (⟨#[60, 47]⟩ : ByteArray) (p : Int) = _ := hb [60, 47] (by simp)
  have b5 : aK_.f (Tk.bs l) (⟨#[60]⟩ : ByteArray) (p : Int) = _ := hb [60] (by simp)
  unfold Tk.next
  cases h1 : Tk.behind [60, 33, 45, 45] (l.drop p) with
  | some r =>
    obtain ⟨hpre, hr⟩ := d5_ h1
    have hroom := (pre_room hpre).resolve_right (by simp)
    simp only [List.length_cons, List.length_nil] at hroom
    have hr' : r = l.drop (p + 4) := by rw [hr, List.drop_drop]; rfl
    dsimp only
    rw [hr']
    refine (comment_ev l hl p (by omega)).imp fun r h => Ev.congr (f := fun k => (a4_.f k (Tk.bs l) (p : Int)).bind fun b => some b) (fun k => ?_) (Ev.bind h (Ev.now _))
    unfold aR_.f
    rw [b1, hpre]
    rfl
  | none =>
  have p1 := d1_ h1
  dsimp only
  cases h2 : Tk.behind [60, 33, 91, 67, 68, 65, 84, 65, 91] (l.drop p) with
  | some r =>
    obtain ⟨hpre, hr⟩ := d5_ h2
    have hroom := (pre_room hpre).resolve_right (by simp)
    simp only [List.length_cons, List.length_nil] at hroom
    have hr' : r = l.drop (p + 9) := by rw [hr, List.drop_drop]; rfl
    dsimp only
    rw [hr']
    have hw : wrap64 ((p : Int) + 9) = ((p + 9 : Nat) : Int) := by unfold wrap64; omega
    have hu := upto_ev l [93, 93, 62] hl (by simp) (by simp) p (p + 9) (by omega)
    have hu : Ev (fun k => a2_.f k (Tk.bs l) (p : Int) ((p + 9 : Nat) : Int) (⟨#[93, 93, 62]⟩ : ByteArray)) _ := hu
    unfold uptoR at hu
    have j0 : ∀ r, Ev (fun k => ((a2_.f k (Tk.bs l) (p : Int) ((p + 9 : Nat) : Int) (⟨#[93, 93, 62]⟩ : ByteArray)).bind fun bt377 => (some (3, (⟨#[]⟩ : ByteArray), bt377.1, ([] : List S53), false, bt377.2.1, bt377.2.2.1, bt377.2.2.2)))) r → Ev (fun k => aR_.f k (Tk.bs l) (p : Int)) r := by
      intro r h
      unfold aR_.f
      rw [b1, p1, b2, hpre, hw]
      exact h
    unfold Tk.data
    cases hup : Tk.upto [93, 93, 62] (l.drop (p + 9)) with
    | none =>
      rw [hup] at hu
      exact Told.no (j0 _ (Ev.bind hu (Ev.now _))) rfl
    | some z =>
      obtain ⟨a, r2⟩ := z
      rw [hup] at hu
      have hs := eA_ hup
      rw [List.length_drop] at hs
      simp only [List.length_cons, List.length_nil] at hs
      refine ⟨p + 9 + a.length + 3, by omega, ?_, j0 _ (Ev.bind hu (Ev.now _))⟩
      rw [upto_rest hup, List.drop_drop]; rfl
  | none =>
  have p2 := d1_ h2
  dsimp only
  cases h3 : Tk.behind [60, 63] (l.drop p) with
  | some r =>
    obtain ⟨hpre, hr⟩ := d5_ h3
    have hroom := (pre_room hpre).resolve_right (by simp)
    simp only [List.length_cons, List.length_nil] at hroom
    have hr' : r = l.drop (p + 2) := by rw [hr, List.drop_drop]; rfl
    dsimp only
    rw [hr']
    have hw : wrap64 ((p : Int) + 2) = ((p + 2 : Nat) : Int) := by unfold wrap64; omega
    have hu := upto_ev l [63, 62] hl (by simp) (by simp) p (p + 2) (by omega)
    have hu : Ev (fun k => a2_.f k (Tk.bs l) (p : Int) ((p + 2 : Nat) : Int) (⟨#[63, 62]⟩ : ByteArray)) _ := hu
    unfold uptoR at hu
    have j0 : ∀ r, Ev (fun k => ((a2_.f k (Tk.bs l) (p : Int) ((p + 2 : Nat) : Int) (⟨#[63, 62]⟩ : ByteArray)).bind fun bt382 => (if bt382.2.1 = true then (some (5, (⟨#[]⟩ : ByteArray), bt382.1, ([] : List S53), false, ((p : Int) == 0), bt382.2.2.1, bt382.2.2.2)) else (some (5, (⟨#[]⟩ : ByteArray), bt382.1, ([] : List S53), false, false, bt382.2.2.1, bt382.2.2.2))))) r → Ev (fun k => aR_.f k (Tk.bs l) (p : Int)) r := by
      intro r h
      unfold aR_.f
      rw [b1, p1, b2, p2, b3, hpre, hw]
      exact h
    unfold Tk.prolog
    cases hup : Tk.upto [63, 62] (l.drop (p + 2)) with
    | none =>
      rw [hup] at hu
      exact Told.no (r := (5, (⟨#[]⟩ : ByteArray), Tk.bs [], ([] : List S53), false, false, Tk.bs l, (p : Int))) (j0 _ (Ev.bind hu (dI_ fun k => rfl))) rfl
    | some z =>
      obtain ⟨a, r2⟩ := z
      rw [hup] at hu
      have hs := eA_ hup
      rw [List.length_drop] at hs
      simp only [List.length_cons, List.length_nil] at hs
      have j1 : Ev (fun k => aR_.f k (Tk.bs l) (p : Int)) (5, (⟨#[]⟩ : ByteArray), Tk.bs a, ([] : List S53), false, ((p : Int) == 0), Tk.bs l, ((p + 2 + a.length + [63, 62].length : Nat) : Int)) := j0 _ (Ev.bind hu (dI_ fun k => if_pos rfl))
      rw [Option.bind_some]
      by_cases h0 : p = 0
      · rw [if_pos (decide_eq_true h0)]
        have e : ((p : Int) == 0) = true := beq_iff_eq.2 (by omega)
        rw [e] at j1
        refine ⟨p + 2 + a.length + 2, by omega, ?_, j1⟩
        rw [upto_rest hup, List.drop_drop]; rfl
      · rw [if_neg (by rw [decide_eq_false h0]; decide)]
        have e : ((p : Int) == 0) = false := beq_eq_false_iff_ne.2 (by omega)
        rw [e] at j1
        exact Told.no j1 rfl
  | none =>
  have p3 := d1_ h3
  dsimp only
  cases h4 : Tk.behind [60, 47] (l.drop p) with
  | some r =>
    obtain ⟨hpre, hr⟩ := d5_ h4
    have hroom := (pre_room hpre).resolve_right (by simp)
    simp only [List.length_cons, List.length_nil] at hroom
    have hr' : r = l.drop (p + 2) := by rw [hr, List.drop_drop]; rfl
    dsimp only
    rw [hr']
    refine (closing_ev l hl p (by omega)).imp fun r h => Ev.congr (f := fun k => (bI_.f k (Tk.bs l) (p : Int)).bind fun b => some b) (fun k => ?_) (Ev.bind h (Ev.now _))
    unfold aR_.f
    rw [b1, p1, b2, p2, b3, p3, b4, hpre]
    rfl
  | none =>
  have p4 := d1_ h4
  dsimp only
  cases h5 : Tk.behind [60] (l.drop p) with
  | some r =>
    obtain ⟨hpre, hr⟩ := d5_ h5
    have hroom := (pre_room hpre).resolve_right (by simp)
    simp only [List.length_cons, List.length_nil] at hroom
    have hr' : r = l.drop (p + 1) := by rw [hr, List.drop_drop]; rfl
    dsimp only
    rw [hr']
    refine (open_ev l hl p (by omega)).imp fun r h => Ev.congr (f := fun k => (aT_.f k (Tk.bs l) (p : Int)).bind fun b => some b) (fun k => ?_) (Ev.bind h (Ev.now _))
    unfold aR_.f
    rw [b1, p1, b2, p2, b3, p3, b4, p4, b5, hpre]
    rfl
  | none =>
  have p5 := d1_ h5
  dsimp only
  have hf : Ev (fun k => aW_.f k (Tk.bs l) (⟨#[60]⟩ : ByteArray) (p : Int)) (place [60] l p) := find_ev l [60] hl (by simp) (by simp) p (by omega)
  have j0 : ∀ r, Ev (fun k => ((aW_.f k (Tk.bs l) (⟨#[60]⟩ : ByteArray) (p : Int)).bind fun t408 => (if t408 < 0 then (if 0 ≤ (p : Int) then (if (p : Int) ≤ ((Tk.bs l).size : Int) then (if ((Tk.bs l).size : Int) ≤ ((Tk.bs l).size : Int) then ((aU_.f k ((Tk.bs l).extract ((p : Int)).toNat (((Tk.bs l).size : Int)).toNat)).bind fun bt409 => (some (3, (⟨#[]⟩ : ByteArray), bt409.1, ([] : List S53), false, (bt409.2 == 0), Tk.bs l, ((Tk.bs l).size : Int)))) else (none)) else (none)) else (none)) else (if 0 ≤ (p : Int) then (if (p : Int) ≤ t408 then (if t408 ≤ ((Tk.bs l).size : Int) then ((aU_.f k ((Tk.bs l).extract ((p : Int)).toNat (t408 : Int).toNat)).bind fun bt411 => (some (3, (⟨#[]⟩ : ByteArray), bt411.1, ([] : List S53), false, (bt411.2 == 0), Tk.bs l, t408))) else (none)) else (none)) else (none))))) r → Ev (fun k => aR_.f k (Tk.bs l) (p : Int)) r := by
    intro r h
    unfold aR_.f
    rw [b1, p1, b2, p2, b3, p3, b4, p4, b5, p5]
    exact h
  have htl := tw_le (p := fun x => x != 60) (l.drop p)
  rw [List.length_drop] at htl
  have htt := tw_take (p := fun x => x != 60) (l.drop p)
  have hu60 := upto60 (l.drop p)
  unfold place at hf
  rw [hu60] at hf
  unfold Tk.text
  obtain ⟨t, ht⟩ : ∃ t, t = (l.drop p).takeWhile (· != 60) := ⟨_, rfl⟩
  rw [← ht] at hf htl htt ⊢
  have j1 : ∀ r, Ev (fun k => (aU_.f k (Tk.bs t)).bind fun bt409 => some (3, (⟨#[]⟩ : ByteArray), bt409.1, ([] : List S53), false, (bt409.2 == 0), Tk.bs l, ((p + t.length : Nat) : Int))) r → Ev (fun k => aR_.f k (Tk.bs l) (p : Int)) r := by
    intro r h
    refine j0 r (Ev.bind hf (Ev.congr (fun k => ?_) h))
    by_cases hlt : t.length < (l.drop p).length
    · rw [if_pos hlt]
      dsimp only
      rw [hsz, if_neg (by omega), if_pos (by omega), if_pos (by omega), if_pos (by omega), Int.toNat_natCast, Int.toNat_natCast, bs_cut, show p + t.length - p = t.length by omega, htt]
    · rw [if_neg hlt]
      dsimp only
      rw [List.length_drop] at hlt
      rw [hsz, if_pos (by decide), if_pos (by omega), if_pos (by omega), if_pos (by omega), Int.toNat_natCast, Int.toNat_natCast, bs_cut, show p + t.length = l.length by omega, show l.length - p = t.length by omega, htt]
  have hlen : t.length ≤ 1000000 := by omega
  have hev := ents_ev t hlen
  dsimp only
  cases he : Tk.entities t with
  | none =>
    refine Told.no (j1 _ (Ev.bind hev (Ev.now _))) ?_
    dsimp only
    rw [ents_no he]; rfl
  | some v =>
    rw [ents_some he] at hev
    refine ⟨p + t.length, by omega, ?_, j1 _ (Ev.bind hev (Ev.now _))⟩
    rw [List.drop_drop]
theorem all_loop (l : List UInt8) (hl : l.length ≤ 1000000) : ∀ (d i : Nat), i + d = l.length → (l.take i).any (fun c => !Tk.allowed c) = false → Ev (fun k => bN_.l0 k (Tk.bs l) (i : Int)) (!l.any (fun c => !Tk.allowed c)) := by
  have hsz := bV_ l
  have hal : ∀ c : UInt8, c8_.f (c.toNat : Int) = some (Tk.allowed c) := fun c => Tk.bytes_all (by kernel_rfl) c
  intro d
  induction d with
  | zero =>
    intro i hi ha
    rw [List.take_of_length_le (by omega)] at ha
    rw [ha]
    refine Ev.step (f := fun _ => some _) (fun k => ?_) (Ev.now _)
    rw [bN_.l0, hsz, if_neg (by omega)]; rfl
  | succ d ih =>
    intro i hi ha
    have hlt : i < l.length := by omega
    have hw1 : wrap64 ((i : Int) + 1) = ((i + 1 : Nat) : Int) := by unfold wrap64; omega
    have hb := bs_bt l i hlt
    cases hc : Tk.allowed l[i] with
    | true =>
      refine Ev.step (fun k => ?_) (ih (i + 1) (by omega) ?_)
      · rw [bN_.l0, hsz, if_pos (by omega), if_pos (by omega), hb, hal, hc, Option.bind_some, if_pos rfl, hw1]
      · rw [List.take_add_one, List.any_append, ha, List.getElem?_eq_getElem hlt]
        simp [hc]
    | false =>
      have hany : l.any (fun c => !Tk.allowed c) = true := List.any_eq_true.2 ⟨l[i], List.getElem_mem hlt, by rw [hc]; rfl⟩
      rw [hany]
      refine Ev.step (f := fun _ => some _) (fun k => ?_) (Ev.now _)
      rw [bN_.l0, hsz, if_pos (by omega), if_pos (by omega), hb, hal, hc, Option.bind_some, if_neg (by decide)]; rfl
theorem pieces_ev (l : List UInt8) (hl : l.length ≤ 20000) : ∀ (n p : Nat) (L : List S45), p ≤ l.length → l.length - p < n → L.length ≤ p → Ev (fun k => bB_.l0 k (Tk.bs l) (Tk.bs l) L (p : Int)) (match Tk.pieces n (decide (p = 0)) (l.drop p) with | some t => (L ++ t, 0) | none => ([], 5)) := by
  have hsz := bV_ l
  intro n
  induction n with
  | zero => intro p L _ h; omega
  | succ n ih =>
    intro p L hp hn hL
    rw [Tk.pieces]
    by_cases hlt : p < l.length
    · have hne : l.drop p ≠ [] := fun e => by have := congrArg List.length e; rw [List.length_drop] at this; simp only [List.length_nil] at this; omega
      rw [if_neg hne]
      have hx := next_ev l (by omega) p hlt
      unfold Told at hx
      have j0 : ∀ r, Ev (fun k => (aR_.f k (Tk.bs l) (p : Int)).bind fun r => if r.2.2.2.2.2.1 = true then (if L.length ≤ 100000 then bB_.l0 k (Tk.bs l) r.2.2.2.2.2.2.1 (L ++ [⟨r.1, r.2.1, r.2.2.1, r.2.2.2.1, r.2.2.2.2.1⟩]) r.2.2.2.2.2.2.2 else none) else some ([], 5)) r → Ev (fun k => bB_.l0 k (Tk.bs l) (Tk.bs l) L (p : Int)) r := by
        intro r h
        refine Ev.step (fun k => ?_) h
        rw [bB_.l0, hsz, if_pos (by omega)]
      cases hnx : Tk.next (decide (p = 0)) (l.drop p) with
      | none =>
        rw [hnx] at hx
        obtain ⟨a, b, c, d, e, s, p', hx⟩ := hx
        exact j0 _ (Ev.bind hx (dI_ fun k => rfl))
      | some z =>
        obtain ⟨t, r⟩ := z
        rw [hnx] at hx
        obtain ⟨p', h1, h2, hx⟩ := hx
        have hln := next_len hne hnx
        rw [← h2, List.length_drop, List.length_drop] at hln
        have hi := ih p' (L ++ [t]) h1 (by omega) (by rw [List.length_append, List.length_singleton]; omega)
        have hp0 : decide (p' = 0) = false := decide_eq_false (by omega)
        rw [hp0, h2] at hi
        rw [Option.bind_some]
        refine ev_eq (j0 _ (Ev.bind hx (Ev.congr (fun k => (if_pos rfl).trans (if_pos (show L.length ≤ 100000 by omega))) hi))) ?_
        dsimp only
        cases Tk.pieces n false r with
        | none => rfl
        | some ts => simp
    · rw [if_pos (List.drop_eq_nil_of_le (by omega))]
      refine Ev.step (f := fun _ => some _) (fun k => ?_) (Ev.now _)
      rw [bB_.l0, hsz, if_neg (by omega)]
      simp
theorem ref_split (l : List UInt8) : Ev (fun k => bB_.f k (Tk.bs l)) (Tk.split l) := by
  unfold bB_.f Tk.split
  have hsz := bV_ l
  by_cases hb : 20000 < l.length
  · rw [if_pos hb]
    exact dI_ fun k => if_pos (by rw [hsz]; exact hb)
  · rw [if_neg hb]
    have ha : Ev (fun k => bN_.f k (Tk.bs l)) (!l.any (fun c => !Tk.allowed c)) := all_loop l (by omega) l.length 0 (by omega) (by rw [List.take_zero]; rfl)
    refine Ev.congr (fun k => if_neg (by rw [hsz]; exact hb)) ?_
    by_cases hbad : l.any (fun c => !Tk.allowed c) = true
    · rw [if_pos hbad]
      rw [hbad] at ha
      exact Ev.bind ha (dI_ fun k => rfl)
    · rw [if_neg hbad]
      rw [Bool.eq_false_iff.2 hbad] at ha
      have := pieces_ev l (by omega) (l.length + 1) 0 [] (Nat.zero_le _) (by omega) (Nat.le_refl _)
      rw [List.drop_zero, decide_eq_true rfl] at this
      refine ev_eq (Ev.bind ha (Ev.congr (fun k => if_pos rfl) this)) ?_
      show _ = match Tk.pieces (l.length + 1) true l with | some t => (t, (0 : Int)) | none => ([], 5)
      cases Tk.pieces (l.length + 1) true l with
      | none => rfl
      | some t => simp
end Go.Proofs.YtkoogebfdinbnaaGreat.Pure
namespace Go.Proofs.YtkoogebfdinbnaaGreat.Pure
open Go Go.RowKit Go.Proofs.YtkoogebfdinbnaaGreat.Q Go.Proofs.YtkoogebfdinbnaaGreatW.PrintWords Go.Proofs.YtkoogebfdinbnaaGreatW.PrintLast Go.Proofs.YtkoogebfdinbnaaGreatW.Own Go.Proofs.YtkoogebfdinbnaaGreatW.PrintMore
set_option linter.unusedSimpArgs false
set_option linter.unusedVariables false
theorem Ans.ev {α : Type} {f : Nat → Option α} {v : α} (h : Ev f v) : Ans f v := h
theorem nul_list (b : ByteArray) : (b.toList = ([] : List UInt8)) = (b = El.nul) := by
  have h := cY_ b
  apply propext
  constructor
  · intro e
    rw [e] at h
    exact of_decide_eq_true h.symm
  · intro e
    rw [decide_eq_true e] at h
    exact List.isEmpty_iff.1 h
theorem attr_self (ys : List S53) (hy : ys.length ≤ 10000000) : Ans (fun k => c9_.f k ys ys) true := by
  have loop : ∀ (d i : Nat), i + d = ys.length → Ans (fun k => bP_.l0 k ys ys (i : Int)) true := by
    intro d
    induction d with
    | zero =>
      intro i hi
      refine Ans.succ (g := fun _ => some true) (Ans.now fun _ => rfl) fun k => ?_
      rw [bP_.l0, if_neg (by omega)]
    | succ d ih =>
      intro i hi
      refine Ans.succ (ih (i + 1) (by omega)) fun k => ?_
      rw [bP_.l0, if_pos (by omega), if_pos (by omega), if_pos (by omega), api_Attr_1.f, Option.bind_some, if_pos (by simp), w1 i (by omega)]
  have h := loop ys.length 0 (by omega)
  have h2 : Ans (fun k => bP_.f k ys ys) true := by
    unfold bP_.f
    simp only [if_true]
    exact h
  unfold c9_.f
  exact Ans.bind h2 (Ans.now fun _ => rfl)
theorem node_self (l : List Nd) (hl : l.length ≤ 1000000) (ha : ∀ n ∈ l, n.f3.length ≤ 10000000) : Ans (fun k => bX_.f k l l) true := by
  have loop : ∀ (d i : Nat), i + d = l.length → Ans (fun k => bX_.l0 k l l (i : Int)) true := by
    intro d
    induction d with
    | zero =>
      intro i hi
      refine Ans.succ (g := fun _ => some true) (Ans.now fun _ => rfl) fun k => ?_
      rw [bX_.l0, if_neg (by omega)]
    | succ d ih =>
      intro i hi
      have hlt : i < l.length := by omega
      have h1 := attr_self l[i].f3 (ha _ (List.getElem_mem hlt))
      have h2 : Ans (fun k => cI_.f k l[i].f0 l[i].f1 l[i].f2 l[i].f3 l[i].f0 l[i].f1 l[i].f2 l[i].f3) true := by
        unfold cI_.f
        simp only [if_true]
        exact Ans.bind h1 (Ans.now fun _ => rfl)
      refine Ans.succ (g := fun k => (cI_.f k l[i].f0 l[i].f1 l[i].f2 l[i].f3 l[i].f0 l[i].f1 l[i].f2 l[i].f3).bind fun t => if t = true then bX_.l0 k l l ((i + 1 : Nat) : Int) else some false) (Ans.bind h2 ?_) fun k => ?_
      · simp only [if_true]; exact ih (i + 1) (by omega)
      · rw [bX_.l0, if_pos (by omega), if_pos (by omega), if_pos (by omega), rd_nd l i hlt, w1 i (by omega)]
  have h := loop l.length 0 (by omega)
  unfold bX_.f
  simp only [if_true]
  exact h
theorem ints_self (ys : List Int) (hy : ys.length ≤ 10000000) : Ans (fun k => bW_.f k ys ys) true := by
  have loop : ∀ (d i : Nat), i + d = ys.length → Ans (fun k => a5_.l0 k ys ys (i : Int)) true := by
    intro d
    induction d with
    | zero =>
      intro i hi
      refine Ans.succ (g := fun _ => some true) (Ans.now fun _ => rfl) fun k => ?_
      rw [a5_.l0, if_neg (by omega)]
    | succ d ih =>
      intro i hi
      refine Ans.succ (ih (i + 1) (by omega)) fun k => ?_
      rw [a5_.l0, if_pos (by omega), if_pos (by omega), if_pos (by omega), w1 i (by omega)]
      simp [cU_.f]
  have h := loop ys.length 0 (by omega)
  have h2 : Ans (fun k => a5_.f k ys ys) true := by
    unfold a5_.f
    simp only [if_true]
    exact h
  unfold bW_.f
  exact Ans.bind h2 (Ans.now fun _ => rfl)
theorem take_few {m : Nat} {l : List Nd} {op : List Int} (h : ∀ n ∈ l, n.f3.length ≤ m) (t : El.Tok) (hl : t.f3.length ≤ m) (s : El.St) (ht : El.take l op t = .ok s) : ∀ n ∈ s.1, n.f3.length ≤ m := by
  have putd : ∀ (n : Nd), n.f3.length ≤ m → ∀ x ∈ l ++ [n], x.f3.length ≤ m := fun n hn x hx => by
    rcases List.mem_append.1 hx with hx | hx
    · exact h x hx
    · rw [List.mem_singleton] at hx; rw [hx]; exact hn
  unfold El.take at ht
  split at ht
  · injection ht with ht; rw [← ht]; exact h
  split at ht
  · injection ht with ht; rw [← ht]; exact h
  split at ht
  · unfold El.begin_ at ht
    split at ht
    · cases ht
    split at ht
    · cases ht
    split at ht
    · cases ht
    split at ht
    · cases ht
    · rename_i l' hp
      injection ht with ht
      rw [← ht, (put_some hp).1]
      exact putd _ hl
  split at ht
  · unfold El.end_ at ht
    split at ht
    · cases ht
    split at ht
    · injection ht with ht; rw [← ht]; exact h
    · cases ht
  split at ht
  · unfold El.text at ht
    split at ht
    · split at ht
      · injection ht with ht; rw [← ht]; exact h
      · cases ht
    split at ht
    · injection ht with ht; rw [← ht]; exact h
    split at ht
    · rename_i k hlk
      have hkl := El.lastI_lt l _ k hlk
      split at ht
      · injection ht with ht
        rw [← ht]
        intro x hx
        rcases List.mem_or_eq_of_mem_set hx with hx | hx
        · exact h x hx
        · have hm : l.getD k El.zn ∈ l := by rw [List.getD_eq_getElem?_getD, List.getElem?_eq_getElem hkl]; exact List.getElem_mem hkl
          rw [hx]
          have hz := h _ hm
          exact hz
      · split at ht
        · cases ht
        · rename_i l' hp
          injection ht with ht
          rw [← ht, (put_some hp).1]
          exact putd _ (Nat.zero_le _)
    · split at ht
      · cases ht
      · rename_i l' hp
        injection ht with ht
        rw [← ht, (put_some hp).1]
        exact putd _ (Nat.zero_le _)
  · cases ht
theorem all_few {m : Nat} : ∀ (ts : List El.Tok) (l : List Nd) (op : List Int) (s : El.St), (∀ t ∈ ts, t.f3.length ≤ m) → (∀ n ∈ l, n.f3.length ≤ m) → El.all l op ts = .ok s → ∀ n ∈ s.1, n.f3.length ≤ m
  | [], l, op, s, _, h, ha => by
    injection ha with ha
    rw [← ha]; exact h
  | t :: ts, l, op, s, hk, h, ha => by
    rw [El.all] at ha
    cases ht : El.take l op t with
    | error e => rw [ht] at ha; cases ha
    | ok s1 =>
      rw [ht] at ha
      exact all_few ts s1.1 s1.2 s (fun x hx => hk x (List.mem_cons_of_mem _ hx)) (take_few h t (hk t List.mem_cons_self) s1 ht) ha
theorem tree_self (ts : List El.Tok) (m : Nat) (hm : m ≤ 10000000) (h : ∀ t ∈ ts, t.f3.length ≤ m) : Ans (fun k => bX_.f k (El.tree ts).1 (El.tree ts).1) true := by
  have hb : (El.tree ts).1.length ≤ 2000 ∧ ∀ n ∈ (El.tree ts).1, n.f3.length ≤ m := by
    unfold El.tree
    cases ha : El.all [] [] ts with
    | error e => exact ⟨Nat.zero_le _, fun n hn => absurd hn (by simp)⟩
    | ok s =>
      simp only
      split
      · exact ⟨Nat.zero_le _, fun n hn => absurd hn (by simp)⟩
      · exact ⟨all_len ts [] [] s (Nat.zero_le _) ha, all_few ts [] [] s h (fun n hn => absurd hn (by simp)) ha⟩
  exact node_self _ (by omega) (fun n hn => Nat.le_trans (hb.2 n hn) hm)
theorem parse_self (s : List UInt8) (hs : s.length ≤ 5000) : Ans (fun k => bX_.f k (parseL s).1 (parseL s).1) true := by
  unfold parseL
  split
  · exact tree_self _ 5000 (by omega) (fun t ht => Nat.le_trans ((split_few s).2 t ht).1 hs)
  · exact node_self [] (Nat.zero_le _) (fun n hn => absurd hn (by simp))
theorem tree_ref (ts : List El.Tok) (h : El.fits ts = true) : cQ_.f ts = some (El.tree ts) ∧ cG_.f ts = some (El.tree ts) := by
  unfold cQ_.f cG_.f
  simp only [if_pos h]
  exact ⟨trivial, trivial⟩
theorem parse_ref (a : ByteArray) (ha : a.size ≤ 5000) : Ans (fun k => cC_.f k a) (parseL a.data.toList) := by
  have hz := bV_ a.data.toList
  rw [bs_data] at hz
  have hs := Ans.ev (ref_split a.data.toList)
  rw [bs_data] at hs
  unfold cC_.f
  refine Ans.bind hs ?_
  unfold parseL
  by_cases h0 : (Tk.split a.data.toList).2 = 0
  · simp only [if_pos h0]
    rw [(tree_ref _ (split_fits _ (by omega))).2]
    exact Ans.now fun _ => rfl
  · simp only [if_neg h0]
    exact Ans.now fun _ => rfl
theorem rkids_loop (l : List Nd) (hl : l.length ≤ 100000) (i : Int) : ∀ (d j : Nat) (acc : List Int), j + d = l.length → acc.length ≤ j →
    Ans (fun k => a1_.l0 k l i acc (j : Int)) (acc ++ (if 0 ≤ i ∧ i < (l.length : Int) then kidsF j (l.drop j) i else [])) := by
  intro d
  induction d with
  | zero =>
    intro j acc h _
    refine Ans.succ (g := fun k => a1_.j1 k l i acc (j : Int) false) (Ans.succ (g := fun _ => some acc) ?_ fun k => ?_) fun k => ?_
    · rw [List.drop_eq_nil_of_le (by omega)]
      simp only [kidsF, ite_self, List.append_nil]
      exact Ans.now fun _ => rfl
    · rw [a1_.j1, if_neg (by decide)]
    · rw [a1_.l0, if_neg (by omega)]
  | succ d ih =>
    intro j acc h hacc
    have hj : j < l.length := by omega
    have hd : l.drop j = l[j] :: l.drop (j + 1) := List.drop_eq_getElem_cons hj
    by_cases h0 : 0 ≤ i ∧ i < (l.length : Int)
    · rw [if_pos h0, hd, kidsF]
      by_cases hp : l[j].f0 = i
      · have := ih (j + 1) (acc ++ [(j : Int)]) (by omega) (by rw [List.length_append, List.length_singleton]; omega)
        rw [if_pos h0] at this
        rw [if_pos hp]
        rw [List.append_assoc] at this
        refine Ans.succ (g := fun k => a1_.j1 k l i acc (j : Int) true) (Ans.succ this fun k => ?_) fun k => ?_
        · rw [a1_.j1, if_pos rfl, if_pos (by omega), if_pos (by omega), rd_nd l j hj, if_pos hp, if_pos (by omega), w1 j (by omega)]
        · rw [a1_.l0, if_pos (by omega), if_pos h0.1, decide_eq_true h0.2]
      · have := ih (j + 1) acc (by omega) (by omega)
        rw [if_pos h0] at this
        rw [if_neg hp]
        refine Ans.succ (g := fun k => a1_.j1 k l i acc (j : Int) true) (Ans.succ this fun k => ?_) fun k => ?_
        · rw [a1_.j1, if_pos rfl, if_pos (by omega), if_pos (by omega), rd_nd l j hj, if_neg hp, w1 j (by omega)]
        · rw [a1_.l0, if_pos (by omega), if_pos h0.1, decide_eq_true h0.2]
    · rw [if_neg h0, List.append_nil]
      refine Ans.succ (g := fun k => a1_.j1 k l i acc (j : Int) false) (Ans.succ (g := fun _ => some acc) (Ans.now fun _ => rfl) fun k => ?_) fun k => ?_
      · rw [a1_.j1, if_neg (by decide)]
      · rw [a1_.l0, if_pos (by omega)]
        by_cases ha : i ≥ 0
        · rw [if_pos ha, decide_eq_false (by omega)]
        · rw [if_neg ha]
theorem rkids_told (l : List Nd) (hl : l.length ≤ 100000) (i : Int) : Ans (fun k => a1_.f k l i) (kidsL l i) := by
  have := rkids_loop l hl i l.length 0 [] (by omega) (by simp)
  rw [List.nil_append, List.drop_zero] at this
  exact this
theorem kidsL_mem {l : List Nd} {i x : Int} (h : x ∈ kidsL l i) : 0 ≤ x ∧ x < (l.length : Int) := by
  unfold kidsL at h
  split at h
  · obtain ⟨j, e, n, hn, _⟩ := kidsF_mem l 0 i x h
    have hj : j < l.length := (List.getElem?_eq_some_iff.1 hn).1
    omega
  · exact absurd h (by simp)
theorem kidsL_few (l : List Nd) (i : Int) : (kidsL l i).length ≤ l.length := by
  unfold kidsL
  split
  · rw [kidsF_len]; exact List.countP_le_length
  · exact Nat.zero_le _
theorem room_le (l : List Nd) (m : Nat) (hm : ∀ n ∈ l, n.f2.size ≤ m) (ks : List Int) (hk : ∀ x ∈ ks, 0 ≤ x ∧ x < (l.length : Int)) : El.room l ks ≤ ks.length * m := by
  induction ks with
  | nil => exact Nat.zero_le _
  | cons x ks ih =>
    have h1 := hk x List.mem_cons_self
    have h2 := ih (fun y hy => hk y (List.mem_cons_of_mem _ hy))
    have h3 : (bD_ l x).f2.size ≤ m := by
      obtain ⟨n, rfl⟩ := Int.eq_ofNat_of_zero_le h1.1
      rw [rd_nd l n (by omega)]
      exact hm _ (List.getElem_mem (by omega))
    unfold El.room at h2 ⊢
    rw [List.map_cons, List.sum_cons, List.length_cons, Nat.succ_mul]
    omega
theorem inner_same (l : List Nd) (hl : l.length ≤ 100) (hm : ∀ n ∈ l, n.f2.size ≤ 10000000) (i : Int) : ∃ s, Ans (fun k => b3_.f k l i) s ∧ Ans (fun k => bE_.f k l i) s := by
  have hk : ∀ x ∈ kidsL l i, 0 ≤ x ∧ x < (l.length : Int) := fun x hx => kidsL_mem hx
  have hf := kidsL_few l i
  have hr := room_le l 10000000 hm (kidsL l i) hk
  have hr2 : El.room l (kidsL l i) ≤ 1000000000 := Nat.le_trans hr (by omega)
  refine ⟨El.gather l (kidsL l i), ?_, ?_⟩
  · unfold b3_.f
    refine Ans.bind (kids_told l (by omega) i) (Ans.now fun _ => ?_)
    rw [if_pos ⟨hk, by omega, by omega⟩]
  · unfold bE_.f
    refine Ans.bind (rkids_told l (by omega) i) ?_
    have loop : ∀ (d j : Nat), j + d = (kidsL l i).length → Ans (fun k => bE_.l0 k l (El.gather l ((kidsL l i).take j)) (kidsL l i) (j : Int)) (El.gather l (kidsL l i)) := by
      intro d
      induction d with
      | zero =>
        intro j hj
        refine Ans.succ (g := fun _ => some (El.gather l (kidsL l i))) (Ans.now fun _ => rfl) fun k => ?_
        rw [bE_.l0, if_neg (by omega), List.take_of_length_le (by omega)]
      | succ d ih =>
        intro j hj
        have hlt : j < (kidsL l i).length := by omega
        have hx := hk _ (List.getElem_mem hlt)
        have er := rd_ints (kidsL l i) j hlt
        have hsz := room_take l (kidsL l i) j hlt
        have hgs := gather_size l ((kidsL l i).take j)
        have hg : El.gather l ((kidsL l i).take (j + 1)) = if (bD_ l (kidsL l i)[j]).f1 = El.nul then El.gather l ((kidsL l i).take j) ++ (bD_ l (kidsL l i)[j]).f2 else El.gather l ((kidsL l i).take j) := by
          rw [List.take_succ_eq_append_getElem hlt, gather_snoc]
        have ih2 := ih (j + 1) (by omega)
        rw [hg] at ih2
        by_cases hn : (bD_ l (kidsL l i)[j]).f1 = El.nul
        · rw [if_pos hn] at ih2
          refine Ans.succ ih2 fun k => ?_
          rw [bE_.l0, if_pos (by omega), if_pos (by omega), er, if_pos hx.1, if_pos hx.2, if_pos (by rw [nul_list]; exact hn), if_pos (by omega), w1 j (by omega)]
        · rw [if_neg hn] at ih2
          refine Ans.succ ih2 fun k => ?_
          rw [bE_.l0, if_pos (by omega), if_pos (by omega), er, if_pos hx.1, if_pos hx.2, if_neg (by rw [nul_list]; exact hn), w1 j (by omega)]
    have := loop (kidsL l i).length 0 (by omega)
    exact this
theorem sumOf_mem {α : Type} (f : α → Nat) (l : List α) (x : α) (h : x ∈ l) : f x ≤ Rd.sumOf f l := by
  unfold Rd.sumOf
  induction l with
  | nil => exact absurd h (by simp)
  | cons y l ih =>
    rw [List.map_cons, List.sum_cons]
    rcases List.mem_cons.1 h with rfl | h
    · omega
    · have := ih h; omega
theorem sumOf_len {α : Type} (f : α → Nat) (l : List α) (h : ∀ x, 1 ≤ f x) : l.length ≤ Rd.sumOf f l := by
  unfold Rd.sumOf
  induction l with
  | nil => exact Nat.zero_le _
  | cons y l ih =>
    rw [List.map_cons, List.sum_cons, List.length_cons]
    have := h y
    omega
theorem sumOf_le {α : Type} (f g : α → Nat) (l : List α) (h : ∀ x, f x ≤ g x) : (l.map f).sum ≤ Rd.sumOf g l := by
  unfold Rd.sumOf
  induction l with
  | nil => exact Nat.le_refl _
  | cons y l ih =>
    rw [List.map_cons, List.sum_cons, List.map_cons, List.sum_cons]
    have := h y
    omega
theorem ElementTellsUpto : a8_.PureUpto := by
  intro l0 a1 l2 a3 _ _ _ _ hb
  apply Ans.there
  have hb0 : Rd.sumOf (fun x_ => bulk45 x_) l0 ≤ 1048576 := by omega
  have hb2 : Rd.sumOf (fun x_ => bulk32 x_) l2 ≤ 1048576 := by omega
  have ht : ∀ t ∈ l0, t.f3.length ≤ 1000000 := fun t htm => by
    have h1 := sumOf_mem (fun x_ => bulk45 x_) l0 t htm
    have h2 := sumOf_len (fun x_ => bulk53 x_) t.f3 (fun x => by unfold bulk53; omega)
    have h3 : bulk45 t ≥ Rd.sumOf (fun x_ => bulk53 x_) t.f3 + 48577 ∨ bulk45 t ≥ Rd.sumOf (fun x_ => bulk53 x_) t.f3 := by unfold bulk45; omega
    have h4 : 3 * t.f3.length ≤ Rd.sumOf (fun x_ => bulk53 x_) t.f3 := by
      unfold Rd.sumOf
      clear h1 h2 h3
      induction t.f3 with
      | nil => exact Nat.zero_le _
      | cons y l ih =>
        rw [List.map_cons, List.sum_cons, List.length_cons]
        have : 3 ≤ bulk53 y := by unfold bulk53; omega
        omega
    have h5 : bulk45 t ≤ 1048576 := Nat.le_trans h1 hb0
    omega
  have hf : El.fits l0 = true := by
    unfold El.fits
    rw [Bool.and_eq_true, Bool.and_eq_true]
    refine ⟨⟨decide_eq_true ?_, ?_⟩, decide_eq_true ?_⟩
    · have := sumOf_le (fun t : El.Tok => t.f2.size) (fun x_ => bulk45 x_) l0 (fun x => by show x.f2.size ≤ bulk45 x; unfold bulk45; omega)
      exact Nat.le_trans this (Nat.le_trans hb0 (by decide))
    · rw [List.all_eq_true]
      intro t htm
      exact decide_eq_true (ht t htm)
    · have := sumOf_len (fun x_ => bulk45 x_) l0 (fun x => by show 1 ≤ bulk45 x; unfold bulk45; omega)
      exact Nat.le_trans this (Nat.le_trans hb0 (by decide))
  have hn : ∀ n ∈ l2, n.f2.size ≤ 10000000 := fun n hnm => by
    have h1 := sumOf_mem (fun x_ => bulk32 x_) l2 n hnm
    have h2 : n.f2.size ≤ bulk32 n := by unfold bulk32; omega
    have h3 : bulk32 n ≤ 1048576 := Nat.le_trans h1 hb2
    omega
  have early : Ans (fun k => a8_.j0 k l0 a1 l2 a3 true) true := by
    refine Ans.succ (g := fun k => (bU_.f k).bind fun t => some t) awake_told fun k => ?_
    rw [a8_.j0, if_pos rfl]
  unfold a8_.f
  by_cases c0 : (l0.length : Int) > 100
  · simp only [if_pos c0]; exact early
  by_cases c1 : (a1.size : Int) > 3000
  · simp only [if_neg c0, if_pos c1]; exact early
  simp only [if_neg c0, if_neg c1]
  by_cases c2 : (l2.length : Int) > 100
  · simp only [decide_eq_true c2]; exact early
  simp only [decide_eq_false c2]
  obtain ⟨e1, e2⟩ := tree_ref l0 hf
  have e3 := parse_told a1 (by omega)
  obtain ⟨s, hs1, hs2⟩ := inner_same l2 (by omega) hn a3
  refine Ans.succ (g := fun k => (cC_.f k a1).bind fun bt337 => ((bU_.f k).bind fun t341 => (if t341 = true then ((bX_.f k (El.tree l0).1 (El.tree l0).1).bind fun t342 => (if t342 = true then (if (El.tree l0).2 = (El.tree l0).2 then ((bX_.f k (parseL a1.data.toList).1 bt337.1).bind fun t343 => (if t343 = true then (if (parseL a1.data.toList).2 = bt337.2 then ((bJ_.f k l2 a3).bind fun t344 => ((a1_.f k l2 a3).bind fun t347 => ((bW_.f k t344 t347).bind fun t350 => (if t350 = true then ((b3_.f k l2 a3).bind fun t351 => ((bE_.f k l2 a3).bind fun t352 => (some (t351.toList == t352.toList)))) else (some false))))) else (some false)) else (some false))) else (some false)) else (some false))) else (some false)))) ?_ fun k => ?_
  · refine Ans.bind (parse_ref a1 (by omega)) (Ans.bind awake_ans ?_)
    simp only [if_true]
    refine Ans.bind (tree_self l0 1000000 (by omega) ht) ?_
    simp only [if_true]
    have hz := bV_ a1.data.toList
    rw [bs_data] at hz
    refine Ans.bind (parse_self a1.data.toList (by omega)) ?_
    simp only [if_true]
    refine Ans.bind (kids_told l2 (by omega) a3) (Ans.bind (rkids_told l2 (by omega) a3) (Ans.bind (ints_self _ ?_) ?_))
    · have := kidsL_few l2 a3; omega
    simp only [if_true]
    refine Ans.bind hs1 (Ans.bind hs2 (Ans.now fun _ => ?_))
    rw [beq_self_eq_true]
  · rw [a8_.j0, if_neg (by decide), e1, e2, e3]
    rfl
end Go.Proofs.YtkoogebfdinbnaaGreat.Pure
