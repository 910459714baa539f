/- Texts put together: what functions of the program compute, and plain words about them. -/
import Derived.Test.YtgdjfcmmpjcaaaaDoorLawCoordBackUptoM3
import Derived.Test.YtgdjfcmmpjcaaaaDoorLawCoordBackUptoM2
import Derived.Lib.CountLaws
namespace Go.Proofs.YtgdjfcmmpjcaaaaDoor.Pure
open Go Go.Proofs.YtgdjfcmmpjcaaaaDoorW.Px
set_option linter.unusedSimpArgs false
set_option linter.unusedVariables false
structure Ord3 {α : Type} (c : α → α → Int) : Prop where
  rng : ∀ a b, c a b = -1 ∨ c a b = 0 ∨ c a b = 1
  anti : ∀ a b, c b a = - c a b
  trans : ∀ a b d, c a b ≤ 0 → c b d ≤ 0 → c a d ≤ 0
section
variable {α β : Type}
theorem Ord3.self {c : α → α → Int} (h : Ord3 c) (a : α) : c a a = 0 := by have := h.anti a a; omega
theorem Ord3.eql {c : α → α → Int} (h : Ord3 c) {a b : α} (e : c a b = 0) (d : α) : c a d = c b d := by
  have h1 := h.trans b a d
  have h2 := h.trans a b d
  have h3 := h.trans d a b
  have h4 := h.trans d b a
  have e1 := h.anti a b
  have e2 := h.anti a d
  have e3 := h.anti b d
  rcases h.rng a d with r | r | r <;> rcases h.rng b d with q | q | q <;> omega
theorem Ord3.lex {c1 c2 : α → α → Int} (h1 : Ord3 c1) (h2 : Ord3 c2) : Ord3 (fun a b => if c1 a b = 0 then c2 a b else c1 a b) where
  rng a b := by
    show (if c1 a b = 0 then c2 a b else c1 a b) = -1 ∨ (if c1 a b = 0 then c2 a b else c1 a b) = 0 ∨ (if c1 a b = 0 then c2 a b else c1 a b) = 1
    split
    · exact h2.rng a b
    · exact h1.rng a b
  anti a b := by
    show (if c1 b a = 0 then c2 b a else c1 b a) = - (if c1 a b = 0 then c2 a b else c1 a b)
    have e1 := h1.anti a b
    have e2 := h2.anti a b
    by_cases z : c1 a b = 0
    · rw [if_pos z, if_pos (by omega)]; exact e2
    · rw [if_neg z, if_neg (by omega)]; exact e1
  trans a b d := by
    show (if c1 a b = 0 then c2 a b else c1 a b) ≤ 0 → (if c1 b d = 0 then c2 b d else c1 b d) ≤ 0 → (if c1 a d = 0 then c2 a d else c1 a d) ≤ 0
    intro p q
    by_cases z : c1 a b = 0
    · have e := h1.eql z d
      rw [if_pos z] at p
      by_cases y : c1 b d = 0
      · rw [if_pos y] at q
        rw [if_pos (by omega)]
        exact h2.trans a b d p q
      · rw [if_neg y] at q
        rw [if_neg (by omega)]
        omega
    · rw [if_neg z] at p
      have t := h1.trans a b d p
      have t2 := h1.trans d a b
      have t3 := h1.trans b d a
      have a1 := h1.anti a b
      have a2 := h1.anti a d
      have a3 := h1.anti b d
      have k : c1 b d ≤ 0 := by
        by_cases y : c1 b d = 0
        · omega
        · rw [if_neg y] at q; exact q
      have k2 := t k
      rw [if_neg (by omega)]
      exact k2
theorem Ord3.comap {c : β → β → Int} (h : Ord3 c) (f : α → β) : Ord3 (fun a b => c (f a) (f b)) where
  rng a b := h.rng (f a) (f b)
  anti a b := h.anti (f a) (f b)
  trans a b d := h.trans (f a) (f b) (f d)
theorem Ord3.zero : Ord3 (fun (_ _ : α) => (0 : Int)) where
  rng _ _ := Or.inr (Or.inl rfl)
  anti _ _ := rfl
  trans _ _ _ _ _ := Int.le_refl _
end
def cmpI (a b : Int) : Int := if a < b then -1 else if a > b then 1 else 0
theorem ord_int : Ord3 cmpI where
  rng a b := by unfold cmpI; split; · exact Or.inl rfl
                · split; · exact Or.inr (Or.inr rfl)
                  · exact Or.inr (Or.inl rfl)
  anti a b := by unfold cmpI; repeat' split
                 all_goals omega
  trans a b d := by unfold cmpI; intro p q; repeat' split
                    all_goals (repeat' split at p)
                    all_goals (repeat' split at q)
                    all_goals omega
theorem less_irr : ∀ a : List UInt8, Op.bytesLess a a = false
  | [] => rfl
  | a :: x => by
    have ih := less_irr x
    have h : decide (a < a) = false := decide_eq_false (fun g => by have := UInt8.lt_iff_toNat_lt.1 g; omega)
    simp only [Op.bytesLess, h, ih, Bool.and_false, Bool.or_false]
theorem less_trans : ∀ a b c : List UInt8, Op.bytesLess a b = true → Op.bytesLess b c = true → Op.bytesLess a c = true
  | [], [], _, h, _ => by simp [Op.bytesLess] at h
  | _ :: _, [], _, h, _ => by simp [Op.bytesLess] at h
  | _, _ :: _, [], _, h => by simp [Op.bytesLess] at h
  | [], _ :: _, _ :: _, _, _ => by simp [Op.bytesLess]
  | a :: x, b :: y, c :: z, h1, h2 => by
    have ih := less_trans x y z
    simp only [Op.bytesLess, Bool.or_eq_true, Bool.and_eq_true, decide_eq_true_eq, beq_iff_eq, UInt8.lt_iff_toNat_lt] at h1 h2 ⊢
    rcases h1 with h1 | ⟨rfl, h1⟩ <;> rcases h2 with h2 | ⟨rfl, h2⟩
    · exact Or.inl (by omega)
    · exact Or.inl h1
    · exact Or.inl h2
    · exact Or.inr ⟨rfl, ih h1 h2⟩
theorem less_tot : ∀ a b : List UInt8, Op.bytesLess a b = false → Op.bytesLess b a = false → a = b
  | [], [], _, _ => rfl
  | [], _ :: _, h, _ => by simp [Op.bytesLess] at h
  | _ :: _, [], _, h => by simp [Op.bytesLess] at h
  | a :: x, b :: y, h1, h2 => by
    have ih := less_tot x y
    simp only [Op.bytesLess, Bool.or_eq_false_iff, decide_eq_false_iff_not, UInt8.lt_iff_toNat_lt] at h1 h2
    obtain rfl : a = b := UInt8.toNat_inj.1 (by omega)
    simp only [beq_self_eq_true, Bool.true_and] at h1 h2
    rw [ih h1.2 h2.2]
theorem less_asym (a b : List UInt8) (h : Op.bytesLess a b = true) : Op.bytesLess b a = false := by
  rw [Bool.eq_false_iff]
  intro g
  have := less_trans a b a h g
  rw [less_irr] at this
  cases this
def cmpB (a b : List UInt8) : Int := if Op.bytesLess a b = true then -1 else if Op.bytesLess b a = true then 1 else 0
theorem cmpB_zero (a b : List UInt8) (h : cmpB a b = 0) : a = b := by
  unfold cmpB at h
  by_cases p : Op.bytesLess a b = true
  · rw [if_pos p] at h; omega
  · rw [if_neg p] at h
    by_cases q : Op.bytesLess b a = true
    · rw [if_pos q] at h; omega
    · exact less_tot a b (Bool.eq_false_iff.2 p) (Bool.eq_false_iff.2 q)
theorem cmpB_le (a b : List UInt8) : cmpB a b ≤ 0 ↔ Op.bytesLess b a = false := by
  unfold cmpB
  by_cases p : Op.bytesLess a b = true
  · rw [if_pos p]
    exact ⟨fun _ => less_asym a b p, fun _ => by omega⟩
  · rw [if_neg p]
    by_cases q : Op.bytesLess b a = true
    · rw [if_pos q, q]; simp
    · rw [if_neg q, Bool.eq_false_iff.2 q]; simp
theorem ord_bytes : Ord3 cmpB where
  rng a b := by unfold cmpB; split; · exact Or.inl rfl
                · split; · exact Or.inr (Or.inr rfl)
                  · exact Or.inr (Or.inl rfl)
  anti a b := by
    unfold cmpB
    by_cases p : Op.bytesLess a b = true
    · rw [if_pos p, less_asym a b p, if_pos p]; simp
    · rw [if_neg p]
      by_cases q : Op.bytesLess b a = true
      · simp [q, p]
      · simp [q, p]
  trans a b d := by
    rw [cmpB_le, cmpB_le, cmpB_le]
    intro p q
    rw [Bool.eq_false_iff]
    intro g
    by_cases h : Op.bytesLess a b = true
    · rw [less_trans d a b g h] at q; cases q
    · obtain rfl := less_tot a b (Bool.eq_false_iff.2 h) p
      rw [g] at q; cases q
def cmpW (a b : Wl) : Int :=
  if a.1 < b.1 then -1 else if a.1 > b.1 then 1
  else if a.1 = 8 then cmpB a.2 b.2
  else if a.1 = 9 ∨ a.1 = 10 then (if cmpI a.2.length b.2.length = 0 then cmpB a.2 b.2 else cmpI a.2.length b.2.length)
  else 0
def keyN (a : Wl) : Int := if a.1 = 9 ∨ a.1 = 10 then a.2.length else 0
def keyB (a : Wl) : List UInt8 := if a.1 = 8 ∨ a.1 = 9 ∨ a.1 = 10 then a.2 else []
theorem cmpB_nil : cmpB [] [] = 0 := by decide
theorem cmpW_key (a b : Wl) : cmpW a b = if cmpI a.1 b.1 = 0 then (if cmpI (keyN a) (keyN b) = 0 then cmpB (keyB a) (keyB b) else cmpI (keyN a) (keyN b)) else cmpI a.1 b.1 := by
  unfold cmpW
  have ci : cmpI a.1 b.1 = if a.1 < b.1 then -1 else if a.1 > b.1 then 1 else 0 := rfl
  by_cases p : a.1 < b.1
  · rw [if_pos p] at ci
    rw [if_pos p, ci]; rfl
  · by_cases q : a.1 > b.1
    · rw [if_neg p, if_pos q] at ci
      rw [if_neg p, if_pos q, ci]; rfl
    · have e : a.1 = b.1 := by omega
      rw [if_neg p, if_neg q] at ci
      rw [if_neg p, if_neg q, ci, if_pos rfl]
      unfold keyN keyB
      rw [← e]
      have z0 : cmpI 0 0 = 0 := rfl
      by_cases h8 : a.1 = 8
      · have n9 : ¬ (a.1 = 9 ∨ a.1 = 10) := by omega
        have k : a.1 = 8 ∨ a.1 = 9 ∨ a.1 = 10 := Or.inl h8
        simp only [if_pos h8, if_neg n9, if_pos k, if_pos z0]
      · by_cases h9 : a.1 = 9 ∨ a.1 = 10
        · have k : a.1 = 8 ∨ a.1 = 9 ∨ a.1 = 10 := Or.inr h9
          simp only [if_neg h8, if_pos h9, if_pos k]
        · have k : ¬ (a.1 = 8 ∨ a.1 = 9 ∨ a.1 = 10) := by omega
          simp only [if_neg h8, if_neg h9, if_neg k, if_pos z0, cmpB_nil]
theorem ord_word : Ord3 cmpW := by
  have h := (ord_int.comap (fun a : Wl => a.1)).lex ((ord_int.comap keyN).lex (ord_bytes.comap keyB))
  have e : cmpW = fun a b => if cmpI a.1 b.1 = 0 then (if cmpI (keyN a) (keyN b) = 0 then cmpB (keyB a) (keyB b) else cmpI (keyN a) (keyN b)) else cmpI a.1 b.1 := by
    funext a b; exact cmpW_key a b
  rw [e]
  exact h
def hdW : List Wl → Wl
  | [] => (6, [])
  | w :: _ => w
def cmpN : Nat → List Wl → List Wl → Int
  | 0, _, _ => 0
  | n + 1, x, y => if cmpW (hdW x) (hdW y) = 0 then cmpN n x.tail y.tail else cmpW (hdW x) (hdW y)
theorem ord_words : ∀ n, Ord3 (cmpN n)
  | 0 => Ord3.zero
  | n + 1 => (ord_word.comap hdW).lex ((ord_words n).comap List.tail)
theorem cmpN_succ (n : Nat) (x y : List Wl) : cmpN (n + 1) x y = if cmpW (hdW x) (hdW y) = 0 then cmpN n x.tail y.tail else cmpW (hdW x) (hdW y) := rfl
theorem cmpN_nil : ∀ n, cmpN n [] [] = 0
  | 0 => rfl
  | n + 1 => by
    have e : cmpW (hdW []) (hdW []) = 0 := ord_word.self _
    rw [cmpN, if_pos e]
    exact cmpN_nil n
def mostN : Nat := 100100
def cmpV (a b : List UInt8) : Int := cmpN mostN (splitL a) (splitL b)
theorem ord_vers : Ord3 cmpV := (ord_words mostN).comap splitL
end Go.Proofs.YtgdjfcmmpjcaaaaDoor.Pure
namespace Go.Proofs.YtgdjfcmmpjcaaaaDoor.Pure
open Go Go.RowKit Go.Proofs.YtgdjfcmmpjcaaaaDoor.Q Go.Proofs.YtgdjfcmmpjcaaaaDoorW.PrintWords Go.Proofs.YtgdjfcmmpjcaaaaDoorW.PrintLast Go.Proofs.YtgdjfcmmpjcaaaaDoorW.Own Go.Proofs.YtgdjfcmmpjcaaaaDoorW.PrintMore Go.Proofs.YtgdjfcmmpjcaaaaDoorW.Px
set_option linter.unusedSimpArgs false
set_option linter.unusedVariables false
theorem cmp_told3 (a b : List UInt8) : cmp_Compare_string.f (ts a) (ts b) = some (cmpB a b) := cmp_str a b
theorem word_cmp (x y : Wl) (k : Nat) (hk : 10 ≤ k) : order_word.f k x.1 (ts x.2) y.1 (ts y.2) = some (cmpW x y) := by
  have len : ∀ k, 9 ≤ k → order_word.j0 (k + 1) true x.1 (ts x.2) y.1 (ts y.2) = some (if cmpI x.2.length y.2.length = 0 then cmpB x.2 y.2 else cmpI x.2.length y.2.length) := by
    intro k hk
    rw [order_word.j0, if_pos rfl, cmp_int, Option.bind_some, cmp_told3, Option.bind_some, or_two _ _ _ (by omega), Option.bind_some, ts_size, ts_size]
    rfl
  unfold order_word.f cmpW
  rw [cmp_int, Option.bind_some]
  by_cases p : x.1 < y.1
  · rw [if_pos p, if_pos p, if_neg (by decide)]
  · by_cases q : x.1 > y.1
    · rw [if_neg p, if_pos q, if_neg p, if_pos q, if_neg (by decide)]
    · rw [if_neg p, if_neg q, if_neg p, if_neg q, if_pos rfl]
      by_cases e8 : x.1 = 8
      · rw [if_pos e8, if_pos e8, cmp_told3, Option.bind_some]
      · rw [if_neg e8, if_neg e8]
        obtain ⟨k, rfl⟩ : ∃ i, k = i + 1 := ⟨k - 1, by omega⟩
        by_cases e9 : x.1 = 9
        · rw [if_pos e9, show (x.1 == 9) = true from beq_iff_eq.2 e9, len k (by omega), if_pos (Or.inl e9)]
        · rw [if_neg e9]
          by_cases e10 : x.1 = 10
          · rw [show (x.1 == 10) = true from beq_iff_eq.2 e10, len k (by omega), if_pos (Or.inr e10)]
          · rw [show (x.1 == 10) = false from beq_eq_false_iff_ne.2 e10, order_word.j0, if_neg (by decide), if_neg (by rintro (h | h) <;> omega)]
theorem at_cmp (l : List Wl) (i : Nat) : order_at.f (l.map w38) (i : Int) = some (pr (hdW (l.drop i))) := by
  unfold order_at.f
  rw [List.length_map]
  by_cases h : (i : Int) < (l.length : Int)
  · have hi : i < l.length := by omega
    rw [if_pos h, if_pos (by omega), List.drop_eq_getElem_cons hi]
    unfold rd_T38
    rw [Int.toNat_natCast, List.getD_eq_getElem?_getD, List.getElem?_map, List.getElem?_eq_getElem hi]
    rfl
  · rw [if_neg h, List.drop_eq_nil_of_le (by omega)]
    rfl
theorem tail_drop (l : List Wl) (i : Nat) : (l.drop i).tail = l.drop (i + 1) := by rw [List.tail_drop]
theorem words_cmp (x y : List Wl) (hx : x.length ≤ 100100) (hy : y.length ≤ 100100) : ∀ (d i : Nat), i ≤ 100100 → x.length ≤ i + d → y.length ≤ i + d →
    Tot (fun k => order_Words.l0 k (x.map w38) (y.map w38) (i : Int)) (fun r => r = cmpN (d + 1) (x.drop i) (y.drop i)) := by
  have hm : ∀ i : Nat, (i : Int) < mx (x.length : Int) (y.length : Int) ↔ i < x.length ∨ i < y.length := by
    intro i
    unfold mx
    split <;> omega
  intro d
  induction d with
  | zero =>
    intro i hi h1 h2
    refine tot_succ ?_ (fun k => by rw [order_Words.l0])
    rw [at_cmp, at_cmp]
    simp only [Option.bind_some, pr]
    refine tot_bind (tot_ge 10 (fun k hk => word_cmp (hdW (x.drop i)) (hdW (y.drop i)) k hk)) (fun r hr => ?_)
    subst hr
    have nb : ¬ wrap64 ((i : Int) + 1) < mx ((x.map w38).length : Int) ((y.map w38).length : Int) := by
      rw [List.length_map, List.length_map, next_of i (by omega), hm]; omega
    refine tot_if (fun z => tot_if (fun h => absurd h nb) (fun _ => tot_some ?_)) (fun z => tot_some ?_)
    · rw [cmpN_succ, if_pos z, z]; rfl
    · rw [cmpN_succ, if_neg z]
  | succ d ih =>
    intro i hi h1 h2
    refine tot_succ ?_ (fun k => by rw [order_Words.l0])
    rw [at_cmp, at_cmp]
    simp only [Option.bind_some, pr]
    refine tot_bind (tot_ge 10 (fun k hk => word_cmp (hdW (x.drop i)) (hdW (y.drop i)) k hk)) (fun r hr => ?_)
    subst hr
    rw [List.length_map, List.length_map, next_of i (by omega)]
    refine tot_if (fun z => tot_if (fun h => ?_) (fun h => tot_some ?_)) (fun z => tot_some ?_)
    · have hb := (hm _).1 h
      refine tot_imp (ih (i + 1) (by omega) (by omega) (by omega)) (fun r hr => ?_)
      rw [hr, cmpN_succ (d + 1), if_pos z, tail_drop, tail_drop]
    · rw [hm] at h
      rw [cmpN_succ (d + 1), if_pos z, tail_drop, tail_drop, List.drop_eq_nil_of_le (show x.length ≤ i + 1 by omega), List.drop_eq_nil_of_le (show y.length ≤ i + 1 by omega), cmpN_nil, z]
    · rw [cmpN_succ (d + 1), if_neg z]
theorem compare_cmp (a b : List UInt8) (ha : a.length ≤ 100000) (hb : b.length ≤ 100000) : Tot (fun k => order_Compare.f k (ts a) (ts b)) (fun r => r = cmpV a b) := by
  have sa := splitL_len a
  have sb := splitL_len b
  unfold order_Compare.f order_Words.f
  refine tot_bind (tot_ge 400000 (fun k hk => split_told a ha k (by omega))) (fun x hx => ?_)
  subst hx
  refine tot_bind (tot_ge 400000 (fun k hk => split_told b hb k (by omega))) (fun y hy => ?_)
  subst hy
  refine tot_bind (words_cmp (splitL a) (splitL b) (by omega) (by omega) 100099 0 (by omega) (by omega) (by omega)) (fun r hr => tot_some ?_)
  rw [hr, List.drop_zero, List.drop_zero]
  rfl
def tx (l : List UInt8) : ByteArray := ⟨l.toArray⟩
theorem tx_toList (l : List UInt8) : (tx l).data.toList = l := rfl
theorem tx_data (a : ByteArray) : tx a.data.toList = a := ba_ext rfl
theorem tx_size (l : List UInt8) : (tx l).size = l.length := by rw [ba_size]; rfl
theorem tx_tail (c : UInt8) (l : List UInt8) : (tx (c :: l)).extract 1 (tx (c :: l)).size = tx l := by
  apply ba_ext
  rw [ba_extract, tx_size, tx_toList, tx_toList, List.take_of_length_le (Nat.le_refl _)]
  rfl
theorem bt_head (c : UInt8) (l : List UInt8) : bt (tx (c :: l)) 0 = (c.toNat : Int) := by
  unfold bt
  rw [dif_pos (by rw [tx_size]; simp)]
  rfl
def mayI (n : Int) : Bool := decide ((97 ≤ n ∧ n ≤ 122) ∨ (65 ≤ n ∧ n ≤ 90) ∨ (48 ≤ n ∧ n ≤ 57) ∨ n = 95 ∨ n = 45 ∨ n = 46)
theorem letter_told (n : Int) : coord_letter.f n = some (mayI n) := by
  unfold coord_letter.f
  repeat' split
  all_goals first
    | (rw [show mayI n = true from decide_eq_true (by omega)]; done)
    | (apply congrArg some; unfold mayI; rw [Bool.eq_iff_iff]; simp only [beq_iff_eq, decide_eq_true_eq]; omega)
def may8 (c : UInt8) : Bool := mayI (c.toNat : Int)
def idOk (l : List UInt8) : Bool := !l.isEmpty && decide (l.length ≤ 500) && l.all may8
theorem id_loop : ∀ (l : List UInt8) (c : UInt8) (k : Nat), coord_Id.l0 (k + l.length + 1) (tx (c :: l)) = some ((c :: l).all may8)
  | [], c, k => by
    have h1 : 0 < ((tx [c]).size : Int) := by rw [tx_size]; simp
    have h2 : 1 ≤ ((tx [c]).size : Int) := by rw [tx_size]; simp
    rw [coord_Id.l0, if_pos h1, bt_head, letter_told, Option.bind_some, tx_tail]
    by_cases h : mayI (c.toNat : Int) = true
    · rw [if_pos h, if_pos h2, if_pos (by rw [ba_toList]; rfl)]
      simp [may8, h]
    · rw [if_neg h]
      simp [may8, h]
  | d :: l, c, k => by
    have ih := id_loop l d k
    have h1 : 0 < ((tx (c :: d :: l)).size : Int) := by rw [tx_size]; simp only [List.length_cons]; omega
    have h2 : 1 ≤ ((tx (c :: d :: l)).size : Int) := by rw [tx_size]; simp only [List.length_cons]; omega
    rw [coord_Id.l0, if_pos h1, bt_head, letter_told, Option.bind_some, tx_tail]
    by_cases h : mayI (c.toNat : Int) = true
    · rw [if_pos h, if_pos h2, if_neg (by rw [ba_toList, tx_toList]; simp), List.length_cons, show k + (l.length + 1) = k + l.length + 1 from rfl, ih]
      simp [may8, h]
    · rw [if_neg h]
      simp [may8, h]
theorem id_told (a : ByteArray) (k : Nat) (hk : 502 ≤ k) : coord_Id.f k a = some (idOk a.data.toList) := by
  obtain ⟨k, rfl⟩ : ∃ j, k = j + 1 := ⟨k - 1, by omega⟩
  unfold coord_Id.f
  have hz := ba_size a
  by_cases h0 : a.toList = []
  · rw [if_pos h0, coord_Id.j0, if_pos rfl]
    rw [ba_toList] at h0
    rw [h0]; rfl
  · rw [if_neg h0]
    rw [ba_toList] at h0
    by_cases h1 : (a.size : Int) > 500
    · rw [decide_eq_true h1, coord_Id.j0, if_pos rfl]
      unfold idOk
      rw [decide_eq_false (show ¬ a.data.toList.length ≤ 500 by omega), Bool.and_false, Bool.false_and]
    · rw [decide_eq_false h1, coord_Id.j0, if_neg (by decide)]
      obtain ⟨c, l, hl⟩ : ∃ c l, a.data.toList = c :: l := by
        cases hq : a.data.toList with
        | nil => exact absurd hq h0
        | cons c l => exact ⟨c, l, rfl⟩
      have hll : l.length + 1 = a.size := by rw [hz, hl, List.length_cons]
      have := id_loop l c (k - (l.length + 1))
      rw [show k - (l.length + 1) + l.length + 1 = k from by omega, ← hl, tx_data] at this
      rw [this]
      unfold idOk
      rw [decide_eq_true (show a.data.toList.length ≤ 500 by omega)]
      rw [hl]; rfl
theorem awake_20 : newellaw09_awake.f 20 = some true := by kernel_rfl
theorem awake_ge (k : Nat) (h : 20 ≤ k) : newellaw09_awake.f k = some true := by
  obtain ⟨j, rfl⟩ := Nat.exists_eq_add_of_le h
  clear h
  induction j with
  | zero => exact awake_20
  | succ j ih => exact newellaw09_awake.mono _ _ ih
theorem cut_head {s sub : List UInt8} {c : UInt8} {j : Nat} (h : Lib.occAt s (c :: sub) j = true) : s[j]? = some c := by
  unfold Lib.occAt at h
  obtain ⟨t, ht⟩ := List.isPrefixOf_iff_prefix.1 h
  have : (s.drop j)[0]? = some c := by rw [← ht]; rfl
  simpa using this
theorem colon_parts : ∀ l : List UInt8, (∀ x ∈ l, x ≠ 58) ∨ ∃ t r, l = t ++ 58 :: r ∧ ∀ x ∈ t, x ≠ 58
  | [] => Or.inl (fun _ h => by cases h)
  | c :: l => by
    by_cases h : c = 58
    · exact Or.inr ⟨[], l, by rw [h]; rfl, fun _ h => by cases h⟩
    · rcases colon_parts l with q | ⟨t, r, q1, q2⟩
      · exact Or.inl (fun x hx => by rcases List.mem_cons.1 hx with z | z; · rw [z]; exact h
                                     · exact q x z)
      · exact Or.inr ⟨c :: t, r, by rw [q1]; rfl, fun x hx => by rcases List.mem_cons.1 hx with z | z; · rw [z]; exact h
                                                                 · exact q2 x z⟩
theorem idx_there (t r : List UInt8) (h : ∀ x ∈ t, x ≠ 58) : Lib.index (t ++ 58 :: r) [58] = (t.length : Int) := by
  refine Lib.index_first (by simp) ?_ ?_
  · unfold Lib.occAt
    rw [List.drop_left]
    exact List.isPrefixOf_iff_prefix.2 ⟨r, rfl⟩
  · intro j hj
    rw [Bool.eq_false_iff]
    intro ho
    have := cut_head ho
    rw [List.getElem?_append_left hj] at this
    exact h 58 (List.mem_of_getElem? this) rfl
theorem idx_away (t : List UInt8) (h : ∀ x ∈ t, x ≠ 58) : Lib.index t [58] = -1 := by
  refine Lib.index_none ?_
  intro j hj
  rw [Bool.eq_false_iff]
  intro ho
  exact h 58 (List.mem_of_getElem? (cut_head ho)) rfl
def spC (l : List UInt8) : List (List UInt8) := Lib.split l [58]
theorem spC_away (t : List UInt8) (h : ∀ x ∈ t, x ≠ 58) : spC t = [t] := by
  unfold spC Lib.split
  rw [Lib.count_miss (idx_away t h)]
  rfl
theorem spC_there (t r : List UInt8) (h : ∀ x ∈ t, x ≠ 58) : spC (t ++ 58 :: r) = t :: spC r := by
  have i := idx_there t r h
  unfold spC Lib.split
  rw [Lib.count_hit (by simp) i]
  have d : (t ++ 58 :: r).drop (t.length + ([58] : List UInt8).length) = r := by
    rw [show t.length + ([58] : List UInt8).length = (t ++ [58]).length by simp, show t ++ 58 :: r = (t ++ [58]) ++ r by simp, List.drop_left]
  rw [d, Nat.add_comm]
  show (if Lib.index (t ++ 58 :: r) [58] == -1 then [t ++ 58 :: r] else (t ++ 58 :: r).take ((Lib.index (t ++ 58 :: r) [58]).toNat + 0) :: Lib.splitK [58] 0 (Lib.count r [58]) ((t ++ 58 :: r).drop ((Lib.index (t ++ 58 :: r) [58]).toNat + ([58] : List UInt8).length))) = _
  rw [i, if_neg (by simp), Int.toNat_natCast, d, Nat.add_zero, List.take_left]
def joinC : List (List UInt8) → List UInt8
  | [] => []
  | [a] => a
  | a :: b :: l => a ++ 58 :: joinC (b :: l)
theorem spC_ne (l : List UInt8) : spC l ≠ [] := by
  rcases colon_parts l with h | ⟨t, r, rfl, h⟩
  · rw [spC_away l h]; simp
  · rw [spC_there t r h]; simp
theorem spC_join : ∀ (n : Nat) (l : List UInt8), l.length ≤ n → joinC (spC l) = l := by
  intro n
  induction n with
  | zero =>
    intro l h
    obtain rfl := List.eq_nil_of_length_eq_zero (Nat.le_zero.1 h)
    rw [spC_away [] (fun _ h => by cases h)]; rfl
  | succ n ih =>
    intro l h
    rcases colon_parts l with g | ⟨t, r, rfl, g⟩
    · rw [spC_away l g]; rfl
    · rw [spC_there t r g]
      have := ih r (by simp at h; omega)
      cases q : spC r with
      | nil => exact absurd q (spC_ne r)
      | cons a b => rw [q] at this; show t ++ 58 :: joinC (a :: b) = _; rw [this]
theorem split_cmp (l : List UInt8) (h : l.length < 4294967281) : ∃ L, strings_Split.f (tx l) (⟨#[58]⟩ : ByteArray) = some L ∧ L.map (fun x => x.data.toList) = spC l := by
  refine ⟨_, by unfold strings_Split.f; rw [if_pos ⟨by rw [tx_size]; exact h, by decide⟩], ?_⟩
  rw [Lib.splitB_data]
  rfl
def rightC (g n v : List UInt8) : Bool := idOk g && (idOk n && (rightB v && !(Lib.contains v [58])))
theorem right_cmp (g n v : ByteArray) (h : v.size < 4294967281) : Tot (fun k => coord_Right.f k g n v) (fun r => r = rightC g.data.toList n.data.toList v.data.toList) := by
  unfold coord_Right.f rightC
  refine tot_bind (tot_ge 502 (fun k hk => id_told g k hk)) (fun r hr => ?_)
  subst hr
  refine tot_if (fun a => ?_) (fun a => tot_some (by rw [Bool.eq_false_iff.2 a]; rfl))
  rw [a, Bool.true_and]
  refine tot_bind (tot_ge 502 (fun k hk => id_told n k hk)) (fun r hr => ?_)
  subst hr
  refine tot_if (fun a => ?_) (fun a => tot_some (by rw [Bool.eq_false_iff.2 a]; rfl))
  rw [a, Bool.true_and]
  refine tot_bind (tot_ge 101 (fun k hk => right_told v k hk)) (fun r hr => ?_)
  subst hr
  refine tot_if (fun a => ?_) (fun a => tot_some (by rw [Bool.eq_false_iff.2 a]; rfl))
  rw [a, Bool.true_and]
  have c : strings_Contains.f v (⟨#[58]⟩ : ByteArray) = some (Lib.contains v.data.toList [58]) := by
    unfold strings_Contains.f
    rw [if_pos h]
  rw [c]
  exact tot_some rfl
theorem id_no (l : List UInt8) (h : idOk l = true) : ∀ x ∈ l, x ≠ 58 := by
  intro x hx e
  unfold idOk at h
  simp only [Bool.and_eq_true] at h
  have := List.all_eq_true.1 h.2 x hx
  rw [e] at this
  exact absurd this (by decide)
theorem ver_no (v : List UInt8) (h : Lib.contains v [58] = false) : ∀ x ∈ v, x ≠ 58 := by
  rcases colon_parts v with q | ⟨t, r, rfl, q⟩
  · exact q
  · exfalso
    unfold Lib.contains at h
    rw [idx_there t r q] at h
    simp at h
def ParsC (l : List UInt8) (r : ByteArray × ByteArray × ByteArray × Bool) : Prop :=
  (r.2.2.2 = true → l = r.1.data.toList ++ 58 :: (r.2.1.data.toList ++ 58 :: r.2.2.1.data.toList) ∧ rightC r.1.data.toList r.2.1.data.toList r.2.2.1.data.toList = true) ∧
  (∀ g n v, l = g ++ 58 :: (n ++ 58 :: v) → rightC g n v = true → r = (tx g, tx n, tx v, true))
theorem parse_cmpC (l : List UInt8) (h : l.length < 4294967281) : Tot (fun k => coord_Parse.f k (tx l)) (ParsC l) := by
  obtain ⟨L, hL, hM⟩ := split_cmp l h
  unfold coord_Parse.f
  rw [hL]
  simp only [Option.bind_some]
  have three : ∀ g n v, l = g ++ 58 :: (n ++ 58 :: v) → rightC g n v = true → spC l = [g, n, v] := by
    intro g n v e hr
    unfold rightC at hr
    simp only [Bool.and_eq_true, Bool.not_eq_true'] at hr
    rw [e, spC_there g _ (id_no g hr.1), spC_there n _ (id_no n hr.2.1), spC_away v (ver_no v hr.2.2.2)]
  have len : L.length = (spC l).length := by rw [← hM, List.length_map]
  refine tot_if (fun e => ?_) (fun e => tot_some ⟨(fun h => by cases h), fun g n v e1 hr => absurd (by rw [len, three g n v e1 hr]; rfl) e⟩)
  have e3 : L.length = 3 := by omega
  match L, e3 with
  | [a, b, c], _ =>
    have hs : spC l = [a.data.toList, b.data.toList, c.data.toList] := hM.symm
    have jl : l = a.data.toList ++ 58 :: (b.data.toList ++ 58 :: c.data.toList) := by
      have := spC_join l.length l (Nat.le_refl _)
      rw [hs] at this
      exact this.symm
    have cz : c.size < 4294967281 := by
      have := congrArg List.length jl
      simp at this
      have z := ba_size c
      simp only [Array.length_toList] at z
      omega
    show Tot (fun k => if 0 < (3 : Int) then if 1 < (3 : Int) then if 2 < (3 : Int) then (coord_Right.f k a b c).bind fun t668 => (if t668 = true then (some (a, b, c, true)) else (some ((⟨#[]⟩ : ByteArray), (⟨#[]⟩ : ByteArray), (⟨#[]⟩ : ByteArray), false))) else none else none else none) _
    refine tot_guard (by decide) (tot_guard (by decide) (tot_guard (by decide) (tot_bind (right_cmp a b c cz) (fun r hr => ?_))))
    refine tot_if (fun g => tot_some ⟨fun _ => ⟨jl, by rw [← hr]; exact g⟩, fun g1 n1 v1 e1 h1 => ?_⟩) (fun g => tot_some ⟨(fun h => by cases h), fun g1 n1 v1 e1 h1 => ?_⟩)
    · have := three g1 n1 v1 e1 h1
      rw [hs] at this
      injection this with i1 i2
      injection i2 with i2 i3
      injection i3 with i3 _
      rw [← i1, ← i2, ← i3, tx_data, tx_data, tx_data]
    · have := three g1 n1 v1 e1 h1
      rw [hs] at this
      injection this with i1 i2
      injection i2 with i2 i3
      injection i3 with i3 _
      rw [← i1, ← i2, ← i3, ← hr] at h1
      exact absurd h1 g
theorem or_four (a b c d : Int) (k : Nat) (hk : 6 ≤ k) : cmp_Or_int.f k [a, b, c, d] = some (if a = 0 then (if b = 0 then (if c = 0 then d else c) else b) else a) := by
  obtain ⟨k, rfl⟩ : ∃ j, k = j + 1 + 1 + 1 + 1 + 1 := ⟨k - 5, by omega⟩
  unfold cmp_Or_int.f
  have r0 : rd [a, b, c, d] 0 = a := rfl
  have r1 : rd [a, b, c, d] 1 = b := rfl
  have r2 : rd [a, b, c, d] 2 = c := rfl
  have r3 : rd [a, b, c, d] 3 = d := rfl
  have w0 : wrap64 ((0 : Int) + 1) = 1 := by unfold wrap64; omega
  have w1 : wrap64 ((1 : Int) + 1) = 2 := by unfold wrap64; omega
  have w2 : wrap64 ((2 : Int) + 1) = 3 := by unfold wrap64; omega
  have w3 : wrap64 ((3 : Int) + 1) = 4 := by unfold wrap64; omega
  have l4 : (([a, b, c, d] : List Int).length : Int) = 4 := rfl
  rw [l4, cmp_Or_int.l0, if_pos (by decide), if_pos (by decide), l4, if_pos (by decide), r0, w0]
  by_cases h : a = 0
  · rw [if_pos h, if_pos h, cmp_Or_int.l0, if_pos (by decide), if_pos (by decide), l4, if_pos (by decide), r1, w1]
    by_cases g : b = 0
    · rw [if_pos g, if_pos g, cmp_Or_int.l0, if_pos (by decide), if_pos (by decide), l4, if_pos (by decide), r2, w2]
      by_cases f : c = 0
      · rw [if_pos f, if_pos f, cmp_Or_int.l0, if_pos (by decide), if_pos (by decide), l4, if_pos (by decide), r3, w3]
        by_cases e : d = 0
        · rw [if_pos e, cmp_Or_int.l0, if_neg (by decide), e]
        · rw [if_neg e]
      · rw [if_neg f, if_neg f]
    · rw [if_neg g, if_neg g]
  · rw [if_neg h, if_neg h]
abbrev C3 := List UInt8 × List UInt8 × List UInt8
def cmpC (a b : C3) : Int := if cmpB a.1 b.1 = 0 then (if cmpB a.2.1 b.2.1 = 0 then (if cmpV a.2.2 b.2.2 = 0 then cmpB a.2.2 b.2.2 else cmpV a.2.2 b.2.2) else cmpB a.2.1 b.2.1) else cmpB a.1 b.1
theorem ord_coord : Ord3 cmpC := (ord_bytes.comap (fun a : C3 => a.1)).lex ((ord_bytes.comap (fun a : C3 => a.2.1)).lex ((ord_vers.comap (fun a : C3 => a.2.2)).lex (ord_bytes.comap (fun a : C3 => a.2.2))))
theorem cmpC_zero (a b : C3) (h : cmpC a b = 0) : a = b := by
  unfold cmpC at h
  by_cases p : cmpB a.1 b.1 = 0
  · rw [if_pos p] at h
    by_cases q : cmpB a.2.1 b.2.1 = 0
    · rw [if_pos q] at h
      by_cases r : cmpV a.2.2 b.2.2 = 0
      · rw [if_pos r] at h
        exact Prod.ext (cmpB_zero _ _ p) (Prod.ext (cmpB_zero _ _ q) (cmpB_zero _ _ h))
      · rw [if_neg r] at h; exact absurd h r
    · rw [if_neg q] at h; exact absurd h q
  · rw [if_neg p] at h; exact absurd h p
theorem less_cmp (a0 a1 a2 b0 b1 b2 : List UInt8) (ha : a2.length ≤ 100000) (hb : b2.length ≤ 100000) : Tot (fun k => coord_Less.f k (ts a0) (ts a1) (ts a2) (ts b0) (ts b1) (ts b2)) (fun r => r = decide (cmpC (a0, a1, a2) (b0, b1, b2) < 0)) := by
  unfold coord_Less.f coord_Compare.f
  rw [cmp_told3, cmp_told3, cmp_told3]
  simp only [Option.bind_some]
  refine tot_bind (Q := fun r => r = cmpC (a0, a1, a2) (b0, b1, b2)) (tot_bind (compare_cmp a2 b2 ha hb) (fun c hc => ?_)) (fun r hr => tot_some (by rw [hr]))
  subst hc
  exact tot_bind (tot_ge 6 (fun k hk => or_four _ _ _ _ k hk)) (fun r hr => tot_some hr)
theorem text_cmp (a b c : List UInt8) (h : a.length + b.length + c.length ≤ 4000000000) : coord_Text.f (ts a) (ts b) (ts c) = some (tx (a ++ 58 :: (b ++ 58 :: c))) := by
  have o : (⟨#[58]⟩ : ByteArray) = ts [58] := rfl
  unfold coord_Text.f
  rw [o, ts_append, ts_append, ts_append, ts_append, ts_size, ts_size, ts_size, ts_size, ts_size, ts_size]
  simp only [List.length_append, List.length_cons, List.length_nil]
  rw [if_pos (by omega), if_pos (by omega), if_pos (by omega), if_pos (by omega)]
  congr 1
  show ts _ = ts _
  simp
theorem CoordBackUpto : newellaw09_CoordBack.PureUpto := by
  intro a0_0 a0_1 a0_2 a1_0 a1_1 a1_2 a2 h1 h2 h3 h4 h5 h6 h7 hb
  have key : Tot (fun k => newellaw09_CoordBack.f k a0_0 a0_1 a0_2 a1_0 a1_1 a1_2 a2) (fun r => r = true) := by
    obtain ⟨a0, rfl⟩ : ∃ v, a0_0 = ts v := ⟨_, (ts_data a0_0).symm⟩
    obtain ⟨a1, rfl⟩ : ∃ v, a0_1 = ts v := ⟨_, (ts_data a0_1).symm⟩
    obtain ⟨av, rfl⟩ : ∃ v, a0_2 = ts v := ⟨_, (ts_data a0_2).symm⟩
    obtain ⟨b0, rfl⟩ : ∃ v, a1_0 = ts v := ⟨_, (ts_data a1_0).symm⟩
    obtain ⟨b1, rfl⟩ : ∃ v, a1_1 = ts v := ⟨_, (ts_data a1_1).symm⟩
    obtain ⟨bv, rfl⟩ : ∃ v, a1_2 = ts v := ⟨_, (ts_data a1_2).symm⟩
    obtain ⟨s, rfl⟩ : ∃ v, a2 = ts v := ⟨_, (ts_data a2).symm⟩
    simp only [ts_size] at hb
    have aw : Tot (fun k => newellaw09_awake.f k) (fun r => r = true) := tot_ge 20 (fun k hk => awake_ge k hk)
    have wake : Tot (fun k => newellaw09_CoordBack.j0 k (ts s) true (ts a0) (ts a1) (ts av) (ts b0) (ts b1) (ts bv)) (fun r => r = true) := by
      refine tot_succ ?_ (fun k => by rw [newellaw09_CoordBack.j0])
      exact tot_guard rfl (tot_bind aw (fun r hr => tot_some hr))
    unfold newellaw09_CoordBack.f
    rw [ts_size, ts_size, ts_size]
    refine tot_if (fun _ => wake) (fun va => tot_if (fun _ => wake) (fun vb => ?_))
    by_cases big : (s.length : Int) > 500
    · rw [decide_eq_true big]; exact wake
    · rw [decide_eq_false big]
      have j2 : Tot (fun k => newellaw09_CoordBack.j2 k false (ts a0) (ts a1) (ts av) (ts b0) (ts b1) (ts bv)) (fun r => r = true) := by
        refine tot_succ ?_ (fun k => by rw [newellaw09_CoordBack.j2])
        refine tot_if (fun h => by cases h) (fun _ => tot_bind (less_cmp a0 a1 av b0 b1 bv (by omega) (by omega)) (fun p hp => tot_bind (less_cmp b0 b1 bv a0 a1 av (by omega) (by omega)) (fun q hq => tot_bind aw (fun r hr => tot_guard hr ?_))))
        have an := ord_coord.anti (a0, a1, av) (b0, b1, bv)
        have rg := ord_coord.rng (a0, a1, av) (b0, b1, bv)
        have ez := cmpC_zero (a0, a1, av) (b0, b1, bv)
        have se := ord_coord.self (a0, a1, av)
        simp only [ts_toList]
        have ne : (!(a0 == b0) || (!(a1 == b1) || !(av == bv))) = decide (cmpC (a0, a1, av) (b0, b1, bv) ≠ 0) := by
          by_cases z : cmpC (a0, a1, av) (b0, b1, bv) = 0
          · have e := ez z
            injection e with e1 e2
            injection e2 with e2 e3
            rw [e1, e2, e3, decide_eq_false (by rw [e1, e2, e3] at z; omega)]
            simp
          · rw [decide_eq_true z]
            by_cases x1 : a0 = b0
            · by_cases x2 : a1 = b1
              · by_cases x3 : av = bv
                · exfalso
                  rw [← x1, ← x2, ← x3] at z
                  exact z se
                · simp [x3]
              · simp [x2]
            · simp [x1]
        rw [ne, hp, hq, an]
        refine tot_if (fun x => ?_) (fun x => tot_some ?_)
        · have x' := of_decide_eq_true x
          refine tot_if (fun y => ?_) (fun y => tot_some ?_)
          · have y' := of_decide_eq_true y
            omega
          · rw [decide_eq_true (by omega)]; rfl
        · have x' : ¬ cmpC (a0, a1, av) (b0, b1, bv) < 0 := fun h => x (decide_eq_true h)
          by_cases z : cmpC (a0, a1, av) (b0, b1, bv) = 0
          · rw [decide_eq_false (by omega), decide_eq_false (by omega)]; rfl
          · rw [decide_eq_true (by omega), decide_eq_true (by omega)]; rfl
      have j1 : Tot (fun k => newellaw09_CoordBack.j1 k (ts s) false (ts a0) (ts a1) (ts av) (ts b0) (ts b1) (ts bv)) (fun r => r = true) := by
        refine tot_succ ?_ (fun k => by rw [newellaw09_CoordBack.j1])
        refine tot_if (fun h => by cases h) (fun _ => tot_bind (parse_cmpC s (by omega)) (fun r hr => tot_if (fun g => ?_) (fun _ => j2)))
        obtain ⟨e1, e2⟩ := hr.1 g
        obtain ⟨r0, r1, r2, r3⟩ := r
        obtain ⟨c0, rfl⟩ : ∃ v, r0 = ts v := ⟨_, (ts_data r0).symm⟩
        obtain ⟨c1, rfl⟩ : ∃ v, r1 = ts v := ⟨_, (ts_data r1).symm⟩
        obtain ⟨c2, rfl⟩ : ∃ v, r2 = ts v := ⟨_, (ts_data r2).symm⟩
        dsimp only at e1 e2 ⊢
        rw [ts_list, ts_list, ts_list] at e1 e2
        have le := congrArg List.length e1
        simp only [List.length_append, List.length_cons] at le
        rw [text_cmp c0 c1 c2 (by omega), ← e1]
        simp only [Option.bind_some]
        refine tot_guard rfl (tot_bind (right_cmp (ts c0) (ts c1) (ts c2) (by rw [ts_size]; omega)) (fun r hr => ?_))
        rw [ts_list, ts_list, ts_list, e2] at hr
        rw [hr]
        exact j2
      refine tot_succ ?_ (fun k => by rw [newellaw09_CoordBack.j0])
      have sz : (a0 ++ 58 :: (a1 ++ 58 :: av)).length < 4294967281 := by simp only [List.length_append, List.length_cons]; omega
      rw [text_cmp a0 a1 av (by omega)]
      simp only [Option.bind_some]
      refine tot_if (fun h => by cases h) (fun _ => tot_bind (parse_cmpC _ sz) (fun r hr => tot_bind (right_cmp (ts a0) (ts a1) (ts av) (by rw [ts_size]; omega)) (fun t ht => tot_if (fun g => ?_) (fun _ => j1))))
      rw [ts_list, ts_list, ts_list] at ht
      have e := hr.2 a0 a1 av rfl (by rw [← ht]; exact g)
      rw [e]
      refine tot_guard rfl ?_
      show Tot (fun k => newellaw09_CoordBack.j1 k (ts s) (!((ts a0).toList == (ts a0).toList) || (!((ts a1).toList == (ts a1).toList) || (!((ts av).toList == (ts av).toList)))) (ts a0) (ts a1) (ts av) (ts b0) (ts b1) (ts bv)) _
      rw [beq_self_eq_true, beq_self_eq_true, beq_self_eq_true]
      exact j1
  obtain ⟨k, r, hr, h⟩ := tot_get key
  exact ⟨k, by rw [h k (Nat.le_refl _), hr]⟩
end Go.Proofs.YtgdjfcmmpjcaaaaDoor.Pure
