/-
  The plain law of expr.Split: one round of it, what it answers on a text that is put together of pieces, and that what it answers is joined again.
-/
import Derived.Test.YtmpdpfojiepdkaaQf14
import Derived.Test.YtmpdpfojiepdkaaQf18
import Derived.Test.YtmpdpfojiepdkaaLPx
namespace Go.Proofs.Ytmpdpfojiepdkaa.Pure
open Go Go.RowKit Go.Proofs.Ytmpdpfojiepdkaa.Q Go.Proofs.YtmpdpfojiepdkaaW.PrintWords Go.Proofs.YtmpdpfojiepdkaaW.PrintLast Go.Proofs.YtmpdpfojiepdkaaW.Own Go.Proofs.YtmpdpfojiepdkaaW.PrintMore Go.Proofs.YtmpdpfojiepdkaaW.Px
set_option linter.unusedSimpArgs false
set_option linter.unusedVariables false

theorem occ_head {s sub : List UInt8} {c : UInt8} {j : Nat} (h : Lib.occAt s (c :: sub) j = true) : s[j]? = some c := by
  unfold Lib.occAt at h
  obtain ⟨t, ht⟩ := List.isPrefixOf_iff_prefix.1 h
  have : (s.drop j)[0]? = some c := by rw [← ht]; rfl
  simpa using this
theorem cut_at (t r sub : List UInt8) (c : UInt8) (h : ∀ x ∈ t, x ≠ c) : Lib.cut (t ++ ((c :: sub) ++ r)) (c :: sub) = (t, r, true) := by
  have e : Lib.index (t ++ ((c :: sub) ++ r)) (c :: sub) = (t.length : Int) := by
    refine Lib.index_first (by simp) ?_ ?_
    · unfold Lib.occAt
      rw [List.drop_left]
      exact List.isPrefixOf_iff_prefix.2 ⟨r, rfl⟩
    · intro j hj
      rw [Bool.eq_false_iff]
      intro ho
      have := occ_head ho
      rw [List.getElem?_append_left hj] at this
      exact h c (List.mem_of_getElem? this) rfl
  unfold Lib.cut
  rw [e, if_pos (by omega), Int.toNat_natCast, List.take_left, show t.length + (c :: sub).length = (t ++ (c :: sub)).length by simp, ← List.append_assoc, List.drop_left]
theorem cut_none (t sub : List UInt8) (c : UInt8) (h : ∀ x ∈ t, x ≠ c) : Lib.cut t (c :: sub) = (t, [], false) := by
  have e : Lib.index t (c :: sub) = -1 := by
    refine Lib.index_none ?_
    intro j hj
    rw [Bool.eq_false_iff]
    intro ho
    exact h c (List.mem_of_getElem? (occ_head ho)) rfl
  unfold Lib.cut
  rw [e]; rfl
theorem cut_spec (l sep : List UInt8) : (Lib.cut l sep = (l, [], false) ∧ Lib.index l sep = -1) ∨ ∃ b r, Lib.cut l sep = (b, r, true) ∧ l = b ++ (sep ++ r) ∧ Lib.index l sep = (b.length : Int) := by
  rcases Lib.index_spec l sep with ⟨h1, _⟩ | ⟨i, h1, h2, h3, _⟩
  · left
    unfold Lib.cut
    rw [h1]; exact ⟨rfl, rfl⟩
  · right
    unfold Lib.occAt at h3
    obtain ⟨t, ht⟩ := List.isPrefixOf_iff_prefix.1 h3
    refine ⟨l.take i, t, ?_, ?_, ?_⟩
    · unfold Lib.cut
      rw [h1, if_pos (by omega), Int.toNat_natCast, ← List.drop_drop, ← ht, List.drop_left]
    · rw [ht, List.take_append_drop]
    · rw [h1, List.length_take]; omega
theorem containsAny_any (chars : List UInt8) : ∀ l : List UInt8, Lib.containsAny l chars = l.any (fun b => chars.contains b)
  | [] => rfl
  | b :: l => by
    have ih := containsAny_any chars l
    have hg := Lib.indexAny_ge chars l
    unfold Lib.containsAny at ih ⊢
    rw [Lib.indexAny, List.any_cons, ← ih]
    by_cases c : chars.contains b = true
    · rw [if_pos c, c]; rfl
    · rw [if_neg c, Bool.eq_false_iff.2 c, Bool.false_or]
      by_cases d : Lib.indexAny l chars = -1
      · rw [d]; rfl
      · rw [if_neg (by simpa using d), Bool.eq_iff_iff]
        simp only [decide_eq_true_eq]; omega

/-- A text as a piece's. -/
def tx (l : List UInt8) : ByteArray := ⟨l.toArray⟩
theorem tx_toList (l : List UInt8) : (tx l).data.toList = l := rfl
theorem tx_data (a : ByteArray) : tx a.data.toList = a := ba_ext rfl
theorem tx_size (l : List UInt8) : (tx l).size = l.length := by rw [ba_size]; rfl
def txt (l : List UInt8) : S29 := ⟨false, tx l⟩
def nam (l : List UInt8) : S29 := ⟨true, tx l⟩
/-- May these bytes be a name? -/
def goodN (l : List UInt8) : Bool := !l.isEmpty && l.all fun b => b != 36 && b != 123
def more (acc : List S29) (l : List UInt8) : List S29 := if l = [] then acc else acc ++ [txt l]

/-- One round. -/
theorem split_step (k : Nat) (s : List UInt8) (acc : List S29) (hs : s.length < 4294967281) (ha : acc.length + 2 < 5864062014805) :
    expr_Split.l0 (k + 2) (tx s) acc = if (Lib.cut s [36, 123]).2.2 = true then
        (if (Lib.cut (Lib.cut s [36, 123]).2.1 [125]).2.2 = true ∧ goodN (Lib.cut (Lib.cut s [36, 123]).2.1 [125]).1 = true then
          expr_Split.l0 k (tx (Lib.cut (Lib.cut s [36, 123]).2.1 [125]).2.1) (more acc (Lib.cut s [36, 123]).1 ++ [nam (Lib.cut (Lib.cut s [36, 123]).2.1 [125]).1])
        else some ([], 17))
      else some (more acc (Lib.cut s [36, 123]).1, 0) := by
  have hsz : ∀ l : List UInt8, l.length ≤ s.length → (tx l).size < 4294967281 := fun l h => by rw [tx_size]; omega
  have q0 : ∀ (l sep : List UInt8), l.length ≤ s.length → strings_Cut.f (tx l) (tx sep) = some (tx (Lib.cut l sep).1, tx (Lib.cut l sep).2.1, (Lib.cut l sep).2.2) := fun l sep h => by
    unfold strings_Cut.f; rw [if_pos (hsz l h)]; rfl
  have ml : (more acc (Lib.cut s [36, 123]).1).length + 1 < 5864062014805 := by
    unfold more; split
    · omega
    · rw [List.length_append]; simp; omega
  have al : acc.length < 5864062014805 := by omega
  have len : ∀ l sep : List UInt8, (Lib.cut l sep).1.length ≤ l.length ∧ (Lib.cut l sep).2.1.length ≤ l.length := fun l sep => by
    rcases cut_spec l sep with ⟨h, _⟩ | ⟨b, r, h, e, _⟩
    · rw [h]; simp
    · rw [h]
      have := congrArg List.length e
      simp only [List.length_append] at this
      simp only
      omega
  have j1 : ∀ a f, (Lib.cut s [36, 123]).2.1 = a → expr_Split.j1 (k + 1) (more acc (Lib.cut s [36, 123]).1) (tx a) f = if f = true then
        (if (Lib.cut a [125]).2.2 = true ∧ goodN (Lib.cut a [125]).1 = true then
          expr_Split.l0 k (tx (Lib.cut a [125]).2.1) (more acc (Lib.cut s [36, 123]).1 ++ [nam (Lib.cut a [125]).1])
        else some ([], 17)) else some (more acc (Lib.cut s [36, 123]).1, 0) := by
    intro a f ea
    have la : a.length ≤ s.length := ea ▸ (len s [36, 123]).2
    rw [expr_Split.j1]
    by_cases hf : f = true
    · rw [if_pos hf, if_pos hf, show (⟨#[125]⟩ : ByteArray) = tx [125] from rfl, q0 a [125] la]
      simp only [Option.bind_some]
      by_cases hg : (Lib.cut a [125]).2.2 = true
      · rw [if_pos hg]
        by_cases he : (Lib.cut a [125]).1 = []
        · rw [if_pos (by rw [ba_toList, tx_toList]; exact he), if_neg (by intro h; rw [he] at h; exact absurd h.2 (by decide))]
        · rw [if_neg (by rw [ba_toList, tx_toList]; exact he)]
          have hc : strings_ContainsAny.f (tx (Lib.cut a [125]).1) (⟨#[36, 123]⟩ : ByteArray) = some (Lib.containsAny (Lib.cut a [125]).1 [36, 123]) := by
            unfold strings_ContainsAny.f
            rw [if_pos ⟨hsz _ (Nat.le_trans (len a [125]).1 la), by decide, by decide, by decide⟩]; rfl
          rw [hc]
          simp only [Option.bind_some]
          have gn : goodN (Lib.cut a [125]).1 = !(Lib.containsAny (Lib.cut a [125]).1 [36, 123]) := by
            rw [containsAny_any]
            unfold goodN
            have : (Lib.cut a [125]).1.isEmpty = false := by cases hq : (Lib.cut a [125]).1 with | nil => exact absurd hq he | cons _ _ => rfl
            rw [this, List.all_eq_not_any_not]
            simp only [Bool.not_false, Bool.true_and]
            congr 1
            congr 1
            funext b
            rw [Bool.eq_iff_iff]
            simp
          by_cases hn : Lib.containsAny (Lib.cut a [125]).1 [36, 123] = true
          · rw [if_pos hn, if_neg (by rw [gn, hn]; simp)]
          · rw [if_neg hn, if_pos (by omega), if_pos ⟨hg, by rw [gn, Bool.eq_false_iff.2 hn]; rfl⟩]
            rfl
      · rw [if_neg hg, if_neg (by intro h; exact hg h.1)]
    · rw [if_neg hf, if_neg hf]
  rw [expr_Split.l0, show (⟨#[36, 123]⟩ : ByteArray) = tx [36, 123] from rfl, q0 s [36, 123] (Nat.le_refl _)]
  simp only [Option.bind_some]
  rw [← j1 _ _ rfl]
  by_cases he : (Lib.cut s [36, 123]).1 = []
  · rw [if_pos (by rw [ba_toList, tx_toList]; exact he)]
    unfold more
    rw [if_pos he]
  · rw [if_neg (by rw [ba_toList, tx_toList]; exact he), if_pos al]
    conv => rhs; unfold more
    rw [if_neg he]
    rfl
theorem split_mono (k j : Nat) (s : ByteArray) (acc : List S29) (r) (h : expr_Split.l0 k s acc = some r) : expr_Split.l0 (k + j) s acc = some r := by
  induction j with
  | zero => exact h
  | succ j ih => exact (expr_Split.mono_l (k + j)).1 _ _ _ ih

/-- The bytes of pieces. -/
def bytesOf : List S29 → List UInt8
  | [] => []
  | p :: l => (if p.f0 = true then 36 :: 123 :: (p.f1.data.toList ++ [125]) else p.f1.data.toList) ++ bytesOf l
theorem bytesOf_append (a b : List S29) : bytesOf (a ++ b) = bytesOf a ++ bytesOf b := by
  induction a with
  | nil => rfl
  | cons p l ih => rw [List.cons_append, bytesOf, bytesOf, ih, List.append_assoc]
theorem joined_bytes (l : List S29) : (ExprJoin.joined l).data.toList = bytesOf l := by
  have g : ∀ (l : List S29) (s : ByteArray), (l.foldl (fun s p => s ++ ExprJoin.piece p) s).data.toList = s.data.toList ++ bytesOf l := by
    intro l
    induction l with
    | nil => intro s; simp [bytesOf]
    | cons p l ih =>
      intro s
      rw [List.foldl_cons, ih, ba_append, bytesOf, List.append_assoc]
      congr 2
      unfold ExprJoin.piece
      by_cases c : p.f0 = true
      · rw [if_pos c, if_pos c, ba_append, ba_append]; rfl
      · rw [if_neg c, if_neg c]
  have := g l ⟨#[]⟩
  unfold ExprJoin.joined
  rw [this]; rfl
theorem room_bytes (l : List S29) (h : ∀ p ∈ l, p.f1.size ≠ 0) : ExprJoin.room l ≤ 4 * (bytesOf l).length := by
  induction l with
  | nil => simp [ExprJoin.room, bytesOf]
  | cons p l ih =>
    have i := ih (fun q hq => h q (List.mem_cons_of_mem _ hq))
    have hp := h p (List.mem_cons_self ..)
    have hz := ba_size p.f1
    unfold ExprJoin.room at i ⊢
    rw [List.map_cons, List.sum_cons, bytesOf, List.length_append]
    split
    · simp only [List.length_cons, List.length_append, List.length_nil]; omega
    · omega

/-- What any text is split into: it is told, or refused; what is told is the text again, of pieces that are not empty. -/
theorem split_any : ∀ (n : Nat) (s : List UInt8) (acc : List S29), s.length ≤ n → s.length < 4294967281 → acc.length + 2 * s.length + 2 < 5864062014805 →
    ∃ r e, expr_Split.l0 (2 * n + 2) (tx s) acc = some (r, e) ∧ ((e = 17 ∧ r = [] ∧ hasN s = true) ∨ (e = 0 ∧ ∃ t, r = acc ++ t ∧ bytesOf t = s ∧ (∀ p ∈ t, p.f1.size ≠ 0) ∧ (hasN s = false → t.length ≤ 1))) := by
  intro n
  induction n with
  | zero =>
    intro s acc h0 h1 h2
    obtain rfl : s = [] := List.eq_nil_of_length_eq_zero (by omega)
    rw [show 2 * 0 + 2 = 0 + 2 from rfl, split_step 0 [] acc (by simp) (by simp at h2; omega)]
    refine ⟨acc, 0, by simp [Lib.cut, Lib.index, more], Or.inr ⟨rfl, [], by simp, rfl, by simp, by simp⟩⟩
  | succ n ih =>
    intro s acc h0 h1 h2
    rw [show 2 * (n + 1) + 2 = (2 * n + 2) + 2 from by omega, split_step _ s acc h1 (by omega)]
    rcases cut_spec s [36, 123] with ⟨hc, hi⟩ | ⟨b, r, hc, e, hi⟩
    · rw [hc]
      simp only [Bool.false_eq_true, if_false]
      refine ⟨_, _, rfl, Or.inr ⟨rfl, ?_⟩⟩
      unfold more
      by_cases z : s = []
      · rw [if_pos z]; exact ⟨[], by simp, by rw [z]; rfl, by simp, by simp⟩
      · rw [if_neg z]
        refine ⟨[txt s], rfl, by simp [bytesOf, txt, tx_toList], ?_, by simp⟩
        intro p hp
        obtain rfl := List.mem_singleton.1 hp
        show (tx s).size ≠ 0
        rw [tx_size]
        intro h
        exact z (List.eq_nil_of_length_eq_zero h)
    · rw [hc]
      simp only [if_true]
      have hN : hasN s = true := by
        rw [← contains_hasN]
        unfold Lib.contains
        rw [hi]; simp
      rcases cut_spec r [125] with ⟨hd, _⟩ | ⟨m, t, hd, e2, _⟩
      · rw [hd]
        simp only [Bool.false_eq_true, false_and, if_false]
        exact ⟨_, _, rfl, Or.inl ⟨rfl, rfl, hN⟩⟩
      · rw [hd]
        simp only [true_and]
        by_cases g : goodN m = true
        · rw [if_pos g]
          have ls : s.length = b.length + (2 + (m.length + (1 + t.length))) := by rw [e, e2]; simp; omega
          have lm : (more acc b ++ [nam m]).length ≤ acc.length + 2 := by
            unfold more; split
            · simp
            · simp
          obtain ⟨r', e', hr, hx⟩ := ih t (more acc b ++ [nam m]) (by omega) (by omega) (by omega)
          refine ⟨r', e', hr, ?_⟩
          rcases hx with hx | ⟨he, u, hu, hb, hp, _⟩
          · exact Or.inl ⟨hx.1, hx.2.1, hN⟩
          · refine Or.inr ⟨he, ?_⟩
            have hz : ∀ l : List UInt8, l ≠ [] → (tx l).size ≠ 0 := fun l hl h => hl (List.eq_nil_of_length_eq_zero (by rw [← tx_size]; exact h))
            have gm : m ≠ [] := by intro h; rw [h] at g; exact absurd g (by decide)
            unfold more at hu
            by_cases z : b = []
            · rw [if_pos z] at hu
              refine ⟨[nam m] ++ u, by rw [hu, List.append_assoc], ?_, ?_, fun h => by rw [hN] at h; cases h⟩
              · rw [bytesOf_append, hb, e, e2, z]; simp [bytesOf, nam, tx_toList]
              · intro p hp'
                rcases List.mem_append.1 hp' with h | h
                · obtain rfl := List.mem_singleton.1 h; exact hz m gm
                · exact hp p h
            · rw [if_neg z] at hu
              refine ⟨[txt b, nam m] ++ u, by rw [hu]; simp, ?_, ?_, fun h => by rw [hN] at h; cases h⟩
              · rw [bytesOf_append, hb, e, e2]; simp [bytesOf, nam, txt, tx_toList]
              · intro p hp'
                rcases List.mem_append.1 hp' with h | h
                · rcases List.mem_cons.1 h with rfl | h
                  · exact hz b z
                  · obtain rfl := List.mem_singleton.1 h; exact hz m gm
                · exact hp p h
        · rw [if_neg g]
          exact ⟨_, _, rfl, Or.inl ⟨rfl, rfl, hN⟩⟩
end Go.Proofs.Ytmpdpfojiepdkaa.Pure
