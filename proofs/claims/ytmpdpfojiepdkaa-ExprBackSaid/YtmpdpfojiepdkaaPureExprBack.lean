/- The plain law of ExprBack, about the functions that the walks compute. -/
import Derived.Test.YtmpdpfojiepdkaaBExprBack
import Derived.Test.YtmpdpfojiepdkaaPTold
namespace Go.Proofs.Ytmpdpfojiepdkaa.Pure
open Go Go.RowKit Go.Proofs.Ytmpdpfojiepdkaa.Q Go.Proofs.YtmpdpfojiepdkaaW.PrintWords Go.Proofs.YtmpdpfojiepdkaaW.PrintLast Go.Proofs.YtmpdpfojiepdkaaW.Own Go.Proofs.YtmpdpfojiepdkaaW.PrintMore Go.Proofs.YtmpdpfojiepdkaaW.Px
set_option linter.unusedSimpArgs false
set_option linter.unusedVariables false
def fit (b : UInt8) : Bool := b != 36 && b != 123 && b != 125
theorem good_loop (s : ByteArray) (hs : s.size ≤ 1000000) : ∀ (d i k : Nat) (b : Bool), i + d = s.size → newellaw10_ExprBack.l0 (k + d) s b (i : Int) = newellaw10_ExprBack.l0 k s (b && (s.data.toList.drop i).all fit) (s.size : Int) := by
  intro d
  induction d with
  | zero =>
    intro i k b h
    obtain rfl : i = s.size := by omega
    rw [ba_size s, List.drop_length]
    simp
  | succ d ih =>
    intro i k b h
    have hw : wrap64 ((i : Int) + 1) = ((i + 1 : Nat) : Int) := by unfold wrap64; omega
    obtain ⟨c, hc, hb⟩ := bt_some s i (by omega)
    have hd : s.data.toList.drop i = c :: s.data.toList.drop (i + 1) := by
      rw [List.drop_eq_getElem_cons (by rw [← ba_size]; omega)]
      rw [List.getElem?_eq_getElem (by rw [← ba_size]; omega)] at hc
      rw [Option.some.inj hc]
    rw [show k + (d + 1) = (k + d) + 1 from by omega, newellaw10_ExprBack.l0, if_pos (by omega), hw, hd, List.all_cons]
    have e36 : (c.toNat : Int) = 36 ↔ c = 36 := bt_is c 36 (by decide)
    have e123 : (c.toNat : Int) = 123 ↔ c = 123 := bt_is c 123 (by decide)
    have e125 : (c.toNat : Int) = 125 ↔ c = 125 := bt_is c 125 (by decide)
    rw [if_pos (show (0 : Int) ≤ (i : Int) by omega), hb]
    by_cases hq : b = true
    · rw [if_pos hq, hq]
      by_cases h1 : c = 36
      · rw [if_pos (e36.2 h1), ih _ _ _ (by omega)]
        subst h1; rfl
      · rw [if_neg (fun h => h1 (e36.1 h))]
        by_cases h2 : c = 123
        · rw [if_pos (e123.2 h2), ih _ _ _ (by omega)]
          subst h2; rfl
        · rw [if_neg (fun h => h2 (e123.1 h)), ih _ _ _ (by omega)]
          have : ((c.toNat : Int) != 125) = fit c := by
            unfold fit
            rw [Bool.eq_iff_iff]
            simp [h1, h2]
            exact not_congr e125
          rw [this, Bool.true_and]
    · rw [if_neg hq, ih _ _ _ (by omega), Bool.eq_false_iff.2 hq]; rfl
theorem split_name (m : List UInt8) (hm : m ≠ []) (hf : m.all fit = true) (hl : m.length ≤ 1000000) (k : Nat) : expr_Split.f (k + 4) (tx (36 :: 123 :: (m ++ [125]))) = some ([nam m], 0) := by
  have hq : ∀ x ∈ m, fit x = true := fun x hx => List.all_eq_true.1 hf x hx
  have g : goodN m = true := by
    unfold goodN
    have : m.isEmpty = false := by cases m with | nil => exact absurd rfl hm | cons _ _ => rfl
    rw [this]
    simp only [Bool.not_false, Bool.true_and, List.all_eq_true]
    intro x hx
    have := hq x hx
    unfold fit at this
    simp only [Bool.and_eq_true] at this
    simp only [Bool.and_eq_true]
    exact this.1
  have c1 : Lib.cut (36 :: 123 :: (m ++ [125])) [36, 123] = ([], m ++ [125], true) := cut_at [] (m ++ [125]) [123] 36 (by simp)
  have c2 : Lib.cut (m ++ [125]) [125] = (m, [], true) := by
    refine cut_at m [] [] 125 ?_
    intro x hx h
    have := hq x hx
    rw [h] at this
    exact absurd this (by decide)
  unfold expr_Split.f
  rw [show k + 4 = (k + 2) + 2 from rfl, split_step _ _ _ (by simp; omega) (by simp), c1]
  simp only [if_true]
  rw [c2]
  simp only [true_and]
  rw [if_pos g, split_step _ _ _ (by simp) (by simp [more])]
  simp [Lib.cut, Lib.index, more]
theorem split_dollar (m : List UInt8) (hl : m.length ≤ 100000) : ∃ r e, (∀ k, 2 * (m.length + 3) + 2 ≤ k → expr_Split.f k (tx (36 :: 123 :: (m ++ [125]))) = some (r, e)) ∧ (e = 17 ∨ 0 < r.length) := by
  obtain ⟨r, e, h, hx⟩ := split_told (tx (36 :: 123 :: (m ++ [125]))) (by rw [tx_size]; simp; omega)
  have hz : (tx (36 :: 123 :: (m ++ [125]))).size = m.length + 3 := by rw [tx_size]; simp
  rw [hz] at h
  refine ⟨r, e, h, ?_⟩
  rcases hx with hx | ⟨_, hb, _, _⟩
  · exact Or.inl hx.1
  · right
    cases r with
    | nil => rw [tx_toList] at hb; exact absurd hb (by simp [bytesOf])
    | cons p l => simp
theorem ExprBack : newellaw10_ExprBack.Pure := by
  intro a0 a1 _ _
  refine ⟨2999 + 1, ?_⟩
  unfold newellaw10_ExprBack.f
  by_cases c0 : (a0.size : Int) > 500
  · rw [if_pos c0, newellaw10_ExprBack.j0, if_pos rfl, awake_ge _ (by decide)]; rfl
  rw [if_neg c0]
  by_cases c1 : (a1.size : Int) > 100
  · rw [decide_eq_true c1, newellaw10_ExprBack.j0, if_pos rfl, awake_ge _ (by decide)]; rfl
  rw [decide_eq_false c1, newellaw10_ExprBack.j0, if_neg (by decide)]
  have h0 : a0.size ≤ 500 := by omega
  have h1 : a1.size ≤ 100 := by omega
  have last : newellaw10_ExprBack.j2 (2997 + 1) a1 false = some true := by
    rw [newellaw10_ExprBack.j2, if_neg (by decide)]
    have hg := good_loop a1 (by omega) a1.size 0 (2997 - a1.size) (a1.toList != []) (by omega)
    rw [show 2997 - a1.size + a1.size = 2997 from by omega, show ((0 : Nat) : Int) = 0 from rfl] at hg
    rw [hg, show 2997 - a1.size = (2996 - a1.size) + 1 from by omega, newellaw10_ExprBack.l0, if_neg (by omega), if_pos (by omega)]
    have hz : ((⟨#[36, 123]⟩ : ByteArray) ++ a1).size = 2 + a1.size := by rw [ByteArray.size_append]; rfl
    rw [if_pos (by omega)]
    have ht : ((⟨#[36, 123]⟩ : ByteArray) ++ a1) ++ (⟨#[125]⟩ : ByteArray) = tx (36 :: 123 :: (a1.data.toList ++ [125])) := by
      apply ba_ext; rw [ba_append, ba_append]; rfl
    have hlen := ba_size a1
    rw [ht, List.drop_zero, ba_toList]
    by_cases hr : (a1.data.toList != [] && a1.data.toList.all fit) = true
    · rw [hr]
      rw [Bool.and_eq_true, bne_iff_ne] at hr
      rw [show 2996 - a1.size = (2992 - a1.size) + 4 from by omega, split_name _ hr.1 hr.2 (by omega)]
      simp only [Option.bind_some, if_true]
      rw [awake_ge _ (by omega)]
      simp only [Option.bind_some, if_true]
      rw [show ([⟨true, a1⟩] : List S29) = [nam a1.data.toList] from by unfold nam; rw [tx_data], plain_refl _ _ (by simp) (by simp)]
      rfl
    · rw [Bool.eq_false_iff.2 hr]
      obtain ⟨r, e, h, hx⟩ := split_dollar a1.data.toList (by omega)
      rw [h _ (by omega)]
      simp only [Option.bind_some, Bool.false_eq_true, if_false]
      rw [awake_ge _ (by omega)]
      simp only [Option.bind_some, if_true]
      by_cases he : e = 17
      · rw [if_pos he]
      · rw [if_neg he, decide_eq_true (by rcases hx with hx | hx; exact absurd hx he; omega)]
  obtain ⟨r, e, h, hx⟩ := split_told a0 (by omega)
  rw [h _ (by omega)]
  simp only [Option.bind_some]
  have mid : ∀ b, b = false → newellaw10_ExprBack.j1 (2998 + 1) a0 a1 r e b = some true := by
    intro b hb
    rw [newellaw10_ExprBack.j1, if_neg (by rw [hb]; decide), has_told a0 (by omega)]
    simp only [Option.bind_some]
    by_cases hh : hasN a0.data.toList = true
    · rw [if_pos hh, last]
    · rw [if_neg hh]
      have hf := Bool.eq_false_iff.2 hh
      rcases hx with hx | ⟨he, hb', hp, hn⟩
      · rw [hf] at hx; exact absurd hx.2.2 (by decide)
      · rw [if_pos he, decide_eq_false (by have := hn hf; omega), last]
  rcases hx with hx | ⟨he, hb, hp, hn⟩
  · rw [if_neg (by rw [hx.1]; decide), mid false rfl]
  · rw [if_pos he, join_told r a0 hp hb (by omega), Option.bind_some]
    exact mid _ (by rw [bne_self_eq_false])
end Go.Proofs.Ytmpdpfojiepdkaa.Pure
