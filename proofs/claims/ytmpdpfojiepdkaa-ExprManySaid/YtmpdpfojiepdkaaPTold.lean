/-
  What expr.Split tells of any short text, whatever the number of rounds that it is given; two alike lists of pieces are told alike; the program is awake.
-/
import Derived.Test.YtmpdpfojiepdkaaQf13
import Derived.Test.YtmpdpfojiepdkaaQf20
import Derived.Test.YtmpdpfojiepdkaaPSplit
namespace Go.Proofs.Ytmpdpfojiepdkaa.Pure
open Go Go.RowKit Go.Proofs.Ytmpdpfojiepdkaa.Q Go.Proofs.YtmpdpfojiepdkaaW.PrintWords Go.Proofs.YtmpdpfojiepdkaaW.PrintLast Go.Proofs.YtmpdpfojiepdkaaW.Own Go.Proofs.YtmpdpfojiepdkaaW.PrintMore Go.Proofs.YtmpdpfojiepdkaaW.Px
set_option linter.unusedSimpArgs false
set_option linter.unusedVariables false

theorem awake_8 : newellaw10_awake.f 8 = some true := by kernel_rfl
theorem awake_ge (k : Nat) (h : 8 ≤ k) : newellaw10_awake.f k = some true := by
  obtain ⟨j, rfl⟩ := Nat.exists_eq_add_of_le h
  clear h
  induction j with
  | zero => exact awake_8
  | succ j ih => exact newellaw10_awake.mono _ _ ih
theorem has_told (a : ByteArray) (h : a.size < 4294967281) : expr_Has.f a = some (hasN a.data.toList) := by
  unfold expr_Has.f strings_Contains.f
  rw [if_pos h]
  simp only [Option.bind_some]
  rw [← contains_hasN]
theorem split_told (s : ByteArray) (hs : s.size ≤ 1000000) :
    ∃ r e, (∀ k, 2 * s.size + 2 ≤ k → expr_Split.f k s = some (r, e)) ∧ ((e = 17 ∧ r = [] ∧ hasN s.data.toList = true) ∨ (e = 0 ∧ bytesOf r = s.data.toList ∧ (∀ p ∈ r, p.f1.size ≠ 0) ∧ (hasN s.data.toList = false → r.length ≤ 1))) := by
  have hz := ba_size s
  obtain ⟨r, e, h, hx⟩ := split_any s.data.toList.length s.data.toList [] (Nat.le_refl _) (by omega) (by simp only [List.length_nil]; omega)
  refine ⟨r, e, ?_, ?_⟩
  · intro k hk
    obtain ⟨j, rfl⟩ := Nat.exists_eq_add_of_le hk
    unfold expr_Split.f
    rw [tx_data, ← hz] at h
    exact split_mono _ j _ _ _ h
  · rcases hx with hx | ⟨he, t, hr, hb, hp, hn⟩
    · exact Or.inl hx
    · rw [List.nil_append] at hr
      subst hr
      exact Or.inr ⟨he, hb, hp, hn⟩
theorem join_told (l : List S29) (s : ByteArray) (hp : ∀ p ∈ l, p.f1.size ≠ 0) (hb : bytesOf l = s.data.toList) (hs : s.size ≤ 1000000) : expr_Join.f l = some s := by
  unfold expr_Join.f
  have := room_bytes l hp
  rw [hb, ← ba_size] at this
  rw [if_pos (by omega)]
  exact congrArg some (ba_ext (by rw [joined_bytes, hb]))
theorem one_refl (l : List S29) (i : Int) : api_Piece_1.f ((rd_T29 l i).f0) ((rd_T29 l i).f1) ((rd_T29 l i).f0) ((rd_T29 l i).f1) = some true := by unfold api_Piece_1.f; simp
theorem same_end (l : List S29) (i k : Nat) (h : i = l.length) : api_Piece_40.l0 (k + 1) l l (i : Int) = some true := by
  rw [api_Piece_40.l0, if_neg (by omega)]
theorem same_next (l : List S29) (hl : l.length < 4000000000) (i k : Nat) (h : i < l.length) (ih : api_Piece_40.l0 k l l ((i + 1 : Nat) : Int) = some true) : api_Piece_40.l0 (k + 1) l l (i : Int) = some true := by
  have hw : wrap64 ((i : Int) + 1) = ((i + 1 : Nat) : Int) := by unfold wrap64; omega
  rw [api_Piece_40.l0, if_pos (by omega), if_pos (by omega), if_pos (by omega)]
  rw [one_refl]
  rw [Option.bind_some, if_pos rfl, hw]
  exact ih
theorem same_refl (l : List S29) (hl : l.length < 4000000000) (k : Nat) : ∀ (d i : Nat), i + d = l.length → api_Piece_40.l0 (k + d + 1) l l (i : Int) = some true := by
  intro d
  induction d with
  | zero => intro i h; exact same_end l i (k + 0) h
  | succ d ih => intro i h; exact same_next l hl i (k + (d + 1)) (by omega) (ih (i + 1) (by omega))
theorem plain_refl (l : List S29) (k : Nat) (hl : l.length < 4000000000) (hk : l.length < k) : api_Piece_17.f k l l = some true := by
  obtain ⟨j, rfl⟩ := Nat.exists_eq_add_of_le hk
  unfold api_Piece_17.f api_Piece_40.f
  rw [if_pos rfl, show l.length.succ + j = j + l.length + 1 from by omega]
  have := same_refl l hl j l.length 0 (by omega)
  rw [show (0 : Int) = ((0 : Nat) : Int) from rfl, this]
  rfl
theorem bt_some (s : ByteArray) (i : Nat) (h : i < s.size) : ∃ c : UInt8, s.data.toList[i]? = some c ∧ bt s (i : Int) = (c.toNat : Int) := by
  refine ⟨s[i]'h, ?_, ?_⟩
  · rw [List.getElem?_eq_getElem (by rw [← ba_size]; exact h)]; rfl
  · unfold bt; simp [h]
theorem bt_is (c : UInt8) (n : Nat) (hn : n < 256) : ((c.toNat : Int) = (n : Int)) ↔ c = UInt8.ofNat n := by
  constructor
  · intro h
    have : c.toNat = n := by omega
    rw [← this]; simp
  · rintro rfl
    simp; omega
end Go.Proofs.Ytmpdpfojiepdkaa.Pure
