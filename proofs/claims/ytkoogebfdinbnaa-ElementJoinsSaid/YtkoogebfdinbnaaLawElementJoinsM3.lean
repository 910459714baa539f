/- Texts put together: what functions of the program compute, and plain words about them. -/
import Derived.Test.YtkoogebfdinbnaaLawElementJoinsM1
import Derived.Test.YtkoogebfdinbnaaLawElementJoinsM2
import Derived.Deep.RegionLaw
import Derived.Lib.Hide
import Derived.StillTailTactics
import Derived.Outline
import Derived.Laws.Cover4

-- Printed by this session's wip/np.py over the kit's print program. Not trusted: Lean checks it.
namespace Go.Proofs.Ytkoogebfdinbnaa.Q
open Go.RowKit Go.Proofs.YtkoogebfdinbnaaW.PrintWords Go.Proofs.YtkoogebfdinbnaaW.PrintLast Go.Proofs.YtkoogebfdinbnaaW.Own Go.Proofs.YtkoogebfdinbnaaW.PrintMore
attribute [local go_sem] max2_int min2_int max_two min_two max_three min_three max_four min_four
set_option linter.unusedVariables false
set_option linter.unusedSimpArgs false

/-! ### element_builder_take: function 20 -/
/-- What a token's call answers: an error, or nothing and the builder behind it. -/
def Res (w w' : World) (e : Ending) (B g : Nat) (s : Except Int El.St) : Prop :=
 ∃ r : Int, e = .returned (.int .i64 r) ∧ Below B w w' ∧ ((s = .error r ∧ r ≠ 0) ∨ (r = 0 ∧ ∃ t, s = .ok t ∧ BAt w' B g w'.heap.size t.1 t.2))
/-- What is so of the builder all along: T: how long its texts are at most. -/
def Inv (l : List El.Nd) (op : List Int) (T : Nat) : Prop := l.length ≤ 2000 ∧ op.length ≤ 20 ∧ (∀ i ∈ op, 0 ≤ i ∧ i < (l.length : Int)) ∧ ∀ n ∈ l, n.f2.size ≤ T
theorem inv_nil : Inv [] [] 0 := ⟨Nat.zero_le _, Nat.zero_le _, fun _ h => absurd h (by simp), fun _ h => absurd h (by simp)⟩
theorem inv_put {l : List El.Nd} {op : List Int} {T T' : Nat} (h : Inv l op T) (n : El.Nd) (hl : l.length < 2000) (hn : n.f2.size ≤ T') (ht : T ≤ T') : Inv (l ++ [n]) op T' := by
 obtain ⟨h1, h2, h3, h4⟩ := h
 refine ⟨by rw [List.length_append, List.length_singleton]; omega, h2, fun i hi => ?_, fun x hx => ?_⟩
 ·have := h3 i hi
  rw [List.length_append, List.length_singleton]
  omega
 ·rcases List.mem_append.1 hx with hx | hx
  ·have := h4 x hx; omega
  ·rw [List.mem_singleton] at hx; rw [hx]; exact hn
theorem inner_mem {op : List Int} (h : ¬ El.inner op < 0) : ∃ x, op.getLast? = some x ∧ El.inner op = x := by
 unfold El.inner at *
 cases hx : op.getLast? with
 | none => rw [hx] at h; exact absurd (show (-1 : Int) < 0 by omega) h
 | some x => exact ⟨x, rfl, rfl⟩
theorem inner_in {l : List El.Nd} {op : List Int} {T : Nat} (h : Inv l op T) (hi : ¬ El.inner op < 0) : 0 ≤ El.inner op ∧ El.inner op < (l.length : Int) := by
 obtain ⟨x, hx, e⟩ := inner_mem hi
 rw [e]
 exact h.2.2.1 x (List.mem_of_getLast? hx)
theorem inv_take {l : List El.Nd} {op : List Int} {T : Nat} (h : Inv l op T) (t : El.Tok) (s : El.St) (ht : El.take l op t = .ok s) : Inv s.1 s.2 (T + t.f2.size) := by
 have hm : ∀ n ∈ l, n.f2.size ≤ T + t.f2.size := fun n hn => by have := h.2.2.2 n hn; omega
 have same : Inv l op (T + t.f2.size) := ⟨h.1, h.2.1, h.2.2.1, hm⟩
 have putd : ∀ (nm tx : ByteArray) (at_ : List El.Att) (l' : List El.Nd), tx.size ≤ T + t.f2.size → El.put l op nm tx at_ = some l' → Inv l' op (T + t.f2.size) ∧ l'.length = l.length + 1 := by
  intro nm tx at_ l' htx hp
  unfold El.put at hp
  split at hp
  ·rename_i hl
   injection hp with hp
   rw [← hp]
   exact ⟨inv_put h _ hl htx (by omega), by simp⟩
  ·cases hp
 unfold El.take at ht
 split at ht
 ·injection ht with ht; rw [← ht]; exact same
 split at ht
 ·injection ht with ht; rw [← ht]; exact same
 split at ht
 ·unfold El.begin_ at ht
  split at ht
  ·cases ht
  split at ht
  ·cases ht
  split at ht
  ·cases ht
  rename_i hop
  split at ht
  ·cases ht
  ·rename_i l' hp
   injection ht with ht
   obtain ⟨h1, h2⟩ := putd _ _ _ l' (by show (0 : Nat) ≤ _; omega) hp
   rw [← ht]
   show Inv l' (if t.f4 = true then op else op ++ [(l.length : Int)]) _
   split
   ·exact h1
   ·refine ⟨h1.1, by rw [List.length_append, List.length_singleton]; omega, fun i hi => ?_, h1.2.2.2⟩
    rcases List.mem_append.1 hi with hi | hi
    ·exact h1.2.2.1 i hi
    ·rw [List.mem_singleton] at hi; rw [hi, h2]; omega
 split at ht
 ·unfold El.end_ at ht
  split at ht
  ·cases ht
  split at ht
  ·injection ht with ht
   rw [← ht]
   exact ⟨same.1, by rw [List.length_dropLast]; have := same.2.1; show op.length - 1 ≤ 20; omega, fun i hi => same.2.2.1 i (by have hi : i ∈ op.dropLast := hi; rw [List.dropLast_eq_take] at hi; exact List.mem_of_mem_take hi), hm⟩
  ·cases ht
 split at ht
 ·unfold El.text at ht
  split at ht
  ·split at ht
   ·injection ht with ht; rw [← ht]; exact same
   ·cases ht
  split at ht
  ·injection ht with ht; rw [← ht]; exact same
  split at ht
  ·rename_i k hk
   have hkl := El.lastI_lt l _ k hk
   split at ht
   ·injection ht with ht
    rw [← ht]
    refine ⟨by rw [List.length_set]; exact h.1, h.2.1, fun i hi => by rw [List.length_set]; exact h.2.2.1 i hi, fun n hn => ?_⟩
    rcases List.mem_or_eq_of_mem_set hn with hn | hn
    ·exact hm n hn
    ·rw [hn]
     show ((l.getD k El.zn).f2 ++ t.f2).size ≤ _
     rw [ByteArray.size_append]
     have : (l.getD k El.zn) ∈ l := by rw [List.getD_eq_getElem?_getD, List.getElem?_eq_getElem hkl]; exact List.getElem_mem hkl
     have := h.2.2.2 _ this
     omega
   ·split at ht
    ·cases ht
    ·rename_i l' hp
     injection ht with ht
     rw [← ht]
     exact (putd _ _ _ l' (by omega) hp).1
  ·split at ht
   ·cases ht
   ·rename_i l' hp
    injection ht with ht
    rw [← ht]
    exact (putd _ _ _ l' (by omega) hp).1
 ·cases ht
theorem begin_all (B g N : Nat) (l : List El.Nd) (op : List Int) (T : Nat) (t : El.Tok) (A3 : Option Addr) (c3 : Nat) (w : World) (h : BAt w B g N l op) (hI : Inv l op T) (hc3 : Kd.C k68 w A3 t.f3.length t.f3) (hlen : t.f3.length ≤ 1000000) :
 Calls Try.prog 29 #[.pointer (some ⟨g, 0, none⟩), .agg #[.int .i64 t.f0, .string t.f1, .string t.f2, .slice A3 t.f3.length c3, .bool t.f4]] w fun e w' => Res w w' e B g (El.begin_ l op t) := by
 obtain ⟨hgB, hgl, hpos⟩ := h.ge
 have hBw : B ≤ w.heap.size := Nat.le_of_lt (Nat.lt_of_le_of_lt hgB hgl)
 obtain ⟨i1, i2, i3, i4⟩ := hI
 have early := fun r hr => (element_builder_begin.early B g N l op t (.slice A3 t.f3.length c3) r w h (by omega) (by omega) hr)
 unfold El.begin_
 by_cases c1 : t.f1 = El.nul
 ·rw [if_pos c1]
  refine (early 5 (by rw [if_pos c1])).mono ?_
  rintro e w' ⟨rfl, b⟩
  exact ⟨5, rfl, b.mono hBw, .inl ⟨rfl, by decide⟩⟩
 rw [if_neg c1]
 by_cases c2 : op = [] ∧ l ≠ []
 ·rw [if_pos c2]
  refine (early 6 (by rw [if_neg c1, if_pos c2])).mono ?_
  rintro e w' ⟨rfl, b⟩
  exact ⟨6, rfl, b.mono hBw, .inl ⟨rfl, by decide⟩⟩
 rw [if_neg c2]
 by_cases c4 : 20 ≤ op.length
 ·rw [if_pos c4]
  refine (early 7 (by rw [if_neg c1, if_neg c2, if_pos c4])).mono ?_
  rintro e w' ⟨rfl, b⟩
  exact ⟨7, rfl, b.mono hBw, .inl ⟨rfl, by decide⟩⟩
 rw [if_neg c4]
 unfold El.put
 by_cases c5 : l.length < 2000
 ·rw [if_pos c5]
  refine (element_builder_begin.room B g N l op t A3 c3 w h hc3 hlen c5 (by omega) (by omega) i3 c1 c2).mono ?_
  rintro e w' ⟨rfl, hb, b⟩
  exact ⟨0, rfl, b, .inr ⟨rfl, _, rfl, hb⟩⟩
 ·rw [if_neg c5]
  refine (element_builder_begin.full B g N l op t A3 c3 w h hc3 hlen (by omega) (by omega) (by omega) i3 c1 c2).mono ?_
  rintro e w' ⟨rfl, b⟩
  exact ⟨3, rfl, b.mono hBw, .inl ⟨rfl, by decide⟩⟩
theorem end_all (B g N : Nat) (l : List El.Nd) (op : List Int) (T : Nat) (t : El.Tok) (va : Value) (w : World) (h : BAt w B g N l op) (hI : Inv l op T) :
 Calls Try.prog 30 #[.pointer (some ⟨g, 0, none⟩), .agg #[.int .i64 t.f0, .string t.f1, .string t.f2, va, .bool t.f4]] w fun e w' => Res w w' e B g (El.end_ l op t) := by
 obtain ⟨hgB, hgl, hpos⟩ := h.ge
 have hBw : B ≤ w.heap.size := Nat.le_of_lt (Nat.lt_of_le_of_lt hgB hgl)
 have i1 := hI.1
 have i2 := hI.2.1
 unfold El.end_
 by_cases c1 : El.inner op < 0
 ·rw [if_pos c1]
  refine (element_builder_end.no B g N l op t va w h (by omega) (by omega) c1).mono ?_
  rintro e w' ⟨rfl, b⟩
  exact ⟨6, rfl, b.mono hBw, .inl ⟨rfl, by decide⟩⟩
 rw [if_neg c1]
 obtain ⟨p0, p1⟩ := inner_in hI c1
 by_cases c2 : (l.getD (El.inner op).toNat El.zn).f1 = t.f1
 ·rw [if_pos c2]
  refine (element_builder_end.yes B g N l op t va w h (by omega) (by omega) p0 p1 c2).mono ?_
  rintro e w' ⟨rfl, hb, b⟩
  exact ⟨0, rfl, b, .inr ⟨rfl, _, rfl, hb⟩⟩
 ·rw [if_neg c2]
  refine (element_builder_end.other B g N l op t va w h (by omega) (by omega) p0 p1 c2).mono ?_
  rintro e w' ⟨rfl, b⟩
  exact ⟨6, rfl, b.mono hBw, .inl ⟨rfl, by decide⟩⟩
theorem text_all (B g N : Nat) (l : List El.Nd) (op : List Int) (T : Nat) (s : ByteArray) (w : World) (h : BAt w B g N l op) (hN : N ≤ w.heap.size) (hG : Glob w) (hI : Inv l op T) (hT : T + s.size ≤ 1000000000) :
 Calls Try.prog 31 #[.pointer (some ⟨g, 0, none⟩), .string s] w fun e w' => Res w w' e B g (El.text l op s) := by
 obtain ⟨hgB, hgl, hpos⟩ := h.ge
 have hBw : B ≤ w.heap.size := Nat.le_of_lt (Nat.lt_of_le_of_lt hgB hgl)
 have i1 := hI.1
 have i2 := hI.2.1
 unfold El.text
 by_cases c1 : El.inner op < 0
 ·rw [if_pos c1]
  refine (element_builder_text.out B g N l op s _ w h hG (by omega) (by omega) c1 rfl).mono ?_
  rintro e w' ⟨rfl, b⟩
  by_cases cb : El.blank s = true
  ·rw [if_pos cb, if_pos cb]
   exact ⟨0, rfl, b.mono hBw, .inr ⟨rfl, _, rfl, (h.below b).now⟩⟩
  ·rw [if_neg cb, if_neg cb]
   exact ⟨6, rfl, b.mono hBw, .inl ⟨rfl, by decide⟩⟩
 rw [if_neg c1]
 obtain ⟨p0, p1⟩ := inner_in hI c1
 by_cases c2 : s = El.nul
 ·rw [if_pos c2]
  refine (element_builder_text.same B g N l op s w h (by omega) p0 c2).mono ?_
  rintro e w' ⟨rfl, b⟩
  exact ⟨0, rfl, b.mono hBw, .inr ⟨rfl, _, rfl, (h.below b).now⟩⟩
 rw [if_neg c2]
 have puts : (∀ k, El.lastI l (El.inner op) = some k → ¬ (rd_T29 l (k : Int)).f1 = El.nul) → Calls Try.prog 31 #[.pointer (some ⟨g, 0, none⟩), .string s] w fun e w' => Res w w' e B g (match El.put l op El.nul s [] with | none => .error 3 | some l' => .ok (l', op)) := by
  intro hnew
  unfold El.put
  by_cases c5 : l.length < 2000
  ·rw [if_pos c5]
   refine (element_builder_text.putroom B g N l op s w h (by omega) p0 p1 c2 hnew c5 hN hI.2.2.1).mono ?_
   rintro e w' ⟨rfl, hb, b⟩
   exact ⟨0, rfl, b, .inr ⟨rfl, _, rfl, hb⟩⟩
  ·rw [if_neg c5]
   refine (element_builder_text.putfull B g N l op s w h (by omega) p0 p1 c2 hnew (by omega) (by omega)).mono ?_
   rintro e w' ⟨rfl, b⟩
   exact ⟨3, rfl, b.mono hBw, .inl ⟨rfl, by decide⟩⟩
 cases hk : El.lastI l (El.inner op) with
 | none => exact puts (fun k h => by rw [hk] at h; cases h)
 | some k =>
  have hkl := El.lastI_lt l _ k hk
  by_cases c3 : (l.getD k El.zn).f1 = El.nul
  ·simp only [if_pos c3]
   have hm : (l.getD k El.zn) ∈ l := by rw [List.getD_eq_getElem?_getD, List.getElem?_eq_getElem hkl]; exact List.getElem_mem hkl
   have hz := hI.2.2.2 _ hm
   refine (element_builder_text.add B g N l op s k w h (by omega) p0 p1 (by omega) c2 hk c3 (by show (l.getD k El.zn).f2.size + _ ≤ _; omega)).mono ?_
   rintro e w' ⟨rfl, hb, b⟩
   exact ⟨0, rfl, b, .inr ⟨rfl, _, rfl, hb⟩⟩
  ·simp only [if_neg c3]
   exact puts (fun k' h => by rw [hk] at h; injection h with h; rw [← h]; exact c3)
set_option maxHeartbeats 8000000 in
set_option maxRecDepth 100000 in
theorem element_builder_take.all (B g N : Nat) (l : List El.Nd) (op : List Int) (T : Nat) (t : El.Tok) (A3 : Option Addr) (c3 : Nat) (w : World) (h : BAt w B g N l op) (hN : N ≤ w.heap.size) (hG : Glob w) (hI : Inv l op T) (hT : T + t.f2.size ≤ 1000000000) (hc3 : Kd.C k68 w A3 t.f3.length t.f3) (hlen : t.f3.length ≤ 1000000) :
 Calls Try.prog 20 #[.pointer (some ⟨g, 0, none⟩), .agg #[.int .i64 t.f0, .string t.f1, .string t.f2, .slice A3 t.f3.length c3, .bool t.f4]] w fun e w' => Res w w' e B g (El.take l op t) := by
 obtain ⟨hgB, hgl, hpos⟩ := h.ge
 have hBw : B ≤ w.heap.size := Nat.le_of_lt (Nat.lt_of_le_of_lt hgB hgl)
 obtain ⟨W, hW⟩ : ∃ W, W = w.alloc (.cells #[.int .i64 t.f0, .string t.f1, .string t.f2, .slice A3 t.f3.length c3, .bool t.f4] 40) := ⟨_, rfl⟩
 have hX : W.heap[w.heap.size]? = some (.cells #[.int .i64 t.f0, .string t.f1, .string t.f2, .slice A3 t.f3.length c3, .bool t.f4] 40 (0, 0)) := by rw [hW]; exact heap_alloc_new w _
 have hBW : Below w.heap.size w W := by rw [hW]; exact below_alloc (Below.refl _ _) _
 have y0 := (blk_cell hX 0).trans rfl
 have y1 := (blk_cell hX 1).trans rfl
 have y2 := (blk_cell hX 2).trans rfl
 have y3 := (blk_cell hX 3).trans rfl
 have y4 := (blk_cell hX 4).trans rfl
 have hb := h.below hBW
 have hNW : N ≤ W.heap.size := Nat.le_trans hN hBW.size
 have C1 := Aside0.mk (begin_all B g N l op T t A3 c3 W hb hI (Kd.C_below hc3 hBW) hlen)
 have C2 := Aside0.mk (end_all B g N l op T t (.slice A3 t.f3.length c3) W hb hI)
 have C3 := Aside0.mk (text_all B g N l op T t.f2 W hb hNW (hG.step hBW) hI hT)
 have HBW := Aside0.mk (hBW.mono hBw)
 have HSAME := Aside0.mk (show Res w W (.returned (.int .i64 0)) B g (.ok (l, op)) from ⟨0, rfl, hBW.mono hBw, .inr ⟨rfl, _, rfl, hb.now⟩⟩)
 have HBAD := Aside0.mk (show Res w W (.returned (.int .i64 5)) B g (.error 5) from ⟨5, rfl, hBW.mono hBw, .inl ⟨rfl, by decide⟩⟩)
 have ht := Try.underlying40
 rw [hW] at C1 C2 C3 HBW y0 y1 y2 y3 y4 HSAME HBAD
 obtain ⟨kd, hkd⟩ : ∃ kd, kd = t.f0 := ⟨_, rfl⟩
 obtain ⟨ans, hans⟩ : ∃ ans, ans = El.take l op t := ⟨_, rfl⟩
 rw [← hans]
 unfold El.take at hans
 rw [← hkd] at hans C1 C2 C3 HBW y0 y1 y2 y3 y4 HSAME HBAD ⊢
 clear h hN hG hI hT hc3 hlen hb hNW hX hBW hW hgB hgl hpos hBw hkd
 have up : ∀ (V w' : World) (e : Ending) (s : Except Int El.St), Below B w V → Res V w' e B g s → Res w w' e B g s := by
  rintro V w' e s hV ⟨r, he, hb, hr⟩
  exact ⟨r, he, hV.trans hb, hr⟩
 go_enter Try.func20, Try.ntmps20
 by_cases k4 : kd = 4
 ·rw [if_pos k4] at hans
  subst k4
  rw [hans]
  have HS := HSAME.out
  go_wp2
  go_ret
  exact HS
 rw [if_neg k4] at hans
 have b4 : (kd == 4) = false := beq_eq_false_iff_ne.mpr k4
 by_cases k5 : kd = 5
 ·rw [if_pos k5] at hans
  subst k5
  rw [hans]
  have HS := HSAME.out
  go_wp2
  go_ret
  exact HS
 rw [if_neg k5] at hans
 have b5 : (kd == 5) = false := beq_eq_false_iff_ne.mpr k5
 by_cases k1 : kd = 1
 ·rw [if_pos k1] at hans
  subst k1
  rw [hans]
  go_wp2_with (first | (go_at_call 29; (with_reducible refine (C1.out).mono ?_); rintro e w2 ⟨r, rfl, hres⟩))
  go_ret
  exact up _ _ _ _ HBW.out ⟨r, rfl, hres⟩
 rw [if_neg k1] at hans
 have b1 : (kd == 1) = false := beq_eq_false_iff_ne.mpr k1
 by_cases k2 : kd = 2
 ·rw [if_pos k2] at hans
  subst k2
  rw [hans]
  go_wp2_with (first | (go_at_call 30; (with_reducible refine (C2.out).mono ?_); rintro e w2 ⟨r, rfl, hres⟩))
  go_ret
  exact up _ _ _ _ HBW.out ⟨r, rfl, hres⟩
 rw [if_neg k2] at hans
 have b2 : (kd == 2) = false := beq_eq_false_iff_ne.mpr k2
 by_cases k3 : kd = 3
 ·rw [if_pos k3] at hans
  subst k3
  rw [hans]
  go_wp2_with (first | (go_at_call 31; (with_reducible refine (C3.out).mono ?_); rintro e w2 ⟨r, rfl, hres⟩))
  go_ret
  exact up _ _ _ _ HBW.out ⟨r, rfl, hres⟩
 ·rw [if_neg k3] at hans
  have b3 : (kd == 3) = false := beq_eq_false_iff_ne.mpr k3
  rw [hans]
  have HS := HBAD.out
  go_wp2
  go_ret
  exact HS


end Go.Proofs.Ytkoogebfdinbnaa.Q

-- Printed by this session's wip/np.py over the kit's print program. Not trusted: Lean checks it.
namespace Go.Proofs.Ytkoogebfdinbnaa.Q
open Go.RowKit Go.Proofs.YtkoogebfdinbnaaW.PrintWords Go.Proofs.YtkoogebfdinbnaaW.PrintLast Go.Proofs.YtkoogebfdinbnaaW.Own Go.Proofs.YtkoogebfdinbnaaW.PrintMore
attribute [local go_sem] max2_int min2_int max_two min_two max_three min_three max_four min_four
set_option linter.unusedVariables false
set_option linter.unusedSimpArgs false

/-! ### element_Tree: function 13 -/
def El.fits (ts : List El.Tok) : Bool := decide ((ts.map fun t => t.f2.size).sum ≤ 1000000000) && ts.all (fun t => decide (t.f3.length ≤ 1000000)) && decide (ts.length ≤ 1000000000)
def element_Tree.f (l0 : List S40) : Option (List S29 × Int) := if El.fits l0 = true then some (El.tree l0) else none
theorem rd_tok (xs : List S40) (i : Nat) (h : i < xs.length) : rd_T40 xs (i : Int) = xs[i] := by
 simp [rd_T40, List.getD, h]
set_option maxHeartbeats 16000000 in
set_option maxRecDepth 100000 in
theorem element_Tree.loop (A0 : Option Addr) (c0 : Nat) (l0 : List S40) (ans : Except Int El.St) (w : World) (hr0 : Kd.C k40 w A0 l0.length l0) (hG : Glob w) (hfit : El.fits l0 = true) (hans : El.all [] [] l0 = ans) :
 Calls Try.prog 13 #[.slice A0 l0.length c0] w fun e w' => Below w.heap.size w w' ∧ (∀ r, ans = .error r → e = .returned (.tuple #[.slice none 0 0, .int .i64 r])) ∧ (∀ s, ans = .ok s → if s.1 = [] ∨ s.2 ≠ [] then e = .returned (.tuple #[.slice none 0 0, .int .i64 6]) else ∃ v0_ : Value, e = .returned (.tuple #[v0_, .int .i64 0]) ∧ Kd.S k29 29 w' w.heap.size (fun _ => True) v0_ s.1) := by
 unfold El.fits at hfit
 simp only [Bool.and_eq_true, decide_eq_true_eq, List.all_eq_true] at hfit
 obtain ⟨⟨hsum, hatt⟩, hlen⟩ := hfit
 have hpos := hG.lt
 obtain ⟨POST, hPOST⟩ : ∃ POST : Ending → World → Prop, POST = fun e w' => Below w.heap.size w w' ∧ (∀ r, ans = .error r → e = .returned (.tuple #[.slice none 0 0, .int .i64 r])) ∧ (∀ s, ans = .ok s → if s.1 = [] ∨ s.2 ≠ [] then e = .returned (.tuple #[.slice none 0 0, .int .i64 6]) else ∃ v0_ : Value, e = .returned (.tuple #[v0_, .int .i64 0]) ∧ Kd.S k29 29 w' w.heap.size (fun _ => True) v0_ s.1) := ⟨_, rfl⟩
 rw [← hPOST]
 have HPO := Lib.hid hPOST
 have HSUM := Lib.hid hsum
 have HATT := Lib.hid hatt
 have HANS := Aside0.mk hans
 have HR := Aside0.mk hr0
 have HG := Aside0.mk hG
 have hu := Try.underlying59
 have ht := Try.underlying40
 clear hPOST hsum hatt hans hr0 hG
 have hmk : (Instr.makeMap 57 none).run Try.prog w = .ok (.map (some w.heap.size)) (w.alloc (.map #[] 0)) := run_makeMap 57 w
 have hms : (w.alloc (.map #[] 0)).heap.size = w.heap.size + 1 := by show Array.size (Array.push _ _) = _; exact Array.size_push _
 go_enter Try.func13, Try.ntmps13
 go_wp2
 refine wp_scope_loop 0 (by rfl) ?_
 go_wp2_with (fail)
 obtain ⟨W, hW⟩ : ∃ W, W = (w.alloc (.map #[] 0)).alloc (.cells #[.slice none 0 0, .slice none 0 0, .map (some w.heap.size)] 59) := ⟨_, rfl⟩
 obtain ⟨g, hg⟩ : ∃ g, g = w.heap.size + 1 := ⟨_, rfl⟩
 obtain ⟨B, hBe⟩ : ∃ B, B = w.heap.size := ⟨_, rfl⟩
 obtain ⟨wb, hwb⟩ : ∃ wb, wb = w := ⟨_, rfl⟩
 have hblk : W.heap[g]? = some (.cells #[.slice none 0 0, .slice none 0 0, .map (some B)] 59 (0, 0)) := by
  rw [hW, hg, hBe, ← hms]; exact heap_alloc_new _ _
 have hmap : W.ownsMap Try.prog 3 (plainElem (H := Unit) Try.prog 3) B 0 (.map []) := by
  rw [hW, hBe]
  exact (World.ownsMap_made w Try.prog 3 _).alloc _
 have hBW : Below B wb W := by
  rw [hW, hBe, hwb]
  exact below_alloc (below_alloc (Below.refl _ _) _) _
 have H2 := Aside0.mk (show BAt W B g W.heap.size [] [] from ⟨_, _, B, 0, _, hblk, Kd.S_nil _ _ _ _ _, Kd.R_nil _ _ _ _ _, hmap, Nat.zero_le _, El.MapIs.none, by omega, Nat.le_refl _, by omega⟩)
 have B2 := Aside0.mk hBW
 have HGb := Aside0.mk (show Glob wb from by rw [hwb]; exact HG.out)
 have HRb := Aside0.mk (show Kd.C k40 wb A0 l0.length l0 from by rw [hwb]; exact HR.out)
 have HBE := Lib.hid (show B = wb.heap.size ∧ 0 < B from by rw [hBe, hwb]; exact ⟨rfl, hpos⟩)
 have HPB := Lib.hid (show POST = fun e w' => Below B wb w' ∧ (∀ r, ans = .error r → e = .returned (.tuple #[.slice none 0 0, .int .i64 r])) ∧ (∀ s, ans = .ok s → if s.1 = [] ∨ s.2 ≠ [] then e = .returned (.tuple #[.slice none 0 0, .int .i64 6]) else ∃ v0_ : Value, e = .returned (.tuple #[v0_, .int .i64 0]) ∧ Kd.S k29 29 w' B (fun _ => True) v0_ s.1) from by rw [hBe, hwb]; exact HPO.out)
 rw [← hW, ← hg]
 clear hblk hmap hBW hW hg hBe hwb HPO HG HR hmk hms hpos
 refine wp_label ?_
 rename_i hlb
 refine hlb _ _ ?_
 refine wp_at_label ?_
 refine LoopAt.intro (fun aB_ kq_ a1 w1 => ∃ (u2 u3 u5 u6 u10 u11 u12 u13 u14 u15 u16 u17 u18 u19 u20 u21 u22 u23 u24 u25 u26 u27 u28 u29 u30 u31 u32 u33 u34 u35 u36 u37 u38 u39 u40 u41 u42 : Value), (∃ (i : Nat) (l : List El.Nd) (op : List Int) (T : Nat), i ≤ l0.length ∧ i + kq_ = l0.length + 1 ∧ u5 = .int .i64 (i : Int) ∧ Aside0 (El.all l op (l0.drop i) = ans) ∧ Aside0 (Inv l op T) ∧ Aside0 (T + ((l0.drop i).map fun t => t.f2.size).sum ≤ 1000000000) ∧ Aside0 (BAt w1 B g w1.heap.size l op) ∧ Aside0 (Below B wb w1)) ∧ a1 = (((((((((((((((((((((((((((((((((((((aB_.put (some 2) u2).put (some 3) u3).put (some 5) u5).put (some 6) u6).put (some 10) u10).put (some 11) u11).put (some 12) u12).put (some 13) u13).put (some 14) u14).put (some 15) u15).put (some 16) u16).put (some 17) u17).put (some 18) u18).put (some 19) u19).put (some 20) u20).put (some 21) u21).put (some 22) u22).put (some 23) u23).put (some 24) u24).put (some 25) u25).put (some 26) u26).put (some 27) u27).put (some 28) u28).put (some 29) u29).put (some 30) u30).put (some 31) u31).put (some 32) u32).put (some 33) u33).put (some 34) u34).put (some 35) u35).put (some 36) u36).put (some 37) u37).put (some 38) u38).put (some 39) u39).put (some 40) u40).put (some 41) u41).put (some 42) u42)) (l0.length + 1) ?_ ?_
 ·(repeat apply Exists.intro)
  (try simp only [Act.put, List.setIfInBounds_toArray, List.set_cons_zero, List.set_cons_succ])
  refine ⟨?_, rfl⟩
  exact ⟨0, [], [], 0, Nat.zero_le _, by omega, rfl, ⟨by rw [List.drop_zero]; exact HANS.out⟩, ⟨inv_nil⟩, ⟨by rw [List.drop_zero, Nat.zero_add]; exact HSUM.out⟩, H2, B2⟩
 ·intro gk a1 wr hinv
  obtain ⟨u2, u3, u5, u6, u10, u11, u12, u13, u14, u15, u16, u17, u18, u19, u20, u21, u22, u23, u24, u25, u26, u27, u28, u29, u30, u31, u32, u33, u34, u35, u36, u37, u38, u39, u40, u41, u42, hrel, ha⟩ := hinv
  subst ha
  (try simp only [Act.put, List.setIfInBounds_toArray, List.set_cons_zero, List.set_cons_succ])
  intro Js0 Ks0 hJs0 hKs0
  clear H2 B2 HANS
  obtain ⟨i, l, op, T, hi, hgk, rfl, HA, HI, HT, H, HB⟩ := hrel
  obtain ⟨g1, rfl⟩ : ∃ g1, gk = g1 + 1 := ⟨gk - 1, by omega⟩
  have HG1 := Aside0.mk (HGb.out.below HB.out HBE.out.2)
  by_cases hlt : i < l0.length
  ·have d1 : decide ((i : Int) < (l0.length : Int)) = true := decide_eq_true (by omega)
   have d1' : decide (i < l0.length) = true := decide_eq_true hlt
   have p1 := eq_true (show (0 : Int) ≤ (i : Int) by omega)
   have p2 := eq_true (show (i : Int) < (l0.length : Int) by omega)
   have p3 := eq_true hlt
   have hC := Kd.C_below (w1 := wr) HRb.out (by have := HB.out; rw [HBE.out.1] at this; exact this)
   obtain ⟨ad, A3, c3, e_, q0, q1, q2, q3, q4, q5, q6⟩ := at_T40 hC (i : Int) (by omega) (by omega)
   cases e_
   simp only [Int.toNat_natCast] at q0 q1 q2 q3 q4
   obtain ⟨tk, htk⟩ : ∃ tk, tk = rd_T40 l0 (i : Int) := ⟨_, rfl⟩
   rw [← htk] at q0 q1 q2 q3 q4 q6
   have hel : tk = l0[i] := by rw [htk, rd_tok l0 i hlt]
   have hdr : l0.drop i = tk :: l0.drop (i + 1) := by rw [List.drop_eq_getElem_cons hlt, hel]
   have hA := HA.out
   have hT := HT.out
   rw [hdr] at hA hT
   simp only [List.map_cons, List.sum_cons] at hT
   have CT := Aside0.mk (element_builder_take.all B g wr.heap.size l op T tk A3 c3 wr H.out (Nat.le_refl _) HG1.out HI.out (by omega) q6 (HATT.out tk (by rw [hel]; exact List.getElem_mem hlt)))
   have HA1 := Aside0.mk hA
   have HT1 := Aside0.mk hT
   have ew : wrap64 ((i : Int) + 1) = ((i + 1 : Nat) : Int) := by unfold wrap64; omega
   have ew' : wrap64 ((i : Int) + 1) = (i : Int) + 1 := by unfold wrap64; omega
   clear hA hT hdr hel htk hC q5 q6 ew'
   go_wp2_with (go_at_call 20; (with_reducible refine CT.out.mono ?_))
   rintro e wn ⟨r, rfl, bn, hres⟩
   have B3 := Aside0.mk (HB.out.trans bn)
   clear bn CT
   rcases hres with ⟨hs, hr⟩ | ⟨rfl, s, hs, hb⟩
   ·have b0 : (r == 0) = false := beq_eq_false_iff_ne.mpr hr
    have b1 : (r != 0) = true := bne_iff_ne.mpr hr
    have hA := HA1.out
    unfold El.all at hA
    rw [hs] at hA
    have HA2 := Aside0.mk hA
    clear hs hr hA
    go_wp2_with (fail)
    (try simp only [Exit.inBlock, Exit.then, jump_ret])
    (try go_ret2)
    rw [HPB.out]
    refine ⟨B3.out, fun r' h => ?_, fun s h => ?_⟩
    ·rw [← HA2.out] at h; injection h with h; subst h; rfl
    ·rw [← HA2.out] at h; cases h
   ·have hA := HA1.out
    unfold El.all at hA
    rw [hs] at hA
    have hI' := inv_take HI.out tk s hs
    have HA2 := Aside0.mk (show El.all s.1 s.2 (l0.drop (i + 1)) = ans from hA)
    have HI2 := Aside0.mk hI'
    have HT2 := Aside0.mk (show T + tk.f2.size + ((l0.drop (i + 1)).map fun t => t.f2.size).sum ≤ 1000000000 from by have := HT1.out; omega)
    have H3 := Aside0.mk hb
    clear hA hI' hs hb
    go_wp2_with (fail)
    refine wp_goto (And.intro rfl ?_)
    refine hKs0 _ _ ?_
    go_roundg g1
    case measure => omega
    case rel => exact ⟨i + 1, s.1, s.2, T + tk.f2.size, by omega, by omega, by first | rfl | (rw [ew]) | (simp; done), HA2, HI2, HT2, H3, B3⟩
  ·have hil : i = l0.length := by omega
   have hA := HA.out
   rw [hil, List.drop_length] at hA
   have hA : .ok (l, op) = ans := hA
   have d1 : decide ((i : Int) < (l0.length : Int)) = false := decide_eq_false (by omega)
   have d1' : decide (i < l0.length) = false := decide_eq_false hlt
   have HA1 := Aside0.mk hA
   have hb := H.out
   obtain ⟨v1, v2, m, n, D, h1, h2, h3, h4, _⟩ := hb
   obtain ⟨A1, c1, rfl⟩ := Kd.S_slice h2
   obtain ⟨A2, c2, rfl⟩ := Kd.R_slice h3
   have x0 := (blk_cell h1 0).trans rfl
   have x1 := (blk_cell h1 1).trans rfl
   have H2 := Aside0.mk h2
   clear h1 h2 h3 h4 hA hil H
   by_cases hl : l = []
   ·have b0 : ((l.length : Int) == 0) = true := by rw [hl]; rfl
    have b0' : (l.length == 0) = true := by rw [hl]; rfl
    have HL := Lib.hid hl
    clear hl
    go_wp2_with (fail)
    (try simp only [Exit.inBlock, Exit.then, jump_ret])
    (try go_ret2)
    rw [HPB.out]
    refine ⟨HB.out, fun r' h => ?_, fun s h => ?_⟩
    ·rw [← HA1.out] at h; cases h
    ·rw [← HA1.out] at h; injection h with h; rw [← h, if_pos (.inl HL.out)]; rfl
   ·have hln : l.length ≠ 0 := fun h => hl (List.eq_nil_of_length_eq_zero h)
    have b0 : ((l.length : Int) == 0) = false := beq_eq_false_iff_ne.mpr (by omega)
    have b0' : (l.length == 0) = false := beq_eq_false_iff_ne.mpr hln
    by_cases ho : op = []
    ·have e0 : decide ((0 : Int) < (op.length : Int)) = false := by rw [ho]; rfl
     have e0' : decide (0 < op.length) = false := by rw [ho]; rfl
     have HL := Lib.hid (And.intro hl ho)
     clear hl ho hln
     go_wp2_with (fail)
     (try simp only [Exit.inBlock, Exit.then, jump_ret])
     (try go_ret2)
     rw [HPB.out]
     refine ⟨HB.out, fun r' h => ?_, fun s h => ?_⟩
     ·rw [← HA1.out] at h; cases h
     ·rw [← HA1.out] at h
      injection h with h
      rw [← h, if_neg (fun h => h.elim HL.out.1 (fun h2 => h2 HL.out.2))]
      exact ⟨_, rfl, Kd.S_mono H2.out (fun _ _ => trivial)⟩
    ·have hon : op.length ≠ 0 := fun h => ho (List.eq_nil_of_length_eq_zero h)
     have e0 : decide ((0 : Int) < (op.length : Int)) = true := decide_eq_true (by omega)
     have e0' : decide (0 < op.length) = true := decide_eq_true (by omega)
     have HL := Lib.hid ho
     clear hl ho hln hon
     go_wp2_with (fail)
     (try simp only [Exit.inBlock, Exit.then, jump_ret])
     (try go_ret2)
     rw [HPB.out]
     refine ⟨HB.out, fun r' h => ?_, fun s h => ?_⟩
     ·rw [← HA1.out] at h; cases h
     ·rw [← HA1.out] at h
      injection h with h
      rw [← h, if_pos (.inr HL.out)]
      rfl
theorem element_Tree.calls (A0 : Option Addr) (c0 : Nat) (l0 : List S40) (r1 : List S29) (r2 : Int) (w : World) (hr0 : Kd.C k40 w A0 l0.length l0) (hc0 : l0.length ≤ c0) (hG : Glob w) (h : element_Tree.f l0 = some (r1, r2)) :
 Calls Try.prog 13 #[.slice A0 l0.length c0] w fun e w' => ∃ v0_ : Value, e = .returned (.tuple #[v0_, .int .i64 r2]) ∧ Kd.S k29 29 w' w.heap.size (fun _ => True) v0_ r1 ∧ Below w.heap.size w w' := by
 unfold element_Tree.f at h
 by_cases hf : El.fits l0 = true
 ·rw [if_pos hf] at h
  have h := Option.some.inj h
  unfold El.tree at h
  refine (element_Tree.loop A0 c0 l0 _ w hr0 hG hf rfl).mono ?_
  rintro e w' ⟨b, he, hs⟩
  cases ha : El.all [] [] l0 with
  | error r =>
   rw [ha] at h
   obtain ⟨rfl, rfl⟩ := Prod.mk.inj h
   exact ⟨_, he r ha, Kd.S_nil _ _ _ _ _, b⟩
  | ok s =>
   rw [ha] at h
   have hs := hs s ha
   simp only at h
   by_cases hq : s.1 = [] ∨ s.2 ≠ []
   ·rw [if_pos hq] at h hs
    obtain ⟨rfl, rfl⟩ := Prod.mk.inj h
    exact ⟨_, hs, Kd.S_nil _ _ _ _ _, b⟩
   ·rw [if_neg hq] at h hs
    obtain ⟨rfl, rfl⟩ := Prod.mk.inj h
    obtain ⟨v, rfl, hv⟩ := hs
    exact ⟨_, rfl, hv, b⟩
 ·rw [if_neg hf] at h
  cases h


end Go.Proofs.Ytkoogebfdinbnaa.Q

-- Printed by this session's wip/np.py over the kit's print program. Not trusted: Lean checks it.
namespace Go.Proofs.Ytkoogebfdinbnaa.Q
open Go.RowKit Go.Proofs.YtkoogebfdinbnaaW.PrintWords Go.Proofs.YtkoogebfdinbnaaW.PrintLast Go.Proofs.YtkoogebfdinbnaaW.Own Go.Proofs.YtkoogebfdinbnaaW.PrintMore
attribute [local go_sem] max2_int min2_int max_two min_two max_three min_three max_four min_four
set_option linter.unusedVariables false
set_option linter.unusedSimpArgs false

/-! ### chars_Allowed: function 23 -/
def chars_Allowed.f (a0 : Int) : Option (Bool) := if a0 > 32 then (some true) else ((chars_Space.f a0).bind fun t101 => (some t101))
set_option maxHeartbeats 8000000 in
set_option maxRecDepth 100000 in
theorem chars_Allowed.calls (a0 : Int) (r : Bool) (w : World) (hG : Glob w) (h : chars_Allowed.f a0 = some r) :
 Calls Try.prog 23 #[.int .u8 a0] w fun e w' => e = .returned (.bool r) ∧ Drawn0 w w' := by
 have HG := Aside0.mk hG
 clear hG
 have H : (if a0 > 32 then (some true) else ((chars_Space.f a0).bind fun t101 => (some t101))) = some r := h
 clear h
 by_cases c2 : a0 > 32
 ·rw [if_pos c2] at H
  have c2b0 : decide (32 < a0) = true := decide_eq_true c2
  clear c2
  obtain rfl := Option.some.inj H
  go_enter Try.func23, Try.ntmps23
  go_wp2
  go_ret
  exact ⟨by first | rfl | (simp; done) | (simp [*]; done), by repeat (first | exact Drawn0.refl _ | apply Drawn0.step)⟩
 ·rw [if_neg c2] at H
  have c2b0 : decide (32 < a0) = false := decide_eq_false c2
  clear c2
  replace H := Option.bind_eq_some_iff.mp H
  obtain ⟨t101, A30, H⟩ := H
  replace H : (some t101) = some r := H
  have A3 := Aside0.mk A30
  clear A30
  obtain rfl := Option.some.inj H
  go_enter Try.func23, Try.ntmps23
  go_wp2_with (first | (go_at_call 33; (with_reducible refine (chars_Space.calls a0 t101 _ ?side1 A3.out).mono ?_); (case side1 => exact Glob.drawn HG.out (by repeat (first | exact Drawn0.refl _ | apply Drawn0.step))); rintro e w' ⟨rfl, ⟨nd, rfl⟩⟩))
  go_ret
  exact ⟨by first | rfl | (simp; done) | (simp [*]; done), by repeat (first | exact Drawn0.refl _ | apply Drawn0.step)⟩

end Go.Proofs.Ytkoogebfdinbnaa.Q

-- Printed by this session's wip/np.py over the kit's print program. Not trusted: Lean checks it.
namespace Go.Proofs.Ytkoogebfdinbnaa.Q
open Go.RowKit Go.Proofs.YtkoogebfdinbnaaW.PrintWords Go.Proofs.YtkoogebfdinbnaaW.PrintLast Go.Proofs.YtkoogebfdinbnaaW.Own Go.Proofs.YtkoogebfdinbnaaW.PrintMore
attribute [local go_sem] max2_int min2_int max_two min_two max_three min_three max_four min_four
set_option linter.unusedVariables false
set_option linter.unusedSimpArgs false

/-! ### token_walk_eat: function 34 -/
theorem behind_some {x l r : List UInt8} (h : Tk.behind x l = some r) : Lib.hasPrefix l x = true ∧ Lib.trimPrefix l x = r := by
 unfold Tk.behind at h
 split at h
 ·rename_i hp
  injection h with h
  exact ⟨hp, by unfold Lib.trimPrefix; rw [if_pos (show Lib.hasPrefix l x = true from hp), h]⟩
 ·cases h
theorem behind_none {x l : List UInt8} (h : Tk.behind x l = none) : Lib.hasPrefix l x = false ∧ Lib.trimPrefix l x = l := by
 unfold Tk.behind at h
 split at h
 ·cases h
 ·rename_i hp
  have hp' : Lib.hasPrefix l x = false := Bool.eq_false_iff.2 hp
  exact ⟨hp', by unfold Lib.trimPrefix; rw [if_neg (by rw [hp']; decide)]⟩
set_option maxHeartbeats 1000000 in
theorem token_walk_eat.callsK (B g : Nat) {ok : Nat → Prop} (l x : List UInt8) (L : List S40) (w : World) (h : WalkAt w B g ok (Tk.bs l) L) :
 Calls Try.prog 34 #[.pointer (some ⟨g, 0, none⟩), .string (Tk.bs x)] w fun e w' => e = .returned (.bool (Lib.hasPrefix l x)) ∧ WalkAt w' B g ok (Tk.bs (Lib.trimPrefix l x)) L ∧ Below B w w' ∧ KeepBut w w' g none := by
 have c0 := h.cell0
 have f0 := h.frozen 0
 have H := Aside0.mk h
 clear h
 go_enter Try.func34, Try.ntmps34
 go_wp2_with (first | (go_at_call 48; refine (Try.strings_CutPrefix _ _ _).mono ?_; rintro e w' ⟨rfl, rfl⟩))
 go_ret
 exact ⟨rfl, H.out.left _, (Below.refl _ _).setCell (p := ⟨g, 0, none⟩) H.out.ge _, (KeepBut.refl _ _ _).set_ 0 _⟩
theorem token_walk_eat.calls (B g : Nat) {ok : Nat → Prop} (l x : List UInt8) (L : List S40) (w : World) (h : WalkAt w B g ok (Tk.bs l) L) :
 Calls Try.prog 34 #[.pointer (some ⟨g, 0, none⟩), .string (Tk.bs x)] w fun e w' => e = .returned (.bool (Lib.hasPrefix l x)) ∧ WalkAt w' B g ok (Tk.bs (Lib.trimPrefix l x)) L ∧ Below B w w' := (token_walk_eat.callsK B g l x L w h).mono fun e w' h => ⟨h.1, h.2.1, h.2.2.1⟩
theorem token_walk_eat.yesK (B g : Nat) {ok : Nat → Prop} (l x r : List UInt8) (L : List S40) (w : World) (h : WalkAt w B g ok (Tk.bs l) L) (hx : Tk.behind x l = some r) :
 Calls Try.prog 34 #[.pointer (some ⟨g, 0, none⟩), .string (Tk.bs x)] w fun e w' => e = .returned (.bool true) ∧ WalkAt w' B g ok (Tk.bs r) L ∧ Below B w w' ∧ KeepBut w w' g none := by
 have := token_walk_eat.callsK B g l x L w h
 rwa [(behind_some hx).1, (behind_some hx).2] at this
theorem token_walk_eat.yes (B g : Nat) {ok : Nat → Prop} (l x r : List UInt8) (L : List S40) (w : World) (h : WalkAt w B g ok (Tk.bs l) L) (hx : Tk.behind x l = some r) :
 Calls Try.prog 34 #[.pointer (some ⟨g, 0, none⟩), .string (Tk.bs x)] w fun e w' => e = .returned (.bool true) ∧ WalkAt w' B g ok (Tk.bs r) L ∧ Below B w w' := (token_walk_eat.yesK B g l x r L w h hx).mono fun e w' h => ⟨h.1, h.2.1, h.2.2.1⟩
theorem token_walk_eat.noK (B g : Nat) {ok : Nat → Prop} (l x : List UInt8) (L : List S40) (w : World) (h : WalkAt w B g ok (Tk.bs l) L) (hx : Tk.behind x l = none) :
 Calls Try.prog 34 #[.pointer (some ⟨g, 0, none⟩), .string (Tk.bs x)] w fun e w' => e = .returned (.bool false) ∧ WalkAt w' B g ok (Tk.bs l) L ∧ Below B w w' ∧ KeepBut w w' g none := by
 have := token_walk_eat.callsK B g l x L w h
 rwa [(behind_none hx).1, (behind_none hx).2] at this

theorem token_walk_eat.no (B g : Nat) {ok : Nat → Prop} (l x : List UInt8) (L : List S40) (w : World) (h : WalkAt w B g ok (Tk.bs l) L) (hx : Tk.behind x l = none) :
 Calls Try.prog 34 #[.pointer (some ⟨g, 0, none⟩), .string (Tk.bs x)] w fun e w' => e = .returned (.bool false) ∧ WalkAt w' B g ok (Tk.bs l) L ∧ Below B w w' := (token_walk_eat.noK B g l x L w h hx).mono fun e w' h => ⟨h.1, h.2.1, h.2.2.1⟩


end Go.Proofs.Ytkoogebfdinbnaa.Q

-- Printed by this session's wip/np.py over the kit's print program. Not trusted: Lean checks it.
namespace Go.Proofs.Ytkoogebfdinbnaa.Q
open Go.RowKit Go.Proofs.YtkoogebfdinbnaaW.PrintWords Go.Proofs.YtkoogebfdinbnaaW.PrintLast Go.Proofs.YtkoogebfdinbnaaW.Own Go.Proofs.YtkoogebfdinbnaaW.PrintMore
attribute [local go_sem] max2_int min2_int max_two min_two max_three min_three max_four min_four
set_option linter.unusedVariables false
set_option linter.unusedSimpArgs false

/-! ### token_walk_comment: function 35 -/
theorem contains_no {a x : List UInt8} (h : ¬ 0 ≤ Lib.index a x) : Lib.contains a x = false := by
 unfold Lib.contains
 exact decide_eq_false h
theorem contains_yes {a x : List UInt8} (h : 0 ≤ Lib.index a x) : Lib.contains a x = true := by
 unfold Lib.contains
 exact decide_eq_true h
theorem upto_len {x l a r : List UInt8} (h : Tk.upto x l = some (a, r)) : a.length ≤ l.length ∧ r.length ≤ l.length := by
 unfold Tk.upto at h
 split at h
 ·injection h with h
  injection h with h1 h2
  rw [← h1, ← h2, List.length_take, List.length_drop]
  omega
 ·cases h
set_option maxHeartbeats 4000000 in
set_option maxRecDepth 100000 in
theorem token_walk_comment.yes (B g : Nat) {ok : Nat → Prop} (l r : List UInt8) (t : S40) (L : List S40) (w : World) (h : WalkAt w B g ok (Tk.bs l) L) (hG : Glob w) (hl : l.length ≤ 1000000) (hL : L.length ≤ 100000) (hok : ∀ k, w.heap.size ≤ k → ok k) (hx : Tk.comment l = some (t, r)) :
 Calls Try.prog 35 #[.pointer (some ⟨g, 0, none⟩)] w fun e w' => e = .returned (.bool true) ∧ WalkAt w' B g ok (Tk.bs r) (L ++ [t]) ∧ Below B w w' := by
 unfold Tk.comment at hx
 obtain ⟨⟨a, b⟩, hu, hx⟩ := Option.bind_eq_some_iff.1 hx
 simp only at hx
 split at hx
 ·cases hx
 rename_i hn
 obtain ⟨rfl, rfl⟩ := Prod.mk.inj (Option.some.inj hx)
 have hn1 : ¬ 0 ≤ Lib.index a [45, 45] := fun h => hn (.inl h)
 have hn2 : Lib.hasSuffix a [45] = false := Bool.eq_false_iff.2 fun h => hn (.inr h)
 have hal := (upto_len hu).1
 have has : (Tk.bs a).size < 4294967281 := by rw [bs_size]; omega
 have has2 : (Tk.bs a).size ≤ 9223372036854775807 := by omega
 have C1 : ∀ W, Glob W → Calls Try.prog 50 #[.string (Tk.bs a), .string (Tk.bs [45, 45])] W fun e w' => e = .returned (.bool false) ∧ w' = W := by
  intro W hW
  obtain ⟨m, hm⟩ := hW
  refine (Try.strings_Contains (Tk.bs a) (Tk.bs [45, 45]) m W has hm).mono ?_
  rintro e w' ⟨rfl, rfl⟩
  exact ⟨by rw [show Lib.contains (Tk.bs a).data.toList (Tk.bs [45, 45]).data.toList = false from contains_no hn1], rfl⟩
 have C2 : ∀ W, Calls Try.prog 51 #[.string (Tk.bs a), .string (Tk.bs [45])] W fun e w' => e = .returned (.bool false) ∧ w' = W := by
  intro W
  refine (Try.strings_HasSuffix (Tk.bs a) (Tk.bs [45]) W has2).mono ?_
  rintro e w' ⟨rfl, rfl⟩
  exact ⟨by rw [show Lib.hasSuffix (Tk.bs a).data.toList (Tk.bs [45]).data.toList = false from hn2], rfl⟩
 have hB := h.ge
 have hpos := h.pos
 have H := Aside0.mk h
 have HG := Aside0.mk hG
 have HU := Aside0.mk hu
 clear h hG hu hn hn1 hn2 hx has has2
 go_enter Try.func35, Try.ntmps35
 go_wp2_with (first | (go_at_call 49; refine (token_walk_upTo.yesK B g l [45, 45, 62] a _ L _ H.out HG.out hl HU.out).mono ?_; rintro e w1 ⟨rfl, h1, b1, k1⟩; have K1 := Aside0.mk k1; clear k1; have H1 := Aside0.mk h1; have B1 := Aside0.mk b1; have HG1 := Aside0.mk (HG.out.below b1 hpos); clear h1 b1) | (go_at_call 50; refine (C1 _ HG1.out).mono ?_; rintro e w2 ⟨rfl, rfl⟩) | (go_at_call 51; refine (C2 _).mono ?_; rintro e w2 ⟨rfl, rfl⟩) | (go_at_call 52; refine (token_walk_put.calls B g (fun _ => False) _ L (Tk.tk 4 [] a [] false) (.slice none 0 0) _ (H1.out.more (fun k _ hk => ⟨hk, fun h => h⟩)) (Kd.R_nil _ _ _ _ _) (fun _ h => h.elim) (fun k hk => hok k (Nat.le_trans K1.out.1 hk)) hL).mono ?_; rintro e w3 ⟨rfl, h3, b3⟩; have H3 := Aside0.mk h3; have B3 := Aside0.mk b3; clear h3 b3))
 go_ret
 exact ⟨rfl, H3.out, B1.out.trans B3.out⟩
set_option maxHeartbeats 4000000 in
set_option maxRecDepth 100000 in
theorem token_walk_comment.no (B g : Nat) {ok : Nat → Prop} (l : List UInt8) (L : List S40) (w : World) (h : WalkAt w B g ok (Tk.bs l) L) (hG : Glob w) (hl : l.length ≤ 1000000) (hx : Tk.comment l = none) :
 Calls Try.prog 35 #[.pointer (some ⟨g, 0, none⟩)] w fun e w' => e = .returned (.bool false) ∧ Below B w w' := by
 have hB := h.ge
 have hpos := h.pos
 unfold Tk.comment at hx
 have H := Aside0.mk h
 have HG := Aside0.mk hG
 clear h hG
 cases hu : Tk.upto [45, 45, 62] l with
 | none =>
  have HU := Aside0.mk hu
  clear hu hx
  go_enter Try.func35, Try.ntmps35
  go_wp2_with (first | (go_at_call 49; refine (token_walk_upTo.no B g l [45, 45, 62] L _ H.out HG.out hl HU.out).mono ?_; rintro e w1 ⟨rfl, h1, b1⟩; have B1 := Aside0.mk b1; clear h1 b1))
  go_ret
  exact ⟨rfl, B1.out⟩
 | some p =>
  obtain ⟨a, r⟩ := p
  rw [hu, Option.bind_some] at hx
  have hn : 0 ≤ Lib.index a [45, 45] ∨ Lib.hasSuffix a [45] = true := by
   refine Classical.byContradiction fun hc => ?_
   rw [if_neg hc] at hx
   cases hx
  have hal := (upto_len hu).1
  have has : (Tk.bs a).size < 4294967281 := by rw [bs_size]; omega
  have has2 : (Tk.bs a).size ≤ 9223372036854775807 := by omega
  have HU := Aside0.mk hu
  clear hu hx
  by_cases h1 : 0 ≤ Lib.index a [45, 45]
  ·have C1 : ∀ W, Glob W → Calls Try.prog 50 #[.string (Tk.bs a), .string (Tk.bs [45, 45])] W fun e w' => e = .returned (.bool true) ∧ w' = W := by
    intro W hW
    obtain ⟨m, hm⟩ := hW
    refine (Try.strings_Contains (Tk.bs a) (Tk.bs [45, 45]) m W has hm).mono ?_
    rintro e w' ⟨rfl, rfl⟩
    exact ⟨by rw [show Lib.contains (Tk.bs a).data.toList (Tk.bs [45, 45]).data.toList = true from contains_yes h1], rfl⟩
   clear hn h1 has has2
   go_enter Try.func35, Try.ntmps35
   go_wp2_with (first | (go_at_call 49; refine (token_walk_upTo.yes B g l [45, 45, 62] a _ L _ H.out HG.out hl HU.out).mono ?_; rintro e w1 ⟨rfl, h1, b1⟩; have B1 := Aside0.mk b1; have HG1 := Aside0.mk (HG.out.below b1 hpos); clear h1 b1) | (go_at_call 50; refine (C1 _ HG1.out).mono ?_; rintro e w2 ⟨rfl, rfl⟩))
   go_ret
   exact ⟨rfl, B1.out⟩
  ·have h2 := hn.resolve_left h1
   have C1 : ∀ W, Glob W → Calls Try.prog 50 #[.string (Tk.bs a), .string (Tk.bs [45, 45])] W fun e w' => e = .returned (.bool false) ∧ w' = W := by
    intro W hW
    obtain ⟨m, hm⟩ := hW
    refine (Try.strings_Contains (Tk.bs a) (Tk.bs [45, 45]) m W has hm).mono ?_
    rintro e w' ⟨rfl, rfl⟩
    exact ⟨by rw [show Lib.contains (Tk.bs a).data.toList (Tk.bs [45, 45]).data.toList = false from contains_no h1], rfl⟩
   have C2 : ∀ W, Calls Try.prog 51 #[.string (Tk.bs a), .string (Tk.bs [45])] W fun e w' => e = .returned (.bool true) ∧ w' = W := by
    intro W
    refine (Try.strings_HasSuffix (Tk.bs a) (Tk.bs [45]) W has2).mono ?_
    rintro e w' ⟨rfl, rfl⟩
    exact ⟨by rw [show Lib.hasSuffix (Tk.bs a).data.toList (Tk.bs [45]).data.toList = true from h2], rfl⟩
   clear hn h1 h2 has has2
   go_enter Try.func35, Try.ntmps35
   go_wp2_with (first | (go_at_call 49; refine (token_walk_upTo.yes B g l [45, 45, 62] a _ L _ H.out HG.out hl HU.out).mono ?_; rintro e w1 ⟨rfl, h1, b1⟩; have B1 := Aside0.mk b1; have HG1 := Aside0.mk (HG.out.below b1 hpos); clear h1 b1) | (go_at_call 50; refine (C1 _ HG1.out).mono ?_; rintro e w2 ⟨rfl, rfl⟩) | (go_at_call 51; refine (C2 _).mono ?_; rintro e w2 ⟨rfl, rfl⟩))
   go_ret
   exact ⟨rfl, B1.out⟩



end Go.Proofs.Ytkoogebfdinbnaa.Q

-- Printed by this session's wip/np.py over the kit's print program. Not trusted: Lean checks it.
namespace Go.Proofs.Ytkoogebfdinbnaa.Q
open Go.RowKit Go.Proofs.YtkoogebfdinbnaaW.PrintWords Go.Proofs.YtkoogebfdinbnaaW.PrintLast Go.Proofs.YtkoogebfdinbnaaW.Own Go.Proofs.YtkoogebfdinbnaaW.PrintMore
attribute [local go_sem] max2_int min2_int max_two min_two max_three min_three max_four min_four
set_option linter.unusedVariables false
set_option linter.unusedSimpArgs false

/-! ### token_walk_data: function 36 -/
set_option maxHeartbeats 4000000 in
set_option maxRecDepth 100000 in
theorem token_walk_data.yes (B g : Nat) {ok : Nat → Prop} (l r : List UInt8) (t : S40) (L : List S40) (w : World) (h : WalkAt w B g ok (Tk.bs l) L) (hG : Glob w) (hl : l.length ≤ 1000000) (hL : L.length ≤ 100000) (hok : ∀ k, w.heap.size ≤ k → ok k) (hx : Tk.data l = some (t, r)) :
 Calls Try.prog 36 #[.pointer (some ⟨g, 0, none⟩)] w fun e w' => e = .returned (.bool true) ∧ WalkAt w' B g ok (Tk.bs r) (L ++ [t]) ∧ Below B w w' := by
 unfold Tk.data at hx
 obtain ⟨⟨a, b⟩, hu, hx⟩ := Option.map_eq_some_iff.1 hx
 obtain ⟨rfl, rfl⟩ := Prod.mk.inj hx
 have hB := h.ge
 have hpos := h.pos
 have H := Aside0.mk h
 have HG := Aside0.mk hG
 have HU := Aside0.mk hu
 clear h hG hu hx
 go_enter Try.func36, Try.ntmps36
 go_wp2_with (first | (go_at_call 49; refine (token_walk_upTo.yesK B g l [93, 93, 62] a _ L _ H.out HG.out hl HU.out).mono ?_; rintro e w1 ⟨rfl, h1, b1, k1⟩; have K1 := Aside0.mk k1; clear k1; have H1 := Aside0.mk h1; have B1 := Aside0.mk b1; clear h1 b1) | (go_at_call 52; refine (token_walk_put.calls B g (fun _ => False) _ L (Tk.tk 3 [] a [] false) (.slice none 0 0) _ (H1.out.more (fun k _ hk => ⟨hk, fun h => h⟩)) (Kd.R_nil _ _ _ _ _) (fun _ h => h.elim) (fun k hk => hok k (Nat.le_trans K1.out.1 hk)) hL).mono ?_; rintro e w3 ⟨rfl, h3, b3⟩; have H3 := Aside0.mk h3; have B3 := Aside0.mk b3; clear h3 b3))
 go_ret
 exact ⟨rfl, H3.out, B1.out.trans B3.out⟩
set_option maxHeartbeats 4000000 in
set_option maxRecDepth 100000 in
theorem token_walk_data.no (B g : Nat) {ok : Nat → Prop} (l : List UInt8) (L : List S40) (w : World) (h : WalkAt w B g ok (Tk.bs l) L) (hG : Glob w) (hl : l.length ≤ 1000000) (hx : Tk.data l = none) :
 Calls Try.prog 36 #[.pointer (some ⟨g, 0, none⟩)] w fun e w' => e = .returned (.bool false) ∧ Below B w w' := by
 unfold Tk.data at hx
 have hu := Option.map_eq_none_iff.1 hx
 have H := Aside0.mk h
 have HG := Aside0.mk hG
 have HU := Aside0.mk hu
 clear h hG hu hx
 go_enter Try.func36, Try.ntmps36
 go_wp2_with (first | (go_at_call 49; refine (token_walk_upTo.no B g l [93, 93, 62] L _ H.out HG.out hl HU.out).mono ?_; rintro e w1 ⟨rfl, h1, b1⟩; have B1 := Aside0.mk b1; clear h1 b1))
 go_ret
 exact ⟨rfl, B1.out⟩



end Go.Proofs.Ytkoogebfdinbnaa.Q

-- Printed by this session's wip/np.py over the kit's print program. Not trusted: Lean checks it.
namespace Go.Proofs.Ytkoogebfdinbnaa.Q
open Go.RowKit Go.Proofs.YtkoogebfdinbnaaW.PrintWords Go.Proofs.YtkoogebfdinbnaaW.PrintLast Go.Proofs.YtkoogebfdinbnaaW.Own Go.Proofs.YtkoogebfdinbnaaW.PrintMore
attribute [local go_sem] max2_int min2_int max_two min_two max_three min_three max_four min_four
set_option linter.unusedVariables false
set_option linter.unusedSimpArgs false

/-! ### token_walk_prolog: function 37 -/
set_option maxHeartbeats 4000000 in
set_option maxRecDepth 100000 in
theorem token_walk_prolog.yes (B g : Nat) {ok : Nat → Prop} (fst : Bool) (l r : List UInt8) (t : S40) (L : List S40) (w : World) (h : WalkAt w B g ok (Tk.bs l) L) (hG : Glob w) (hl : l.length ≤ 1000000) (hL : L.length ≤ 100000) (hok : ∀ k, w.heap.size ≤ k → ok k) (hx : Tk.prolog fst l = some (t, r)) :
 Calls Try.prog 37 #[.pointer (some ⟨g, 0, none⟩), .bool fst] w fun e w' => e = .returned (.bool true) ∧ WalkAt w' B g ok (Tk.bs r) (L ++ [t]) ∧ Below B w w' := by
 unfold Tk.prolog at hx
 obtain ⟨⟨a, b⟩, hu, hx⟩ := Option.bind_eq_some_iff.1 hx
 simp only at hx
 cases fst with
 | false => rw [if_neg (by decide)] at hx; cases hx
 | true =>
 rw [if_pos rfl] at hx
 obtain ⟨rfl, rfl⟩ := Prod.mk.inj (Option.some.inj hx)
 have H := Aside0.mk h
 have HG := Aside0.mk hG
 have HU := Aside0.mk hu
 clear h hG hu hx
 go_enter Try.func37, Try.ntmps37
 go_wp2_with (first | (go_at_call 49; refine (token_walk_upTo.yesK B g l [63, 62] a _ L _ H.out HG.out hl HU.out).mono ?_; rintro e w1 ⟨rfl, h1, b1, k1⟩; have K1 := Aside0.mk k1; clear k1; have H1 := Aside0.mk h1; have B1 := Aside0.mk b1; clear h1 b1) | (go_at_call 52; refine (token_walk_put.calls B g (fun _ => False) _ L (Tk.tk 5 [] a [] false) (.slice none 0 0) _ (H1.out.more (fun k _ hk => ⟨hk, fun h => h⟩)) (Kd.R_nil _ _ _ _ _) (fun _ h => h.elim) (fun k hk => hok k (Nat.le_trans K1.out.1 hk)) hL).mono ?_; rintro e w3 ⟨rfl, h3, b3⟩; have H3 := Aside0.mk h3; have B3 := Aside0.mk b3; clear h3 b3))
 go_ret
 exact ⟨rfl, H3.out, B1.out.trans B3.out⟩
set_option maxHeartbeats 4000000 in
set_option maxRecDepth 100000 in
theorem token_walk_prolog.no (B g : Nat) {ok : Nat → Prop} (fst : Bool) (l : List UInt8) (L : List S40) (w : World) (h : WalkAt w B g ok (Tk.bs l) L) (hG : Glob w) (hl : l.length ≤ 1000000) (hx : Tk.prolog fst l = none) :
 Calls Try.prog 37 #[.pointer (some ⟨g, 0, none⟩), .bool fst] w fun e w' => e = .returned (.bool false) ∧ Below B w w' := by
 unfold Tk.prolog at hx
 have H := Aside0.mk h
 have HG := Aside0.mk hG
 clear h hG
 cases hu : Tk.upto [63, 62] l with
 | none =>
  have HU := Aside0.mk hu
  clear hu hx
  go_enter Try.func37, Try.ntmps37
  go_wp2_with (first | (go_at_call 49; refine (token_walk_upTo.no B g l [63, 62] L _ H.out HG.out hl HU.out).mono ?_; rintro e w1 ⟨rfl, h1, b1⟩; have B1 := Aside0.mk b1; clear h1 b1))
  go_ret
  exact ⟨rfl, B1.out⟩
 | some p =>
  obtain ⟨a, r⟩ := p
  rw [hu, Option.bind_some] at hx
  cases fst with
  | true => rw [if_pos rfl] at hx; cases hx
  | false =>
  have HU := Aside0.mk hu
  clear hu hx
  go_enter Try.func37, Try.ntmps37
  go_wp2_with (first | (go_at_call 49; refine (token_walk_upTo.yes B g l [63, 62] a _ L _ H.out HG.out hl HU.out).mono ?_; rintro e w1 ⟨rfl, h1, b1⟩; have B1 := Aside0.mk b1; clear h1 b1))
  go_ret
  exact ⟨rfl, B1.out⟩



end Go.Proofs.Ytkoogebfdinbnaa.Q

-- Printed by this session's wip/np.py over the kit's print program. Not trusted: Lean checks it.
namespace Go.Proofs.Ytkoogebfdinbnaa.Q
open Go.RowKit Go.Proofs.YtkoogebfdinbnaaW.PrintWords Go.Proofs.YtkoogebfdinbnaaW.PrintLast Go.Proofs.YtkoogebfdinbnaaW.Own Go.Proofs.YtkoogebfdinbnaaW.PrintMore
attribute [local go_sem] max2_int min2_int max_two min_two max_three min_three max_four min_four
set_option linter.unusedVariables false
set_option linter.unusedSimpArgs false

/-! ### token_walk_end: function 38 -/
theorem skip_len (l : List UInt8) : (Tk.skip l).length ≤ l.length := by
 rw [show Tk.skip l = l.drop (l.takeWhile Tk.space).length from dw_drop l, List.length_drop]; omega
/-- What the walk may be told of a text that is none, or some. -/
theorem bs_none {l : List UInt8} (h : l = []) : (Tk.bs l).toList = [] := by rw [bs_toList, h]
theorem bs_some {l : List UInt8} (h : l ≠ []) : ((Tk.bs l).toList = []) = False ∧ (Tk.bs l).toList.isEmpty = false ∧ ((Tk.bs l).toList == []) = false ∧ ((Tk.bs l).toList != []) = true := by
 rw [bs_toList]
 refine ⟨eq_false h, ?_, ?_, ?_⟩ <;> cases l <;> first | exact absurd rfl h | rfl
set_option maxHeartbeats 4000000 in
set_option maxRecDepth 100000 in
theorem token_walk_end.yes (B g : Nat) {ok : Nat → Prop} (l r : List UInt8) (t : S40) (L : List S40) (w : World) (h : WalkAt w B g ok (Tk.bs l) L) (hG : Glob w) (hl : l.length ≤ 1000000) (hL : L.length ≤ 100000) (hok : ∀ k, w.heap.size ≤ k → ok k) (hx : Tk.close l = some (t, r)) :
 Calls Try.prog 38 #[.pointer (some ⟨g, 0, none⟩)] w fun e w' => e = .returned (.bool true) ∧ WalkAt w' B g ok (Tk.bs r) (L ++ [t]) ∧ Below B w w' := by
 unfold Tk.close at hx
 by_cases hh : Tk.head l = []
 ·rw [if_pos hh] at hx; cases hx
 rw [if_neg hh] at hx
 obtain ⟨b, hu, hx⟩ := Option.map_eq_some_iff.1 hx
 obtain ⟨rfl, rfl⟩ := Prod.mk.inj hx
 obtain ⟨e1, e2, e3, e4⟩ := bs_some hh
 have hpos := h.pos
 have hl1 : (l.drop (Tk.head l).length).length ≤ 1000000 := by rw [List.length_drop]; omega
 have H := Aside0.mk h
 have HG := Aside0.mk hG
 have HU := Aside0.mk hu
 clear h hG hu hx hh
 go_enter Try.func38, Try.ntmps38
 go_wp2_with (first | (go_at_call 53; refine (token_walk_name.callsK B g l L _ H.out HG.out hl).mono ?_; rintro e w1 ⟨rfl, h1, b1, k1⟩; have K1 := Aside0.mk k1; clear k1; have H1 := Aside0.mk h1; have B1 := Aside0.mk b1; have HG1 := Aside0.mk (HG.out.below b1 hpos); clear h1 b1) | (go_at_call 54; refine (token_walk_skip.callsK B g _ L _ H1.out HG1.out hl1).mono ?_; rintro e w2 ⟨rfl, h2, b2, k2⟩; have K2 := Aside0.mk k2; clear k2; have H2 := Aside0.mk h2; have B2 := Aside0.mk b2; clear h2 b2) | (go_at_call 34; refine (token_walk_eat.yesK B g _ [62] _ L _ H2.out HU.out).mono ?_; rintro e w3 ⟨rfl, h3, b3, k3⟩; have K3 := Aside0.mk k3; clear k3; have H3 := Aside0.mk h3; have B3 := Aside0.mk b3; clear h3 b3) | (go_at_call 52; refine (token_walk_put.calls B g (fun _ => False) _ L (Tk.tk 2 (Tk.head l) [] [] false) (.slice none 0 0) _ (H3.out.more (fun k _ hk => ⟨hk, fun h => h⟩)) (Kd.R_nil _ _ _ _ _) (fun _ h => h.elim) (fun k hk => hok k (Nat.le_trans (Nat.le_trans (Nat.le_trans K1.out.1 K2.out.1) K3.out.1) hk)) hL).mono ?_; rintro e w4 ⟨rfl, h4, b4⟩; have H4 := Aside0.mk h4; have B4 := Aside0.mk b4; clear h4 b4))
 go_ret
 exact ⟨rfl, H4.out, ((B1.out.trans B2.out).trans B3.out).trans B4.out⟩
set_option maxHeartbeats 4000000 in
set_option maxRecDepth 100000 in
theorem token_walk_end.no (B g : Nat) {ok : Nat → Prop} (l : List UInt8) (L : List S40) (w : World) (h : WalkAt w B g ok (Tk.bs l) L) (hG : Glob w) (hl : l.length ≤ 1000000) (hx : Tk.close l = none) :
 Calls Try.prog 38 #[.pointer (some ⟨g, 0, none⟩)] w fun e w' => e = .returned (.bool false) ∧ Below B w w' := by
 unfold Tk.close at hx
 have hpos := h.pos
 have hl1 : (l.drop (Tk.head l).length).length ≤ 1000000 := by rw [List.length_drop]; omega
 have H := Aside0.mk h
 have HG := Aside0.mk hG
 clear h hG
 by_cases hh : Tk.head l = []
 ·clear hx
  have e1 := bs_none hh
  clear hh
  go_enter Try.func38, Try.ntmps38
  go_wp2_with (first | (go_at_call 53; refine (token_walk_name.calls B g l L _ H.out HG.out hl).mono ?_; rintro e w1 ⟨rfl, h1, b1⟩; have H1 := Aside0.mk h1; have B1 := Aside0.mk b1; have HG1 := Aside0.mk (HG.out.below b1 hpos); clear h1 b1) | (go_at_call 54; refine (token_walk_skip.calls B g _ L _ H1.out HG1.out hl1).mono ?_; rintro e w2 ⟨rfl, h2, b2⟩; have H2 := Aside0.mk h2; have B2 := Aside0.mk b2; clear h2 b2))
  go_ret
  exact ⟨rfl, B1.out.trans B2.out⟩
 ·rw [if_neg hh] at hx
  have hu := Option.map_eq_none_iff.1 hx
  obtain ⟨e1, e2, e3, e4⟩ := bs_some hh
  have HU := Aside0.mk hu
  clear hx hu hh
  go_enter Try.func38, Try.ntmps38
  go_wp2_with (first | (go_at_call 53; refine (token_walk_name.calls B g l L _ H.out HG.out hl).mono ?_; rintro e w1 ⟨rfl, h1, b1⟩; have H1 := Aside0.mk h1; have B1 := Aside0.mk b1; have HG1 := Aside0.mk (HG.out.below b1 hpos); clear h1 b1) | (go_at_call 54; refine (token_walk_skip.calls B g _ L _ H1.out HG1.out hl1).mono ?_; rintro e w2 ⟨rfl, h2, b2⟩; have H2 := Aside0.mk h2; have B2 := Aside0.mk b2; clear h2 b2) | (go_at_call 34; refine (token_walk_eat.no B g _ [62] L _ H2.out HU.out).mono ?_; rintro e w3 ⟨rfl, h3, b3⟩; have B3 := Aside0.mk b3; clear h3 b3))
  go_ret
  exact ⟨rfl, (B1.out.trans B2.out).trans B3.out⟩


end Go.Proofs.Ytkoogebfdinbnaa.Q

-- Printed by this session's wip/np.py over the kit's print program. Not trusted: Lean checks it.
namespace Go.Proofs.Ytkoogebfdinbnaa.Q
open Go.RowKit Go.Proofs.YtkoogebfdinbnaaW.PrintWords Go.Proofs.YtkoogebfdinbnaaW.PrintLast Go.Proofs.YtkoogebfdinbnaaW.Own Go.Proofs.YtkoogebfdinbnaaW.PrintMore
attribute [local go_sem] max2_int min2_int max_two min_two max_three min_three max_four min_four
set_option linter.unusedVariables false
set_option linter.unusedSimpArgs false

/-! ### token_named: function 77 -/
def token_named.f (a0 : ByteArray) : Option (ByteArray) := if a0.toList = ([108, 116] : List UInt8) then (some (⟨#[60]⟩ : ByteArray)) else (if a0.toList = ([103, 116] : List UInt8) then (some (⟨#[62]⟩ : ByteArray)) else (if a0.toList = ([97, 109, 112] : List UInt8) then (some (⟨#[38]⟩ : ByteArray)) else (if a0.toList = ([113, 117, 111, 116] : List UInt8) then (some (⟨#[34]⟩ : ByteArray)) else (if a0.toList = ([97, 112, 111, 115] : List UInt8) then (some (⟨#[39]⟩ : ByteArray)) else (some (⟨#[]⟩ : ByteArray))))))
set_option maxHeartbeats 8000000 in
set_option maxRecDepth 100000 in
theorem token_named.calls (a0 : ByteArray) (r : ByteArray) (w : World) (hG : Glob w) (h : token_named.f a0 = some r) :
 Calls Try.prog 77 #[.string a0] w fun e w' => e = .returned (.string r) ∧ Drawn0 w w' := by
 have HG := Aside0.mk hG
 clear hG
 have H : (if a0.toList = ([108, 116] : List UInt8) then (some (⟨#[60]⟩ : ByteArray)) else (if a0.toList = ([103, 116] : List UInt8) then (some (⟨#[62]⟩ : ByteArray)) else (if a0.toList = ([97, 109, 112] : List UInt8) then (some (⟨#[38]⟩ : ByteArray)) else (if a0.toList = ([113, 117, 111, 116] : List UInt8) then (some (⟨#[34]⟩ : ByteArray)) else (if a0.toList = ([97, 112, 111, 115] : List UInt8) then (some (⟨#[39]⟩ : ByteArray)) else (some (⟨#[]⟩ : ByteArray))))))) = some r := h
 clear h
 by_cases c2 : a0.toList = ([108, 116] : List UInt8)
 ·rw [if_pos c2] at H
  have c2b0 : (a0.toList == ([108, 116] : List UInt8)) = true := beq_iff_eq.mpr c2
  have c2b1 : (a0.toList != ([108, 116] : List UInt8)) = false := bne_eq_false_iff_eq.mpr c2
  clear c2
  obtain rfl := Option.some.inj H
  go_enter Try.func77, Try.ntmps77
  go_wp2
  go_ret
  exact ⟨by first | rfl | (simp; done) | (simp [*]; done), by repeat (first | exact Drawn0.refl _ | apply Drawn0.step)⟩
 ·rw [if_neg c2] at H
  have c2b0 : (a0.toList == ([108, 116] : List UInt8)) = false := beq_eq_false_iff_ne.mpr c2
  have c2b1 : (a0.toList != ([108, 116] : List UInt8)) = true := bne_iff_ne.mpr c2
  by_cases c3 : a0.toList = ([103, 116] : List UInt8)
  ·rw [if_pos c3] at H
   have c3b0 : (a0.toList == ([103, 116] : List UInt8)) = true := beq_iff_eq.mpr c3
   have c3b1 : (a0.toList != ([103, 116] : List UInt8)) = false := bne_eq_false_iff_eq.mpr c3
   clear c3
   obtain rfl := Option.some.inj H
   go_enter Try.func77, Try.ntmps77
   go_wp2
   go_ret
   exact ⟨by first | rfl | (simp; done) | (simp [*]; done), by repeat (first | exact Drawn0.refl _ | apply Drawn0.step)⟩
  ·rw [if_neg c3] at H
   have c3b0 : (a0.toList == ([103, 116] : List UInt8)) = false := beq_eq_false_iff_ne.mpr c3
   have c3b1 : (a0.toList != ([103, 116] : List UInt8)) = true := bne_iff_ne.mpr c3
   by_cases c4 : a0.toList = ([97, 109, 112] : List UInt8)
   ·rw [if_pos c4] at H
    have c4b0 : (a0.toList == ([97, 109, 112] : List UInt8)) = true := beq_iff_eq.mpr c4
    have c4b1 : (a0.toList != ([97, 109, 112] : List UInt8)) = false := bne_eq_false_iff_eq.mpr c4
    clear c4
    obtain rfl := Option.some.inj H
    go_enter Try.func77, Try.ntmps77
    go_wp2
    go_ret
    exact ⟨by first | rfl | (simp; done) | (simp [*]; done), by repeat (first | exact Drawn0.refl _ | apply Drawn0.step)⟩
   ·rw [if_neg c4] at H
    have c4b0 : (a0.toList == ([97, 109, 112] : List UInt8)) = false := beq_eq_false_iff_ne.mpr c4
    have c4b1 : (a0.toList != ([97, 109, 112] : List UInt8)) = true := bne_iff_ne.mpr c4
    by_cases c5 : a0.toList = ([113, 117, 111, 116] : List UInt8)
    ·rw [if_pos c5] at H
     have c5b0 : (a0.toList == ([113, 117, 111, 116] : List UInt8)) = true := beq_iff_eq.mpr c5
     have c5b1 : (a0.toList != ([113, 117, 111, 116] : List UInt8)) = false := bne_eq_false_iff_eq.mpr c5
     clear c5
     obtain rfl := Option.some.inj H
     go_enter Try.func77, Try.ntmps77
     go_wp2
     go_ret
     exact ⟨by first | rfl | (simp; done) | (simp [*]; done), by repeat (first | exact Drawn0.refl _ | apply Drawn0.step)⟩
    ·rw [if_neg c5] at H
     have c5b0 : (a0.toList == ([113, 117, 111, 116] : List UInt8)) = false := beq_eq_false_iff_ne.mpr c5
     have c5b1 : (a0.toList != ([113, 117, 111, 116] : List UInt8)) = true := bne_iff_ne.mpr c5
     by_cases c6 : a0.toList = ([97, 112, 111, 115] : List UInt8)
     ·rw [if_pos c6] at H
      have c6b0 : (a0.toList == ([97, 112, 111, 115] : List UInt8)) = true := beq_iff_eq.mpr c6
      have c6b1 : (a0.toList != ([97, 112, 111, 115] : List UInt8)) = false := bne_eq_false_iff_eq.mpr c6
      clear c6
      obtain rfl := Option.some.inj H
      go_enter Try.func77, Try.ntmps77
      go_wp2
      go_ret
      exact ⟨by first | rfl | (simp; done) | (simp [*]; done), by repeat (first | exact Drawn0.refl _ | apply Drawn0.step)⟩
     ·rw [if_neg c6] at H
      have c6b0 : (a0.toList == ([97, 112, 111, 115] : List UInt8)) = false := beq_eq_false_iff_ne.mpr c6
      have c6b1 : (a0.toList != ([97, 112, 111, 115] : List UInt8)) = true := bne_iff_ne.mpr c6
      obtain rfl := Option.some.inj H
      go_enter Try.func77, Try.ntmps77
      go_wp2
      go_ret
      exact ⟨by first | rfl | (simp; done) | (simp [*]; done), by repeat (first | exact Drawn0.refl _ | apply Drawn0.step)⟩

end Go.Proofs.Ytkoogebfdinbnaa.Q

-- Printed by this session's wip/np.py over the kit's print program. Not trusted: Lean checks it.
namespace Go.Proofs.Ytkoogebfdinbnaa.Q
open Go.RowKit Go.Proofs.YtkoogebfdinbnaaW.PrintWords Go.Proofs.YtkoogebfdinbnaaW.PrintLast Go.Proofs.YtkoogebfdinbnaaW.Own Go.Proofs.YtkoogebfdinbnaaW.PrintMore
attribute [local go_sem] max2_int min2_int max_two min_two max_three min_three max_four min_four
set_option linter.unusedVariables false
set_option linter.unusedSimpArgs false

/-! ### token_entity: function 68 -/
def entV (l : List UInt8) : List UInt8 × Bool := match Tk.entity l with
 | some c => (c, true)
 | none => ([], false)
theorem entV_hash16 (l : List UInt8) : entV (35 :: 120 :: l) = numB 16 l := rfl
theorem entV_hash10 (l : List UInt8) (h : Lib.hasPrefix l [120] = false) : entV (35 :: l) = numB 10 l := by
 unfold entV numB
 have : Tk.entity (35 :: l) = Tk.numbered 10 l := by
  unfold Tk.entity
  split
  ·rename_i r heq
   injection heq with _ heq
   subst heq
   exact absurd h (by simp [Lib.hasPrefix, List.isPrefixOf])
  ·rename_i r _ heq
   injection heq with _ heq
   subst heq
   rfl
  ·rename_i h2
   exact absurd rfl (h2 l)
 rw [this]
 try rfl
theorem entV_named (l : List UInt8) (h : Lib.hasPrefix l [35] = false) : Tk.entity l = Tk.named l := by
 unfold Tk.entity
 split
 ·exact absurd h (by simp [Lib.hasPrefix, List.isPrefixOf])
 ·exact absurd h (by simp [Lib.hasPrefix, List.isPrefixOf])
 ·rfl
theorem named_f (l : List UInt8) : token_named.f (Tk.bs l) = some (Tk.bs (match Tk.named l with | some c => c | none => [])) := by
 unfold token_named.f Tk.named
 rw [bs_toList]
 by_cases h1 : l = [108, 116]
 ·rw [if_pos h1, if_pos h1]; rfl
 rw [if_neg h1, if_neg h1]
 by_cases h2 : l = [103, 116]
 ·rw [if_pos h2, if_pos h2]; rfl
 rw [if_neg h2, if_neg h2]
 by_cases h3 : l = [97, 109, 112]
 ·rw [if_pos h3, if_pos h3]; rfl
 rw [if_neg h3, if_neg h3]
 by_cases h4 : l = [113, 117, 111, 116]
 ·rw [if_pos h4, if_pos h4]; rfl
 rw [if_neg h4, if_neg h4]
 by_cases h5 : l = [97, 112, 111, 115]
 ·rw [if_pos h5, if_pos h5]; rfl
 rw [if_neg h5, if_neg h5]; rfl
theorem named_ne {l c : List UInt8} (h : Tk.named l = some c) : c ≠ [] ∧ c.length ≤ 4 := by
 unfold Tk.named at h
 repeat' split at h
 all_goals first | (injection h with h; subst h; exact ⟨by decide, by decide⟩) | cases h
set_option maxHeartbeats 8000000 in
set_option maxRecDepth 100000 in
theorem token_entity.calls (l : List UInt8) (w : World) (hG : Glob w) :
 Calls Try.prog 68 #[.string (Tk.bs l)] w fun e w' => e = .returned (.tuple #[.string (Tk.bs (entV l).1), .bool (entV l).2]) ∧ Drawn0 w w' := by
 by_cases h35 : Lib.hasPrefix l [35] = true
 ·obtain ⟨r, rfl⟩ : ∃ r, l = 35 :: r := by
   cases l with
   | nil => simp [Lib.hasPrefix, List.isPrefixOf] at h35
   | cons c r =>
    simp [Lib.hasPrefix, List.isPrefixOf] at h35
    exact ⟨r, by rw [← h35]⟩
  have C1 : ∀ W, Calls Try.prog 48 #[.string (Tk.bs (35 :: r)), .string (Tk.bs [35])] W fun e w' => e = .returned (.tuple #[.string (Tk.bs r), .bool true]) ∧ W = w' := by
   intro W
   refine (Try.strings_CutPrefix (Tk.bs (35 :: r)) (Tk.bs [35]) W).mono ?_
   rintro e w' ⟨rfl, rfl⟩
   refine ⟨?_, rfl⟩
   rw [show Lib.hasPrefix (Tk.bs (35 :: r)).data.toList (Tk.bs [35]).data.toList = true from h35]
   rw [show Lib.trimPrefix (Tk.bs (35 :: r)).data.toList (Tk.bs [35]).data.toList = r from by show Lib.trimPrefix (35 :: r) [35] = r; unfold Lib.trimPrefix; rw [if_pos h35]; rfl]
   rfl
  have C2 : ∀ W, Glob W → Calls Try.prog 76 #[.string (Tk.bs r)] W fun e w' => e = .returned (.tuple #[.string (Tk.bs (entV (35 :: r)).1), .bool (entV (35 :: r)).2]) ∧ Drawn0 W w' := by
   intro W hW
   by_cases h120 : Lib.hasPrefix r [120] = true
   ·obtain ⟨q, rfl⟩ : ∃ q, r = 120 :: q := by
     cases r with
     | nil => simp [Lib.hasPrefix, List.isPrefixOf] at h120
     | cons c q =>
      simp [Lib.hasPrefix, List.isPrefixOf] at h120
      exact ⟨q, by rw [← h120]⟩
    exact token_numbered.calls16 q W hW
   ·have h120' := Bool.eq_false_iff.2 h120
    rw [entV_hash10 r h120']
    exact token_numbered.calls10 r W hW h120'
  obtain ⟨a, b, hab⟩ : ∃ a b, entV (35 :: r) = (a, b) := ⟨_, _, rfl⟩
  rw [hab] at C2
  have HR := Lib.hid hab
  have HG := Aside0.mk hG
  clear hab hG h35
  go_enter Try.func68, Try.ntmps68
  go_wp2_with (first | (go_at_call 48; refine (C1 _).mono ?_; rintro e w1 ⟨rfl, rfl⟩) | (go_at_call 76; refine (C2 _ HG.out).mono ?_; rintro e w2 ⟨rfl, ⟨nd, rfl⟩⟩))
  go_ret2
  exact ⟨by rw [HR.out]; rfl, (Drawn0.refl _).step _⟩
 ·have h35' := Bool.eq_false_iff.2 h35
  have C1 : ∀ W, Calls Try.prog 48 #[.string (Tk.bs l), .string (Tk.bs [35])] W fun e w' => e = .returned (.tuple #[.string (Tk.bs l), .bool false]) ∧ W = w' := by
   intro W
   refine (Try.strings_CutPrefix (Tk.bs l) (Tk.bs [35]) W).mono ?_
   rintro e w' ⟨rfl, rfl⟩
   refine ⟨?_, rfl⟩
   rw [show Lib.hasPrefix (Tk.bs l).data.toList (Tk.bs [35]).data.toList = false from h35']
   rw [show Lib.trimPrefix (Tk.bs l).data.toList (Tk.bs [35]).data.toList = l from by show Lib.trimPrefix l [35] = l; unfold Lib.trimPrefix; rw [if_neg h35]]
   rfl
  have hnm := named_f l
  have hen := entV_named l h35'
  have HG := Aside0.mk hG
  clear hG h35 h35'
  cases hn : Tk.named l with
  | none =>
   rw [hn] at hnm
   have hR : entV l = ([], false) := by unfold entV; rw [hen, hn]
   have HR := Lib.hid hR
   have HF := Aside0.mk hnm
   have e1 := bs_none (l := []) rfl
   clear hn hnm hen hR
   go_enter Try.func68, Try.ntmps68
   go_wp2_with (first | (go_at_call 48; refine (C1 _).mono ?_; rintro e w1 ⟨rfl, rfl⟩) | (go_at_call 77; refine (token_named.calls (Tk.bs l) _ _ HG.out HF.out).mono ?_; rintro e w2 ⟨rfl, ⟨nd, rfl⟩⟩))
   go_ret2
   exact ⟨by rw [HR.out]; rfl, (Drawn0.refl _).step _⟩
  | some c =>
   rw [hn] at hnm
   obtain ⟨hne, _⟩ := named_ne hn
   have hR : entV l = (c, true) := by unfold entV; rw [hen, hn]
   have HR := Lib.hid hR
   have HF := Aside0.mk hnm
   obtain ⟨e1, e2, e3, e4⟩ := bs_some hne
   clear hn hnm hen hR hne
   go_enter Try.func68, Try.ntmps68
   go_wp2_with (first | (go_at_call 48; refine (C1 _).mono ?_; rintro e w1 ⟨rfl, rfl⟩) | (go_at_call 77; refine (token_named.calls (Tk.bs l) _ _ HG.out HF.out).mono ?_; rintro e w2 ⟨rfl, ⟨nd, rfl⟩⟩))
   go_ret2
   exact ⟨by rw [HR.out]; rfl, (Drawn0.refl _).step _⟩



end Go.Proofs.Ytkoogebfdinbnaa.Q

-- Printed by this session's wip/np.py over the kit's print program. Not trusted: Lean checks it.
namespace Go.Proofs.Ytkoogebfdinbnaa.Q
open Go.RowKit Go.Proofs.YtkoogebfdinbnaaW.PrintWords Go.Proofs.YtkoogebfdinbnaaW.PrintLast Go.Proofs.YtkoogebfdinbnaaW.Own Go.Proofs.YtkoogebfdinbnaaW.PrintMore
attribute [local go_sem] max2_int min2_int max_two min_two max_three min_three max_four min_four
set_option linter.unusedVariables false
set_option linter.unusedSimpArgs false

/-! ### token_Entities: function 59 -/
/-- A text with its entities replaced, or the reason, as the program tells it. -/
def entsV (l : List UInt8) : List UInt8 × Int := match Tk.entities l with
 | some c => (c, 0)
 | none => ([], 5)
theorem entity_len {l c : List UInt8} (h : Tk.entity l = some c) : c.length ≤ 4 := by
 have hn : ∀ base r, Tk.numbered base r = some c → c.length ≤ 4 := by
  intro base r h
  unfold Tk.numbered at h
  split at h
  ·cases h
  ·obtain ⟨v, _, h⟩ := Option.bind_eq_some_iff.1 h
   split at h
   ·injection h with h
    rw [← h]
    have := encode_size_le (v : Int)
    rw [Lib.size_eq] at this
    exact this
   ·cases h
 unfold Tk.entity at h
 split at h
 ·exact hn _ _ h
 ·exact hn _ _ h
 ·exact (named_ne h).2
theorem upto_sum {x l a r : List UInt8} (h : Tk.upto x l = some (a, r)) : a.length + x.length + r.length = l.length := by
 unfold Tk.upto at h
 split at h
 ·rename_i h0
  injection h with h
  injection h with h1 h2
  have := Lib.index_room l x h0
  rw [← h1, ← h2, List.length_take, List.length_drop]
  omega
 ·cases h
theorem bs_append (a b : List UInt8) : Tk.bs a ++ Tk.bs b = Tk.bs (a ++ b) := by
 have : (Tk.bs a ++ Tk.bs b).data.toList = (Tk.bs (a ++ b)).data.toList := by simp [ByteArray.data_append, Tk.bs]
 rw [← bs_data (Tk.bs a ++ Tk.bs b), this]; rfl
theorem ents_none {n : Nat} {l : List UInt8} (h : Tk.upto [38] l = none) : Tk.ents (n + 1) l = some l := by
 rw [Tk.ents, h]
theorem ents_open {n : Nat} {l a b : List UInt8} (h : Tk.upto [38] l = some (a, b)) (h2 : Tk.upto [59] b = none) : Tk.ents (n + 1) l = none := by
 rw [Tk.ents, h]
 simp only [h2]
theorem ents_step {n : Nat} {l a b m r : List UInt8} (h : Tk.upto [38] l = some (a, b)) (h2 : Tk.upto [59] b = some (m, r)) : Tk.ents (n + 1) l = (Tk.entity m).bind fun c => (Tk.ents n r).map fun t => a ++ (c ++ t) := by
 rw [Tk.ents, h]
 simp only [h2]
set_option maxHeartbeats 8000000 in
set_option maxRecDepth 100000 in
theorem token_Entities.calls0 (l : List UInt8) (hl : l.length ≤ 1000000) (w : World) (hG : Glob w) :
 Calls Try.prog 59 #[.string (Tk.bs l)] w fun e w' => e = .returned (.tuple #[.string (Tk.bs (entsV l).1), .int .i64 (entsV l).2]) ∧ Below w.heap.size w w' := by
 have hpos := hG.lt
 have HG := Aside0.mk hG
 clear hG
 have hub := Try.underlying50
 go_enter Try.func59, Try.ntmps59
 go_wp2_with (fail)
 have HF := Aside0.mk (Bld.Holds.fresh w)
 have HB0 := Aside0.mk ((Below.refl w.heap.size w).alloc (Nat.le_refl _) (.cells #[.pointer none, .slice none 0 0] 50))
 generalize w.alloc _ = wi at *
 go_loopg [0] (l.length + 1) (fun gk v0 w' => ∃ (m d : List UInt8), v0 = .string (Tk.bs m) ∧ m.length < gk ∧ Aside0 (d.length + 4 * m.length ≤ 4 * l.length) ∧ Aside0 (Tk.entities l = (Tk.ents gk m).map fun t => d ++ t) ∧ Aside0 (Bld.Holds w.heap.size w.heap.size (Tk.bs d) w') ∧ Aside0 (Below w.heap.size w w'))
 case atStart => exact ⟨l, [], rfl, by omega, ⟨by simp⟩, ⟨by unfold Tk.entities; simp⟩, HF, HB0⟩
 case round =>
  clear HF HB0
  obtain ⟨m, d, rfl, hlt, HD, HE, HH, HB⟩ := hrel
  obtain ⟨g1, rfl⟩ : ∃ g1, gk = g1 + 1 := ⟨gk - 1, by omega⟩
  have hG1 : Glob wr := HG.out.below HB.out hpos
  have HG1 := Aside0.mk hG1
  have hd := HD.out
  have hms : (Tk.bs m).size < 4294967281 := by rw [bs_size]; omega
  cases hu : Tk.upto [38] m with
  | none =>
   have C1 : ∀ W, Glob W → Calls Try.prog 61 #[.string (Tk.bs m), .string (⟨#[38]⟩ : ByteArray)] W fun e w' => e = .returned (.tuple #[.string (Tk.bs m), .string (Tk.bs []), .bool false]) ∧ Below W.heap.size W w' := by
    intro W hW
    obtain ⟨q, hq⟩ := hW
    refine (Try.strings_Cut (Tk.bs m) (Tk.bs [38]) q W hms hq).mono ?_
    rintro e w' ⟨rfl, nd, rfl⟩
    refine ⟨?_, pw_below_drewN (Below.refl _ _) nd⟩
    rw [show Lib.cut (Tk.bs m).data.toList (Tk.bs [38]).data.toList = (m, [], false) from upto_none hu]
    rfl
   have hR : entsV l = (d ++ m, 0) := by unfold entsV; rw [HE.out, ents_none hu]; rfl
   have HR := Lib.hid hR
   have hsz : (Tk.bs d).size + (Tk.bs m).size ≤ 140737488355328 := by rw [bs_size, bs_size]; omega
   have HSZ := Lib.hid hsz
   clear hu hms hd hR hG1 hsz
   go_wp2_with (first | (go_at_call 61; (with_reducible refine (C1 _ HG1.out).mono ?_); rintro e w1 ⟨rfl, b1⟩; have B1 := Aside0.mk b1; clear b1) | (go_at_call 18; (with_reducible refine ((HH.out.below B1.out).write HSZ.out).mono ?_); rintro e w2 ⟨rfl, h2, b2⟩; have H2 := Aside0.mk h2; have B2 := Aside0.mk b2; clear h2 b2) | (go_at_call 19; (with_reducible refine H2.out.string.mono ?_); rintro e w3 ⟨rfl, b3⟩; have B3 := Aside0.mk b3; clear b3))
   go_ret2
   refine ⟨?_, ((below_step HB.out B1.out).trans B2.out).trans B3.out⟩
   rw [HR.out, ← bs_append]; rfl
  | some p =>
   obtain ⟨a, b⟩ := p
   have hsm := upto_sum hu
   have hsa : (Tk.bs d).size + (Tk.bs a).size ≤ 140737488355328 := by rw [bs_size, bs_size]; omega
   have hbs : (Tk.bs b).size < 4294967281 := by rw [bs_size]; omega
   have C1 : ∀ W, Glob W → Calls Try.prog 61 #[.string (Tk.bs m), .string (⟨#[38]⟩ : ByteArray)] W fun e w' => e = .returned (.tuple #[.string (Tk.bs a), .string (Tk.bs b), .bool true]) ∧ Below W.heap.size W w' := by
    intro W hW
    obtain ⟨q, hq⟩ := hW
    refine (Try.strings_Cut (Tk.bs m) (Tk.bs [38]) q W hms hq).mono ?_
    rintro e w' ⟨rfl, nd, rfl⟩
    refine ⟨?_, pw_below_drewN (Below.refl _ _) nd⟩
    rw [show Lib.cut (Tk.bs m).data.toList (Tk.bs [38]).data.toList = (a, b, true) from upto_some hu]
    rfl
   have HSA := Lib.hid hsa
   cases hu2 : Tk.upto [59] b with
   | none =>
    have C2 : ∀ W, Glob W → Calls Try.prog 61 #[.string (Tk.bs b), .string (⟨#[59]⟩ : ByteArray)] W fun e w' => e = .returned (.tuple #[.string (Tk.bs b), .string (Tk.bs []), .bool false]) ∧ Below W.heap.size W w' := by
     intro W hW
     obtain ⟨q, hq⟩ := hW
     refine (Try.strings_Cut (Tk.bs b) (Tk.bs [59]) q W hbs hq).mono ?_
     rintro e w' ⟨rfl, nd, rfl⟩
     refine ⟨?_, pw_below_drewN (Below.refl _ _) nd⟩
     rw [show Lib.cut (Tk.bs b).data.toList (Tk.bs [59]).data.toList = (b, [], false) from upto_none hu2]
     rfl
    have hR : entsV l = ([], 5) := by unfold entsV; rw [HE.out, ents_open hu hu2]; rfl
    have HR := Lib.hid hR
    clear hu hu2 hms hd hR hG1 hsa hbs hsm
    go_wp2_with (first | (go_at_call 61; (with_reducible refine (C1 _ HG1.out).mono ?_); rintro e w1 ⟨rfl, b1⟩; have B1 := Aside0.mk b1; clear b1) | (go_at_call 18; (with_reducible refine ((HH.out.below B1.out).write HSA.out).mono ?_); rintro e w2 ⟨rfl, h2, b2⟩; have H2 := Aside0.mk h2; have B2 := Aside0.mk b2; have HG2 := Aside0.mk (HG.out.below ((below_step HB.out B1.out).trans b2) hpos); clear h2 b2) | (go_at_call 61; (with_reducible refine (C2 _ HG2.out).mono ?_); rintro e w4 ⟨rfl, b4⟩; have B4 := Aside0.mk b4; have HG4 := Aside0.mk (HG2.out.step b4); clear b4) | (go_at_call 68; (with_reducible refine (token_entity.calls b _ HG4.out).mono ?_); rintro e w5 ⟨rfl, d5⟩; have B5 := Aside0.mk d5.below; clear d5))
    go_ret2
    exact ⟨by rw [HR.out]; rfl, below_step (below_step ((below_step HB.out B1.out).trans B2.out) B4.out) B5.out⟩
   | some p2 =>
    obtain ⟨nm, r⟩ := p2
    have hsm2 := upto_sum hu2
    have C2 : ∀ W, Glob W → Calls Try.prog 61 #[.string (Tk.bs b), .string (⟨#[59]⟩ : ByteArray)] W fun e w' => e = .returned (.tuple #[.string (Tk.bs nm), .string (Tk.bs r), .bool true]) ∧ Below W.heap.size W w' := by
     intro W hW
     obtain ⟨q, hq⟩ := hW
     refine (Try.strings_Cut (Tk.bs b) (Tk.bs [59]) q W hbs hq).mono ?_
     rintro e w' ⟨rfl, nd, rfl⟩
     refine ⟨?_, pw_below_drewN (Below.refl _ _) nd⟩
     rw [show Lib.cut (Tk.bs b).data.toList (Tk.bs [59]).data.toList = (nm, r, true) from upto_some hu2]
     rfl
    have hst := ents_step (n := g1) hu hu2
    have CE := token_entity.calls nm
    cases hen : Tk.entity nm with
    | none =>
     have hv : entV nm = ([], false) := by unfold entV; rw [hen]
     rw [hv] at CE
     have hR : entsV l = ([], 5) := by unfold entsV; rw [HE.out, hst, hen]; rfl
     have HR := Lib.hid hR
     clear hu hu2 hms hd hR hG1 hsa hbs hsm hsm2 hst hen hv
     go_wp2_with (first | (go_at_call 61; (with_reducible refine (C1 _ HG1.out).mono ?_); rintro e w1 ⟨rfl, b1⟩; have B1 := Aside0.mk b1; clear b1) | (go_at_call 18; (with_reducible refine ((HH.out.below B1.out).write HSA.out).mono ?_); rintro e w2 ⟨rfl, h2, b2⟩; have H2 := Aside0.mk h2; have B2 := Aside0.mk b2; have HG2 := Aside0.mk (HG.out.below ((below_step HB.out B1.out).trans b2) hpos); clear h2 b2) | (go_at_call 61; (with_reducible refine (C2 _ HG2.out).mono ?_); rintro e w4 ⟨rfl, b4⟩; have B4 := Aside0.mk b4; have HG4 := Aside0.mk (HG2.out.step b4); clear b4) | (go_at_call 68; (with_reducible refine (CE _ HG4.out).mono ?_); rintro e w5 ⟨rfl, d5⟩; have B5 := Aside0.mk d5.below; clear d5))
     go_ret2
     exact ⟨by rw [HR.out]; rfl, below_step (below_step ((below_step HB.out B1.out).trans B2.out) B4.out) B5.out⟩
    | some c =>
     have hv : entV nm = (c, true) := by unfold entV; rw [hen]
     rw [hv] at CE
     have hcl := entity_len hen
     have hsc : (Tk.bs d ++ Tk.bs a).size + (Tk.bs c).size ≤ 140737488355328 := by rw [ByteArray.size_append, bs_size, bs_size, bs_size]; omega
     have HSC := Lib.hid hsc
     have hn1 : r.length < g1 := by simp only [List.length_cons, List.length_nil] at hsm hsm2; omega
     have hd1 : (d ++ (a ++ c)).length + 4 * r.length ≤ 4 * l.length := by simp only [List.length_cons, List.length_nil, List.length_append] at hsm hsm2 ⊢; omega
     have hE1 : Tk.entities l = (Tk.ents g1 r).map fun t => (d ++ (a ++ c)) ++ t := by
      rw [HE.out, hst, hen]
      cases Tk.ents g1 r with
      | none => rfl
      | some t => simp
     have HD1 := Aside0.mk hd1
     have HE1 := Aside0.mk hE1
     clear hu hu2 hms hd hG1 hsa hbs hsm hsm2 hst hen hv hsc hd1 hE1 hcl
     go_wp2_with (first | (go_at_call 61; (with_reducible refine (C1 _ HG1.out).mono ?_); rintro e w1 ⟨rfl, b1⟩; have B1 := Aside0.mk b1; clear b1) | (go_at_call 18; (with_reducible refine ((HH.out.below B1.out).write HSA.out).mono ?_); rintro e w2 ⟨rfl, h2, b2⟩; have H2 := Aside0.mk h2; have B2 := Aside0.mk b2; have HG2 := Aside0.mk (HG.out.below ((below_step HB.out B1.out).trans b2) hpos); clear h2 b2) | (go_at_call 61; (with_reducible refine (C2 _ HG2.out).mono ?_); rintro e w4 ⟨rfl, b4⟩; have B4 := Aside0.mk b4; have HG4 := Aside0.mk (HG2.out.step b4); clear b4) | (go_at_call 68; (with_reducible refine (CE _ HG4.out).mono ?_); rintro e w5 ⟨rfl, d5⟩; have B5 := Aside0.mk d5.below; clear d5) | (go_at_call 18; (with_reducible refine (((H2.out.below B4.out).below B5.out).write HSC.out).mono ?_); rintro e w6 ⟨rfl, h6, b6⟩; have H6 := Aside0.mk h6; have B6 := Aside0.mk b6; clear h6 b6))
     go_roundg g1
     case measure => omega
     case rel =>
      refine ⟨r, d ++ (a ++ c), by first | rfl | (simp; done), hn1, HD1, HE1, ?_, ?_⟩
      ·refine ⟨?_⟩
       have := H6.out
       rw [bs_append, bs_append, List.append_assoc] at this
       exact this
      ·exact ⟨(below_step (below_step ((below_step HB.out B1.out).trans B2.out) B4.out) B5.out).trans B6.out⟩
def token_Entities.f (a0 : ByteArray) : Option (ByteArray × Int) := if a0.size ≤ 1000000 then some (Tk.bs (entsV a0.data.toList).1, (entsV a0.data.toList).2) else none
theorem token_Entities.calls (a0 : ByteArray) (r1 : ByteArray) (r2 : Int) (w : World) (hG : Glob w) (h : token_Entities.f a0 = some (r1, r2)) :
 Calls Try.prog 59 #[.string a0] w fun e w' => e = .returned (.tuple #[.string r1, .int .i64 r2]) ∧ Below w.heap.size w w' := by
 unfold token_Entities.f at h
 split at h
 ·rename_i hs
  obtain ⟨rfl, rfl⟩ := Prod.mk.inj (Option.some.inj h)
  rw [Lib.size_eq] at hs
  have := token_Entities.calls0 a0.data.toList hs w hG
  rwa [bs_data] at this
 ·cases h


end Go.Proofs.Ytkoogebfdinbnaa.Q

-- Printed by this session's wip/np.py over the kit's print program. Not trusted: Lean checks it.
namespace Go.Proofs.Ytkoogebfdinbnaa.Q
open Go.RowKit Go.Proofs.YtkoogebfdinbnaaW.PrintWords Go.Proofs.YtkoogebfdinbnaaW.PrintLast Go.Proofs.YtkoogebfdinbnaaW.Own Go.Proofs.YtkoogebfdinbnaaW.PrintMore
attribute [local go_sem] max2_int min2_int max_two min_two max_three min_three max_four min_four
set_option linter.unusedVariables false
set_option linter.unusedSimpArgs false

/-! ### token_walk_value: function 65 -/
theorem behind_len {x l r : List UInt8} (h : Tk.behind x l = some r) : r.length ≤ l.length := by
 unfold Tk.behind at h
 split at h
 ·injection h with h
  rw [← h, List.length_drop]; omega
 ·cases h
theorem pre_f {l : List UInt8} {x : List UInt8} {b : Bool} (h : x.isPrefixOf l = b) (W : World) : Calls Try.prog 74 #[.string (Tk.bs l), .string (Tk.bs x)] W fun e w' => e = .returned (.bool b) ∧ W = w' := by
 refine (Try.strings_HasPrefix (Tk.bs l) (Tk.bs x) W).mono ?_
 rintro e w' ⟨rfl, rfl⟩
 exact ⟨by rw [show Lib.hasPrefix (Tk.bs l).data.toList (Tk.bs x).data.toList = b from h], rfl⟩
theorem con_f {l : List UInt8} {x : List UInt8} {b : Bool} (h : Lib.contains l x = b) (hl : l.length ≤ 1000000) (W : World) (hG : Glob W) : Calls Try.prog 50 #[.string (Tk.bs l), .string (Tk.bs x)] W fun e w' => e = .returned (.bool b) ∧ W = w' := by
 obtain ⟨m, hm⟩ := hG
 refine (Try.strings_Contains (Tk.bs l) (Tk.bs x) m W (by rw [bs_size]; omega) hm).mono ?_
 rintro e w' ⟨rfl, rfl⟩
 exact ⟨by rw [show Lib.contains (Tk.bs l).data.toList (Tk.bs x).data.toList = b from h], rfl⟩
theorem ent_f {l : List UInt8} {x : List UInt8 × Int} (h : entsV l = x) (hl : l.length ≤ 1000000) (W : World) (hG : Glob W) : Calls Try.prog 59 #[.string (Tk.bs l)] W fun e w' => e = .returned (.tuple #[.string (Tk.bs x.1), .int .i64 x.2]) ∧ Below W.heap.size W w' := by
 rw [← h]
 exact token_Entities.calls0 l hl W hG
set_option maxHeartbeats 4000000 in
set_option maxRecDepth 100000 in
theorem token_walk_value.yes34 (B g : Nat) {ok : Nat → Prop} (l r1 a r v : List UInt8) (L : List S40) (w : World) (h : WalkAt w B g ok (Tk.bs l) L) (hG : Glob w) (hl : l.length ≤ 1000000) (hp : [34].isPrefixOf l = true) (he : Tk.behind [34] l = some r1) (hu : Tk.upto [34] r1 = some (a, r)) (hc : Lib.contains a [60] = false) (hv : entsV a = (v, 0)) :
 Calls Try.prog 65 #[.pointer (some ⟨g, 0, none⟩)] w fun e w' => e = .returned (.tuple #[.string (Tk.bs v), .bool true]) ∧ WalkAt w' B g ok (Tk.bs r) L ∧ Below B w w' ∧ KeepBut w w' g none := by
 have hpos := h.pos
 have hsz := h.size
 have c0 := h.cell0
 have hl1 : r1.length ≤ 1000000 := Nat.le_trans (behind_len he) hl
 have hl2 : a.length ≤ 1000000 := Nat.le_trans (upto_len hu).1 hl1
 have H := Aside0.mk h
 have HG := Aside0.mk hG
 have HP := Lib.hid hp
 have HE := Lib.hid he
 have HU := Lib.hid hu
 have HC := Lib.hid hc
 have HV := Lib.hid hv
 clear h hG hp he hu hc hv
 go_enter Try.func65, Try.ntmps65
 go_wp2_with (first | (go_at_call 74; refine (pre_f (x := [34]) (b := true) HP.out _).mono ?_; rintro e w1 ⟨rfl, rfl⟩) | (go_at_call 34; refine (token_walk_eat.yesK B g l [34] r1 L _ H.out HE.out).mono ?_; rintro e w2 ⟨rfl, h2, b2, k2⟩; have K2 := Aside0.mk k2; clear k2; have H2 := Aside0.mk h2; have B2 := Aside0.mk b2; have HG2 := Aside0.mk (HG.out.below b2 hpos); clear h2 b2) | (go_at_call 49; refine (token_walk_upTo.yesK B g r1 [34] a r L _ H2.out HG2.out hl1 HU.out).mono ?_; rintro e w3 ⟨rfl, h3, b3, k3⟩; have K3 := Aside0.mk k3; clear k3; have H3 := Aside0.mk h3; have B3 := Aside0.mk b3; have HG3 := Aside0.mk (HG2.out.below b3 hpos); clear h3 b3) | (go_at_call 50; refine (con_f (x := [60]) (b := false) HC.out hl2 _ HG3.out).mono ?_; rintro e w4 ⟨rfl, rfl⟩) | (go_at_call 59; refine (ent_f (x := (v, 0)) HV.out hl2 _ HG3.out).mono ?_; rintro e w5 ⟨rfl, b5⟩; have B5 := Aside0.mk b5; clear b5))
 go_ret2
 exact ⟨rfl, H3.out.below B5.out, (B2.out.trans B3.out).trans (B5.out.mono (Nat.le_trans hsz (B2.out.trans B3.out).size)), (K2.out.trans K3.out (.inl rfl)).trans (KeepBut.of_below B5.out _ _) (.inl rfl)⟩
set_option maxHeartbeats 4000000 in
set_option maxRecDepth 100000 in
theorem token_walk_value.noe34 (B g : Nat) {ok : Nat → Prop} (l : List UInt8) (L : List S40) (w : World) (h : WalkAt w B g ok (Tk.bs l) L) (hG : Glob w) (hl : l.length ≤ 1000000) (hp : [34].isPrefixOf l = true) (he : Tk.behind [34] l = none) :
 Calls Try.prog 65 #[.pointer (some ⟨g, 0, none⟩)] w fun e w' => (∃ x, e = .returned (.tuple #[.string x, .bool false])) ∧ Below B w w' ∧ KeepBut w w' g none := by
 have hpos := h.pos
 have hsz := h.size
 have c0 := h.cell0
 have H := Aside0.mk h
 have HG := Aside0.mk hG
 have HP := Lib.hid hp
 have HE := Lib.hid he
 clear h hG hp he
 go_enter Try.func65, Try.ntmps65
 go_wp2_with (first | (go_at_call 74; refine (pre_f (x := [34]) (b := true) HP.out _).mono ?_; rintro e w1 ⟨rfl, rfl⟩) | (go_at_call 34; refine (token_walk_eat.noK B g l [34] L _ H.out HE.out).mono ?_; rintro e w2 ⟨rfl, h2, b2, k2⟩; have K2 := Aside0.mk k2; clear k2; have H2 := Aside0.mk h2; have B2 := Aside0.mk b2; have HG2 := Aside0.mk (HG.out.below b2 hpos); clear h2 b2))
 go_ret2
 exact ⟨⟨_, rfl⟩, B2.out, K2.out⟩
set_option maxHeartbeats 4000000 in
set_option maxRecDepth 100000 in
theorem token_walk_value.nou34 (B g : Nat) {ok : Nat → Prop} (l : List UInt8) (r1 : List UInt8) (L : List S40) (w : World) (h : WalkAt w B g ok (Tk.bs l) L) (hG : Glob w) (hl : l.length ≤ 1000000) (hp : [34].isPrefixOf l = true) (he : Tk.behind [34] l = some r1) (hu : Tk.upto [34] r1 = none) :
 Calls Try.prog 65 #[.pointer (some ⟨g, 0, none⟩)] w fun e w' => (∃ x, e = .returned (.tuple #[.string x, .bool false])) ∧ Below B w w' ∧ KeepBut w w' g none := by
 have hpos := h.pos
 have hsz := h.size
 have c0 := h.cell0
 have hl1 : r1.length ≤ 1000000 := Nat.le_trans (behind_len he) hl
 have H := Aside0.mk h
 have HG := Aside0.mk hG
 have HP := Lib.hid hp
 have HE := Lib.hid he
 have HU := Lib.hid hu
 clear h hG hp he hu
 go_enter Try.func65, Try.ntmps65
 go_wp2_with (first | (go_at_call 74; refine (pre_f (x := [34]) (b := true) HP.out _).mono ?_; rintro e w1 ⟨rfl, rfl⟩) | (go_at_call 34; refine (token_walk_eat.yesK B g l [34] r1 L _ H.out HE.out).mono ?_; rintro e w2 ⟨rfl, h2, b2, k2⟩; have K2 := Aside0.mk k2; clear k2; have H2 := Aside0.mk h2; have B2 := Aside0.mk b2; have HG2 := Aside0.mk (HG.out.below b2 hpos); clear h2 b2) | (go_at_call 49; refine (token_walk_upTo.noK B g r1 [34] L _ H2.out HG2.out hl1 HU.out).mono ?_; rintro e w3 ⟨rfl, h3, b3, k3⟩; have K3 := Aside0.mk k3; clear k3; have H3 := Aside0.mk h3; have B3 := Aside0.mk b3; have HG3 := Aside0.mk (HG2.out.below b3 hpos); clear h3 b3))
 go_ret2
 exact ⟨⟨_, rfl⟩, B2.out.trans B3.out, K2.out.trans K3.out (.inl rfl)⟩
set_option maxHeartbeats 4000000 in
set_option maxRecDepth 100000 in
theorem token_walk_value.noc34 (B g : Nat) {ok : Nat → Prop} (l : List UInt8) (r1 a r : List UInt8) (L : List S40) (w : World) (h : WalkAt w B g ok (Tk.bs l) L) (hG : Glob w) (hl : l.length ≤ 1000000) (hp : [34].isPrefixOf l = true) (he : Tk.behind [34] l = some r1) (hu : Tk.upto [34] r1 = some (a, r)) (hc : Lib.contains a [60] = true) :
 Calls Try.prog 65 #[.pointer (some ⟨g, 0, none⟩)] w fun e w' => (∃ x, e = .returned (.tuple #[.string x, .bool false])) ∧ Below B w w' ∧ KeepBut w w' g none := by
 have hpos := h.pos
 have hsz := h.size
 have c0 := h.cell0
 have hl1 : r1.length ≤ 1000000 := Nat.le_trans (behind_len he) hl
 have hl2 : a.length ≤ 1000000 := Nat.le_trans (upto_len hu).1 hl1
 have H := Aside0.mk h
 have HG := Aside0.mk hG
 have HP := Lib.hid hp
 have HE := Lib.hid he
 have HU := Lib.hid hu
 have HC := Lib.hid hc
 clear h hG hp he hu hc
 go_enter Try.func65, Try.ntmps65
 go_wp2_with (first | (go_at_call 74; refine (pre_f (x := [34]) (b := true) HP.out _).mono ?_; rintro e w1 ⟨rfl, rfl⟩) | (go_at_call 34; refine (token_walk_eat.yesK B g l [34] r1 L _ H.out HE.out).mono ?_; rintro e w2 ⟨rfl, h2, b2, k2⟩; have K2 := Aside0.mk k2; clear k2; have H2 := Aside0.mk h2; have B2 := Aside0.mk b2; have HG2 := Aside0.mk (HG.out.below b2 hpos); clear h2 b2) | (go_at_call 49; refine (token_walk_upTo.yesK B g r1 [34] a r L _ H2.out HG2.out hl1 HU.out).mono ?_; rintro e w3 ⟨rfl, h3, b3, k3⟩; have K3 := Aside0.mk k3; clear k3; have H3 := Aside0.mk h3; have B3 := Aside0.mk b3; have HG3 := Aside0.mk (HG2.out.below b3 hpos); clear h3 b3) | (go_at_call 50; refine (con_f (x := [60]) (b := true) HC.out hl2 _ HG3.out).mono ?_; rintro e w4 ⟨rfl, rfl⟩))
 go_ret2
 exact ⟨⟨_, rfl⟩, B2.out.trans B3.out, K2.out.trans K3.out (.inl rfl)⟩
set_option maxHeartbeats 4000000 in
set_option maxRecDepth 100000 in
theorem token_walk_value.nov34 (B g : Nat) {ok : Nat → Prop} (l : List UInt8) (r1 a r : List UInt8) (L : List S40) (w : World) (h : WalkAt w B g ok (Tk.bs l) L) (hG : Glob w) (hl : l.length ≤ 1000000) (hp : [34].isPrefixOf l = true) (he : Tk.behind [34] l = some r1) (hu : Tk.upto [34] r1 = some (a, r)) (hc : Lib.contains a [60] = false) (hv : entsV a = ([], 5)) :
 Calls Try.prog 65 #[.pointer (some ⟨g, 0, none⟩)] w fun e w' => (∃ x, e = .returned (.tuple #[.string x, .bool false])) ∧ Below B w w' ∧ KeepBut w w' g none := by
 have hpos := h.pos
 have hsz := h.size
 have c0 := h.cell0
 have hl1 : r1.length ≤ 1000000 := Nat.le_trans (behind_len he) hl
 have hl2 : a.length ≤ 1000000 := Nat.le_trans (upto_len hu).1 hl1
 have H := Aside0.mk h
 have HG := Aside0.mk hG
 have HP := Lib.hid hp
 have HE := Lib.hid he
 have HU := Lib.hid hu
 have HC := Lib.hid hc
 have HV := Lib.hid hv
 clear h hG hp he hu hc hv
 go_enter Try.func65, Try.ntmps65
 go_wp2_with (first | (go_at_call 74; refine (pre_f (x := [34]) (b := true) HP.out _).mono ?_; rintro e w1 ⟨rfl, rfl⟩) | (go_at_call 34; refine (token_walk_eat.yesK B g l [34] r1 L _ H.out HE.out).mono ?_; rintro e w2 ⟨rfl, h2, b2, k2⟩; have K2 := Aside0.mk k2; clear k2; have H2 := Aside0.mk h2; have B2 := Aside0.mk b2; have HG2 := Aside0.mk (HG.out.below b2 hpos); clear h2 b2) | (go_at_call 49; refine (token_walk_upTo.yesK B g r1 [34] a r L _ H2.out HG2.out hl1 HU.out).mono ?_; rintro e w3 ⟨rfl, h3, b3, k3⟩; have K3 := Aside0.mk k3; clear k3; have H3 := Aside0.mk h3; have B3 := Aside0.mk b3; have HG3 := Aside0.mk (HG2.out.below b3 hpos); clear h3 b3) | (go_at_call 50; refine (con_f (x := [60]) (b := false) HC.out hl2 _ HG3.out).mono ?_; rintro e w4 ⟨rfl, rfl⟩) | (go_at_call 59; refine (ent_f (x := ([], 5)) HV.out hl2 _ HG3.out).mono ?_; rintro e w5 ⟨rfl, b5⟩; have B5 := Aside0.mk b5; clear b5))
 go_ret2
 exact ⟨⟨_, rfl⟩, (B2.out.trans B3.out).trans (B5.out.mono (Nat.le_trans hsz (B2.out.trans B3.out).size)), (K2.out.trans K3.out (.inl rfl)).trans (KeepBut.of_below B5.out _ _) (.inl rfl)⟩
set_option maxHeartbeats 4000000 in
set_option maxRecDepth 100000 in
theorem token_walk_value.yes39 (B g : Nat) {ok : Nat → Prop} (l r1 a r v : List UInt8) (L : List S40) (w : World) (h : WalkAt w B g ok (Tk.bs l) L) (hG : Glob w) (hl : l.length ≤ 1000000) (hp : [34].isPrefixOf l = false) (he : Tk.behind [39] l = some r1) (hu : Tk.upto [39] r1 = some (a, r)) (hc : Lib.contains a [60] = false) (hv : entsV a = (v, 0)) :
 Calls Try.prog 65 #[.pointer (some ⟨g, 0, none⟩)] w fun e w' => e = .returned (.tuple #[.string (Tk.bs v), .bool true]) ∧ WalkAt w' B g ok (Tk.bs r) L ∧ Below B w w' ∧ KeepBut w w' g none := by
 have hpos := h.pos
 have hsz := h.size
 have c0 := h.cell0
 have hl1 : r1.length ≤ 1000000 := Nat.le_trans (behind_len he) hl
 have hl2 : a.length ≤ 1000000 := Nat.le_trans (upto_len hu).1 hl1
 have H := Aside0.mk h
 have HG := Aside0.mk hG
 have HP := Lib.hid hp
 have HE := Lib.hid he
 have HU := Lib.hid hu
 have HC := Lib.hid hc
 have HV := Lib.hid hv
 clear h hG hp he hu hc hv
 go_enter Try.func65, Try.ntmps65
 go_wp2_with (first | (go_at_call 74; refine (pre_f (x := [34]) (b := false) HP.out _).mono ?_; rintro e w1 ⟨rfl, rfl⟩) | (go_at_call 34; refine (token_walk_eat.yesK B g l [39] r1 L _ H.out HE.out).mono ?_; rintro e w2 ⟨rfl, h2, b2, k2⟩; have K2 := Aside0.mk k2; clear k2; have H2 := Aside0.mk h2; have B2 := Aside0.mk b2; have HG2 := Aside0.mk (HG.out.below b2 hpos); clear h2 b2) | (go_at_call 49; refine (token_walk_upTo.yesK B g r1 [39] a r L _ H2.out HG2.out hl1 HU.out).mono ?_; rintro e w3 ⟨rfl, h3, b3, k3⟩; have K3 := Aside0.mk k3; clear k3; have H3 := Aside0.mk h3; have B3 := Aside0.mk b3; have HG3 := Aside0.mk (HG2.out.below b3 hpos); clear h3 b3) | (go_at_call 50; refine (con_f (x := [60]) (b := false) HC.out hl2 _ HG3.out).mono ?_; rintro e w4 ⟨rfl, rfl⟩) | (go_at_call 59; refine (ent_f (x := (v, 0)) HV.out hl2 _ HG3.out).mono ?_; rintro e w5 ⟨rfl, b5⟩; have B5 := Aside0.mk b5; clear b5))
 go_ret2
 exact ⟨rfl, H3.out.below B5.out, (B2.out.trans B3.out).trans (B5.out.mono (Nat.le_trans hsz (B2.out.trans B3.out).size)), (K2.out.trans K3.out (.inl rfl)).trans (KeepBut.of_below B5.out _ _) (.inl rfl)⟩
set_option maxHeartbeats 4000000 in
set_option maxRecDepth 100000 in
theorem token_walk_value.noe39 (B g : Nat) {ok : Nat → Prop} (l : List UInt8) (L : List S40) (w : World) (h : WalkAt w B g ok (Tk.bs l) L) (hG : Glob w) (hl : l.length ≤ 1000000) (hp : [34].isPrefixOf l = false) (he : Tk.behind [39] l = none) :
 Calls Try.prog 65 #[.pointer (some ⟨g, 0, none⟩)] w fun e w' => (∃ x, e = .returned (.tuple #[.string x, .bool false])) ∧ Below B w w' ∧ KeepBut w w' g none := by
 have hpos := h.pos
 have hsz := h.size
 have c0 := h.cell0
 have H := Aside0.mk h
 have HG := Aside0.mk hG
 have HP := Lib.hid hp
 have HE := Lib.hid he
 clear h hG hp he
 go_enter Try.func65, Try.ntmps65
 go_wp2_with (first | (go_at_call 74; refine (pre_f (x := [34]) (b := false) HP.out _).mono ?_; rintro e w1 ⟨rfl, rfl⟩) | (go_at_call 34; refine (token_walk_eat.noK B g l [39] L _ H.out HE.out).mono ?_; rintro e w2 ⟨rfl, h2, b2, k2⟩; have K2 := Aside0.mk k2; clear k2; have H2 := Aside0.mk h2; have B2 := Aside0.mk b2; have HG2 := Aside0.mk (HG.out.below b2 hpos); clear h2 b2))
 go_ret2
 exact ⟨⟨_, rfl⟩, B2.out, K2.out⟩
set_option maxHeartbeats 4000000 in
set_option maxRecDepth 100000 in
theorem token_walk_value.nou39 (B g : Nat) {ok : Nat → Prop} (l : List UInt8) (r1 : List UInt8) (L : List S40) (w : World) (h : WalkAt w B g ok (Tk.bs l) L) (hG : Glob w) (hl : l.length ≤ 1000000) (hp : [34].isPrefixOf l = false) (he : Tk.behind [39] l = some r1) (hu : Tk.upto [39] r1 = none) :
 Calls Try.prog 65 #[.pointer (some ⟨g, 0, none⟩)] w fun e w' => (∃ x, e = .returned (.tuple #[.string x, .bool false])) ∧ Below B w w' ∧ KeepBut w w' g none := by
 have hpos := h.pos
 have hsz := h.size
 have c0 := h.cell0
 have hl1 : r1.length ≤ 1000000 := Nat.le_trans (behind_len he) hl
 have H := Aside0.mk h
 have HG := Aside0.mk hG
 have HP := Lib.hid hp
 have HE := Lib.hid he
 have HU := Lib.hid hu
 clear h hG hp he hu
 go_enter Try.func65, Try.ntmps65
 go_wp2_with (first | (go_at_call 74; refine (pre_f (x := [34]) (b := false) HP.out _).mono ?_; rintro e w1 ⟨rfl, rfl⟩) | (go_at_call 34; refine (token_walk_eat.yesK B g l [39] r1 L _ H.out HE.out).mono ?_; rintro e w2 ⟨rfl, h2, b2, k2⟩; have K2 := Aside0.mk k2; clear k2; have H2 := Aside0.mk h2; have B2 := Aside0.mk b2; have HG2 := Aside0.mk (HG.out.below b2 hpos); clear h2 b2) | (go_at_call 49; refine (token_walk_upTo.noK B g r1 [39] L _ H2.out HG2.out hl1 HU.out).mono ?_; rintro e w3 ⟨rfl, h3, b3, k3⟩; have K3 := Aside0.mk k3; clear k3; have H3 := Aside0.mk h3; have B3 := Aside0.mk b3; have HG3 := Aside0.mk (HG2.out.below b3 hpos); clear h3 b3))
 go_ret2
 exact ⟨⟨_, rfl⟩, B2.out.trans B3.out, K2.out.trans K3.out (.inl rfl)⟩
set_option maxHeartbeats 4000000 in
set_option maxRecDepth 100000 in
theorem token_walk_value.noc39 (B g : Nat) {ok : Nat → Prop} (l : List UInt8) (r1 a r : List UInt8) (L : List S40) (w : World) (h : WalkAt w B g ok (Tk.bs l) L) (hG : Glob w) (hl : l.length ≤ 1000000) (hp : [34].isPrefixOf l = false) (he : Tk.behind [39] l = some r1) (hu : Tk.upto [39] r1 = some (a, r)) (hc : Lib.contains a [60] = true) :
 Calls Try.prog 65 #[.pointer (some ⟨g, 0, none⟩)] w fun e w' => (∃ x, e = .returned (.tuple #[.string x, .bool false])) ∧ Below B w w' ∧ KeepBut w w' g none := by
 have hpos := h.pos
 have hsz := h.size
 have c0 := h.cell0
 have hl1 : r1.length ≤ 1000000 := Nat.le_trans (behind_len he) hl
 have hl2 : a.length ≤ 1000000 := Nat.le_trans (upto_len hu).1 hl1
 have H := Aside0.mk h
 have HG := Aside0.mk hG
 have HP := Lib.hid hp
 have HE := Lib.hid he
 have HU := Lib.hid hu
 have HC := Lib.hid hc
 clear h hG hp he hu hc
 go_enter Try.func65, Try.ntmps65
 go_wp2_with (first | (go_at_call 74; refine (pre_f (x := [34]) (b := false) HP.out _).mono ?_; rintro e w1 ⟨rfl, rfl⟩) | (go_at_call 34; refine (token_walk_eat.yesK B g l [39] r1 L _ H.out HE.out).mono ?_; rintro e w2 ⟨rfl, h2, b2, k2⟩; have K2 := Aside0.mk k2; clear k2; have H2 := Aside0.mk h2; have B2 := Aside0.mk b2; have HG2 := Aside0.mk (HG.out.below b2 hpos); clear h2 b2) | (go_at_call 49; refine (token_walk_upTo.yesK B g r1 [39] a r L _ H2.out HG2.out hl1 HU.out).mono ?_; rintro e w3 ⟨rfl, h3, b3, k3⟩; have K3 := Aside0.mk k3; clear k3; have H3 := Aside0.mk h3; have B3 := Aside0.mk b3; have HG3 := Aside0.mk (HG2.out.below b3 hpos); clear h3 b3) | (go_at_call 50; refine (con_f (x := [60]) (b := true) HC.out hl2 _ HG3.out).mono ?_; rintro e w4 ⟨rfl, rfl⟩))
 go_ret2
 exact ⟨⟨_, rfl⟩, B2.out.trans B3.out, K2.out.trans K3.out (.inl rfl)⟩
set_option maxHeartbeats 4000000 in
set_option maxRecDepth 100000 in
theorem token_walk_value.nov39 (B g : Nat) {ok : Nat → Prop} (l : List UInt8) (r1 a r : List UInt8) (L : List S40) (w : World) (h : WalkAt w B g ok (Tk.bs l) L) (hG : Glob w) (hl : l.length ≤ 1000000) (hp : [34].isPrefixOf l = false) (he : Tk.behind [39] l = some r1) (hu : Tk.upto [39] r1 = some (a, r)) (hc : Lib.contains a [60] = false) (hv : entsV a = ([], 5)) :
 Calls Try.prog 65 #[.pointer (some ⟨g, 0, none⟩)] w fun e w' => (∃ x, e = .returned (.tuple #[.string x, .bool false])) ∧ Below B w w' ∧ KeepBut w w' g none := by
 have hpos := h.pos
 have hsz := h.size
 have c0 := h.cell0
 have hl1 : r1.length ≤ 1000000 := Nat.le_trans (behind_len he) hl
 have hl2 : a.length ≤ 1000000 := Nat.le_trans (upto_len hu).1 hl1
 have H := Aside0.mk h
 have HG := Aside0.mk hG
 have HP := Lib.hid hp
 have HE := Lib.hid he
 have HU := Lib.hid hu
 have HC := Lib.hid hc
 have HV := Lib.hid hv
 clear h hG hp he hu hc hv
 go_enter Try.func65, Try.ntmps65
 go_wp2_with (first | (go_at_call 74; refine (pre_f (x := [34]) (b := false) HP.out _).mono ?_; rintro e w1 ⟨rfl, rfl⟩) | (go_at_call 34; refine (token_walk_eat.yesK B g l [39] r1 L _ H.out HE.out).mono ?_; rintro e w2 ⟨rfl, h2, b2, k2⟩; have K2 := Aside0.mk k2; clear k2; have H2 := Aside0.mk h2; have B2 := Aside0.mk b2; have HG2 := Aside0.mk (HG.out.below b2 hpos); clear h2 b2) | (go_at_call 49; refine (token_walk_upTo.yesK B g r1 [39] a r L _ H2.out HG2.out hl1 HU.out).mono ?_; rintro e w3 ⟨rfl, h3, b3, k3⟩; have K3 := Aside0.mk k3; clear k3; have H3 := Aside0.mk h3; have B3 := Aside0.mk b3; have HG3 := Aside0.mk (HG2.out.below b3 hpos); clear h3 b3) | (go_at_call 50; refine (con_f (x := [60]) (b := false) HC.out hl2 _ HG3.out).mono ?_; rintro e w4 ⟨rfl, rfl⟩) | (go_at_call 59; refine (ent_f (x := ([], 5)) HV.out hl2 _ HG3.out).mono ?_; rintro e w5 ⟨rfl, b5⟩; have B5 := Aside0.mk b5; clear b5))
 go_ret2
 exact ⟨⟨_, rfl⟩, (B2.out.trans B3.out).trans (B5.out.mono (Nat.le_trans hsz (B2.out.trans B3.out).size)), (K2.out.trans K3.out (.inl rfl)).trans (KeepBut.of_below B5.out _ _) (.inl rfl)⟩
theorem entsV_some {l c : List UInt8} (h : Tk.entities l = some c) : entsV l = (c, 0) := by unfold entsV; rw [h]
theorem entsV_none {l : List UInt8} (h : Tk.entities l = none) : entsV l = ([], 5) := by unfold entsV; rw [h]
theorem token_walk_value.yesK (B g : Nat) {ok : Nat → Prop} (l r v : List UInt8) (L : List S40) (w : World) (h : WalkAt w B g ok (Tk.bs l) L) (hG : Glob w) (hl : l.length ≤ 1000000) (hx : Tk.value l = some (v, r)) :
 Calls Try.prog 65 #[.pointer (some ⟨g, 0, none⟩)] w fun e w' => e = .returned (.tuple #[.string (Tk.bs v), .bool true]) ∧ WalkAt w' B g ok (Tk.bs r) L ∧ Below B w w' ∧ KeepBut w w' g none := by
 unfold Tk.value at hx
 cases hp : [34].isPrefixOf l with
 | true =>
  rw [if_pos hp] at hx
  obtain ⟨r1, he, hx⟩ := Option.bind_eq_some_iff.1 hx
  obtain ⟨⟨a, b⟩, hu, hx⟩ := Option.bind_eq_some_iff.1 hx
  simp only at hx
  by_cases hc : 0 ≤ Lib.index a [60]
  ·rw [if_pos hc] at hx; cases hx
  ·rw [if_neg hc] at hx
   obtain ⟨c, hv, hx⟩ := Option.map_eq_some_iff.1 hx
   obtain ⟨rfl, rfl⟩ := Prod.mk.inj hx
   exact token_walk_value.yes34 B g l r1 a _ _ L w h hG hl hp he hu (contains_no hc) (entsV_some hv)
 | false =>
  rw [if_neg (by rw [hp]; decide)] at hx
  obtain ⟨r1, he, hx⟩ := Option.bind_eq_some_iff.1 hx
  obtain ⟨⟨a, b⟩, hu, hx⟩ := Option.bind_eq_some_iff.1 hx
  simp only at hx
  by_cases hc : 0 ≤ Lib.index a [60]
  ·rw [if_pos hc] at hx; cases hx
  ·rw [if_neg hc] at hx
   obtain ⟨c, hv, hx⟩ := Option.map_eq_some_iff.1 hx
   obtain ⟨rfl, rfl⟩ := Prod.mk.inj hx
   exact token_walk_value.yes39 B g l r1 a _ _ L w h hG hl hp he hu (contains_no hc) (entsV_some hv)
theorem token_walk_value.noK (B g : Nat) {ok : Nat → Prop} (l : List UInt8) (L : List S40) (w : World) (h : WalkAt w B g ok (Tk.bs l) L) (hG : Glob w) (hl : l.length ≤ 1000000) (hx : Tk.value l = none) :
 Calls Try.prog 65 #[.pointer (some ⟨g, 0, none⟩)] w fun e w' => (∃ x, e = .returned (.tuple #[.string x, .bool false])) ∧ Below B w w' ∧ KeepBut w w' g none := by
 unfold Tk.value at hx
 cases hp : [34].isPrefixOf l with
 | true =>
  rw [if_pos hp] at hx
  dsimp only at hx
  cases he : Tk.behind [34] l with
  | none => exact token_walk_value.noe34 B g l L w h hG hl hp he
  | some r1 =>
   rw [he, Option.bind_some] at hx
   cases hu : Tk.upto [34] r1 with
   | none => exact token_walk_value.nou34 B g l r1 L w h hG hl hp he hu
   | some p =>
    obtain ⟨a, r⟩ := p
    rw [hu, Option.bind_some] at hx
    simp only at hx
    by_cases hc : 0 ≤ Lib.index a [60]
    ·exact token_walk_value.noc34 B g l r1 a r L w h hG hl hp he hu (contains_yes hc)
    ·rw [if_neg hc] at hx
     exact token_walk_value.nov34 B g l r1 a r L w h hG hl hp he hu (contains_no hc) (entsV_none (Option.map_eq_none_iff.1 hx))
 | false =>
  rw [if_neg (by rw [hp]; decide)] at hx
  dsimp only at hx
  cases he : Tk.behind [39] l with
  | none => exact token_walk_value.noe39 B g l L w h hG hl hp he
  | some r1 =>
   rw [he, Option.bind_some] at hx
   cases hu : Tk.upto [39] r1 with
   | none => exact token_walk_value.nou39 B g l r1 L w h hG hl hp he hu
   | some p =>
    obtain ⟨a, r⟩ := p
    rw [hu, Option.bind_some] at hx
    simp only at hx
    by_cases hc : 0 ≤ Lib.index a [60]
    ·exact token_walk_value.noc39 B g l r1 a r L w h hG hl hp he hu (contains_yes hc)
    ·rw [if_neg hc] at hx
     exact token_walk_value.nov39 B g l r1 a r L w h hG hl hp he hu (contains_no hc) (entsV_none (Option.map_eq_none_iff.1 hx))


end Go.Proofs.Ytkoogebfdinbnaa.Q

-- Printed by this session's wip/np.py over the kit's print program. Not trusted: Lean checks it.
namespace Go.Proofs.Ytkoogebfdinbnaa.Q
open Go.RowKit Go.Proofs.YtkoogebfdinbnaaW.PrintWords Go.Proofs.YtkoogebfdinbnaaW.PrintLast Go.Proofs.YtkoogebfdinbnaaW.Own Go.Proofs.YtkoogebfdinbnaaW.PrintMore
attribute [local go_sem] max2_int min2_int max_two min_two max_three min_three max_four min_four
set_option linter.unusedVariables false
set_option linter.unusedSimpArgs false

/-! ### token_walk_attr: function 55 -/
set_option maxHeartbeats 8000000 in
set_option maxRecDepth 100000 in
theorem token_walk_attr.yes (B g : Nat) {ok : Nat → Prop} (l r r1 v : List UInt8) (L : List S40) (w : World) (h : WalkAt w B g ok (Tk.bs l) L) (hG : Glob w) (hl : l.length ≤ 1000000) (hh : Tk.head l ≠ []) (he : Tk.behind [61] (Tk.skip (l.drop (Tk.head l).length)) = some r1) (hv : Tk.value (Tk.skip r1) = some (v, r)) :
 Calls Try.prog 55 #[.pointer (some ⟨g, 0, none⟩)] w fun e w' => e = .returned (.tuple #[.agg #[.string (Tk.bs (Tk.head l)), .string (Tk.bs v)], .bool true]) ∧ WalkAt w' B g ok (Tk.bs r) L ∧ Below B w w' ∧ KeepBut w w' g none := by
 obtain ⟨e1, e2, e3, e4⟩ := bs_some hh
 have hpos := h.pos
 have hsz := h.size
 have hu := Try.underlying68
 have hl1 : (l.drop (Tk.head l).length).length ≤ 1000000 := by rw [List.length_drop]; omega
 have hl2 : r1.length ≤ 1000000 := Nat.le_trans (behind_len he) (Nat.le_trans (skip_len _) hl1)
 have hl3 : (Tk.skip r1).length ≤ 1000000 := Nat.le_trans (skip_len _) hl2
 have HG := Aside0.mk hG
 have HE := Aside0.mk he
 have HV := Aside0.mk hv
 have H0 := Aside0.mk h
 clear h hG hh he hv
 go_enter Try.func55, Try.ntmps55
 go_wp2_with (fail)
 have hb0 : Below w.heap.size w (w.alloc (.cells #[.string ⟨#[]⟩, .string ⟨#[]⟩] 68)) := below_alloc (Below.refl _ _) _
 have X0 : (w.alloc (.cells #[.string ⟨#[]⟩, .string ⟨#[]⟩] 68)).heap[w.heap.size]? = some (.cells #[.string ⟨#[]⟩, .string ⟨#[]⟩] 68 (0, 0)) := heap_alloc_new w _
 have hgb : w.heap.size ≠ g := Nat.ne_of_gt H0.out.lt
 have H := Aside0.mk ((H0.out.more (ok' := fun k => ok k ∧ k ≠ w.heap.size) (fun k hk ho => ⟨ho, Nat.ne_of_lt hk⟩)).below hb0)
 have HG0 := Aside0.mk (HG.out.step hb0)
 have B0 := Aside0.mk (hb0.mono hsz)
 have K0 := Aside0.mk (KeepBut.of_below hb0 g none)
 have X := Aside0.mk X0
 clear H0 hb0 X0
 generalize w.alloc _ = w0 at *
 refine (token_walk_name.callsK B g l L _ H.out HG0.out hl).mono ?_
 rintro e w1 ⟨rfl, h1, b1, k1⟩
 have H1 := Aside0.mk h1
 have HG1 := Aside0.mk (HG0.out.below b1 hpos)
 have B1 := Aside0.mk (B0.out.trans b1)
 have K1 := Aside0.mk (K0.out.trans k1 (.inl rfl))
 have X1 := Aside0.mk (k1.blk X.out hgb (by simp))
 clear h1 b1 k1 X H K0 B0
 go_wp2_with (go_at_call 54; refine (token_walk_skip.callsK B g _ L _ H1.out HG1.out hl1).mono ?_)
 rintro e w2 ⟨rfl, h1, b1, k1⟩
 have H2 := Aside0.mk h1
 have HG2 := Aside0.mk (HG1.out.below b1 hpos)
 have B2 := Aside0.mk (B1.out.trans b1)
 have K2 := Aside0.mk (K1.out.trans k1 (.inl rfl))
 have X2 := Aside0.mk (k1.blk X1.out hgb (by simp))
 clear h1 b1 k1 X1 H1 K1 B1
 go_wp2_with (go_at_call 34; refine (token_walk_eat.yesK B g _ [61] r1 L _ H2.out HE.out).mono ?_)
 rintro e w3 ⟨rfl, h1, b1, k1⟩
 have H3 := Aside0.mk h1
 have HG3 := Aside0.mk (HG2.out.below b1 hpos)
 have B3 := Aside0.mk (B2.out.trans b1)
 have K3 := Aside0.mk (K2.out.trans k1 (.inl rfl))
 have X3 := Aside0.mk (k1.blk X2.out hgb (by simp))
 clear h1 b1 k1 X2 H2 K2 B2
 go_wp2_with (go_at_call 54; refine (token_walk_skip.callsK B g r1 L _ H3.out HG3.out hl2).mono ?_)
 rintro e w4 ⟨rfl, h1, b1, k1⟩
 have H4 := Aside0.mk h1
 have HG4 := Aside0.mk (HG3.out.below b1 hpos)
 have B4 := Aside0.mk (B3.out.trans b1)
 have K4 := Aside0.mk (K3.out.trans k1 (.inl rfl))
 have X4 := Aside0.mk (k1.blk X3.out hgb (by simp))
 clear h1 b1 k1 X3 H3 K3 B3
 go_wp2_with (go_at_call 65; refine (token_walk_value.yesK B g _ r v L _ H4.out HG4.out hl3 HV.out).mono ?_)
 rintro e w5 ⟨rfl, h1, b1, k1⟩
 have H5 := Aside0.mk h1
 have HG5 := Aside0.mk (HG4.out.below b1 hpos)
 have B5 := Aside0.mk (B4.out.trans b1)
 have K5 := Aside0.mk (K4.out.trans k1 (.inl rfl))
 have X5 := Aside0.mk (k1.blk X4.out hgb (by simp))
 clear h1 b1 k1 X4 H4 K4 B4
 have x0 := (blk_cell X5.out 0).trans rfl
 have x1 := (blk_cell X5.out 1).trans rfl
 have z0 := blk_frozen X5.out 0
 have z1 := blk_frozen X5.out 1
 go_wp2
 have Y : ∀ a b, ((w5.setCell ⟨w.heap.size, 0, none⟩ (.string a)).setCell ⟨w.heap.size, 1, none⟩ (.string b)).heap[w.heap.size]? = some (.cells #[.string a, .string b] 68 (0, 0)) := fun a b => by
  have h1 := blk_set X5.out 0 (.string a)
  have h2 := blk_set h1 1 (.string b)
  simpa using h2
 refine bodyPost_ret (results_ct rfl _ _ w.heap.size 68 #[.string (Tk.bs (Tk.head l)), .string (Tk.bs v)] (0, 0) _ rfl (Y _ _) Try.underlying68 rfl (by kernel_rfl)) rfl ⟨rfl, ?_, ?_, ?_⟩
 ·exact ((H5.out.far (p := ⟨w.heap.size, 0, none⟩) hgb (fun k hk => hk.2) _).far (p := ⟨w.heap.size, 1, none⟩) hgb (fun k hk => hk.2) _).more (fun k _ hk => hk.1)
 ·exact (B5.out.setCell (p := ⟨w.heap.size, 0, none⟩) hsz _).setCell (p := ⟨w.heap.size, 1, none⟩) hsz _
 ·exact keep_far (keep_far K5.out (Nat.le_refl _) _) (Nat.le_refl _) _
set_option maxHeartbeats 8000000 in
set_option maxRecDepth 100000 in
theorem token_walk_attr.noh (B g : Nat) {ok : Nat → Prop} (l : List UInt8) (L : List S40) (w : World) (h : WalkAt w B g ok (Tk.bs l) L) (hG : Glob w) (hl : l.length ≤ 1000000) (hh : Tk.head l = []) :
 Calls Try.prog 55 #[.pointer (some ⟨g, 0, none⟩)] w fun e w' => (∃ x y, e = .returned (.tuple #[.agg #[.string x, .string y], .bool false])) ∧ Below B w w' ∧ KeepBut w w' g none := by
 have e1 := bs_none hh
 have hpos := h.pos
 have hsz := h.size
 have hu := Try.underlying68
 have hl1 : (l.drop (Tk.head l).length).length ≤ 1000000 := by rw [List.length_drop]; omega
 have HG := Aside0.mk hG
 have H0 := Aside0.mk h
 clear h hG hh
 go_enter Try.func55, Try.ntmps55
 go_wp2_with (fail)
 have hb0 : Below w.heap.size w (w.alloc (.cells #[.string ⟨#[]⟩, .string ⟨#[]⟩] 68)) := below_alloc (Below.refl _ _) _
 have X0 : (w.alloc (.cells #[.string ⟨#[]⟩, .string ⟨#[]⟩] 68)).heap[w.heap.size]? = some (.cells #[.string ⟨#[]⟩, .string ⟨#[]⟩] 68 (0, 0)) := heap_alloc_new w _
 have hgb : w.heap.size ≠ g := Nat.ne_of_gt H0.out.lt
 have H := Aside0.mk ((H0.out.more (ok' := fun k => ok k ∧ k ≠ w.heap.size) (fun k hk ho => ⟨ho, Nat.ne_of_lt hk⟩)).below hb0)
 have HG0 := Aside0.mk (HG.out.step hb0)
 have B0 := Aside0.mk (hb0.mono hsz)
 have K0 := Aside0.mk (KeepBut.of_below hb0 g none)
 have X := Aside0.mk X0
 clear H0 hb0 X0
 generalize w.alloc _ = w0 at *
 refine (token_walk_name.callsK B g l L _ H.out HG0.out hl).mono ?_
 rintro e w1 ⟨rfl, h1, b1, k1⟩
 have H1 := Aside0.mk h1
 have HG1 := Aside0.mk (HG0.out.below b1 hpos)
 have B1 := Aside0.mk (B0.out.trans b1)
 have K1 := Aside0.mk (K0.out.trans k1 (.inl rfl))
 have X1 := Aside0.mk (k1.blk X.out hgb (by simp))
 clear h1 b1 k1 X H K0 B0
 go_wp2_with (go_at_call 54; refine (token_walk_skip.callsK B g _ L _ H1.out HG1.out hl1).mono ?_)
 rintro e w2 ⟨rfl, h1, b1, k1⟩
 have H2 := Aside0.mk h1
 have HG2 := Aside0.mk (HG1.out.below b1 hpos)
 have B2 := Aside0.mk (B1.out.trans b1)
 have K2 := Aside0.mk (K1.out.trans k1 (.inl rfl))
 have X2 := Aside0.mk (k1.blk X1.out hgb (by simp))
 clear h1 b1 k1 X1 H1 K1 B1
 have x0 := (blk_cell X2.out 0).trans rfl
 have x1 := (blk_cell X2.out 1).trans rfl
 have z0 := blk_frozen X2.out 0
 have z1 := blk_frozen X2.out 1
 go_wp2
 have Y : ∀ a b, ((w2.setCell ⟨w.heap.size, 0, none⟩ (.string a)).setCell ⟨w.heap.size, 1, none⟩ (.string b)).heap[w.heap.size]? = some (.cells #[.string a, .string b] 68 (0, 0)) := fun a b => by
  have h1 := blk_set X2.out 0 (.string a)
  have h2 := blk_set h1 1 (.string b)
  simpa using h2
 refine bodyPost_ret (results_ct rfl _ _ w.heap.size 68 #[.string ⟨#[]⟩, .string ⟨#[]⟩] (0, 0) _ rfl (Y _ _) Try.underlying68 rfl (by kernel_rfl)) rfl ⟨⟨_, _, rfl⟩, ?_, ?_⟩
 ·exact (B2.out.setCell (p := ⟨w.heap.size, 0, none⟩) hsz _).setCell (p := ⟨w.heap.size, 1, none⟩) hsz _
 ·exact keep_far (keep_far K2.out (Nat.le_refl _) _) (Nat.le_refl _) _
set_option maxHeartbeats 8000000 in
set_option maxRecDepth 100000 in
theorem token_walk_attr.noe (B g : Nat) {ok : Nat → Prop} (l : List UInt8) (L : List S40) (w : World) (h : WalkAt w B g ok (Tk.bs l) L) (hG : Glob w) (hl : l.length ≤ 1000000) (hh : Tk.head l ≠ []) (he : Tk.behind [61] (Tk.skip (l.drop (Tk.head l).length)) = none) :
 Calls Try.prog 55 #[.pointer (some ⟨g, 0, none⟩)] w fun e w' => (∃ x y, e = .returned (.tuple #[.agg #[.string x, .string y], .bool false])) ∧ Below B w w' ∧ KeepBut w w' g none := by
 obtain ⟨e1, e2, e3, e4⟩ := bs_some hh
 have hpos := h.pos
 have hsz := h.size
 have hu := Try.underlying68
 have hl1 : (l.drop (Tk.head l).length).length ≤ 1000000 := by rw [List.length_drop]; omega
 have HG := Aside0.mk hG
 have HE := Aside0.mk he
 have H0 := Aside0.mk h
 clear h hG hh he
 go_enter Try.func55, Try.ntmps55
 go_wp2_with (fail)
 have hb0 : Below w.heap.size w (w.alloc (.cells #[.string ⟨#[]⟩, .string ⟨#[]⟩] 68)) := below_alloc (Below.refl _ _) _
 have X0 : (w.alloc (.cells #[.string ⟨#[]⟩, .string ⟨#[]⟩] 68)).heap[w.heap.size]? = some (.cells #[.string ⟨#[]⟩, .string ⟨#[]⟩] 68 (0, 0)) := heap_alloc_new w _
 have hgb : w.heap.size ≠ g := Nat.ne_of_gt H0.out.lt
 have H := Aside0.mk ((H0.out.more (ok' := fun k => ok k ∧ k ≠ w.heap.size) (fun k hk ho => ⟨ho, Nat.ne_of_lt hk⟩)).below hb0)
 have HG0 := Aside0.mk (HG.out.step hb0)
 have B0 := Aside0.mk (hb0.mono hsz)
 have K0 := Aside0.mk (KeepBut.of_below hb0 g none)
 have X := Aside0.mk X0
 clear H0 hb0 X0
 generalize w.alloc _ = w0 at *
 refine (token_walk_name.callsK B g l L _ H.out HG0.out hl).mono ?_
 rintro e w1 ⟨rfl, h1, b1, k1⟩
 have H1 := Aside0.mk h1
 have HG1 := Aside0.mk (HG0.out.below b1 hpos)
 have B1 := Aside0.mk (B0.out.trans b1)
 have K1 := Aside0.mk (K0.out.trans k1 (.inl rfl))
 have X1 := Aside0.mk (k1.blk X.out hgb (by simp))
 clear h1 b1 k1 X H K0 B0
 go_wp2_with (go_at_call 54; refine (token_walk_skip.callsK B g _ L _ H1.out HG1.out hl1).mono ?_)
 rintro e w2 ⟨rfl, h1, b1, k1⟩
 have H2 := Aside0.mk h1
 have HG2 := Aside0.mk (HG1.out.below b1 hpos)
 have B2 := Aside0.mk (B1.out.trans b1)
 have K2 := Aside0.mk (K1.out.trans k1 (.inl rfl))
 have X2 := Aside0.mk (k1.blk X1.out hgb (by simp))
 clear h1 b1 k1 X1 H1 K1 B1
 go_wp2_with (go_at_call 34; refine (token_walk_eat.noK B g _ [61] L _ H2.out HE.out).mono ?_)
 rintro e w3 ⟨rfl, h1, b1, k1⟩
 have H3 := Aside0.mk h1
 have HG3 := Aside0.mk (HG2.out.below b1 hpos)
 have B3 := Aside0.mk (B2.out.trans b1)
 have K3 := Aside0.mk (K2.out.trans k1 (.inl rfl))
 have X3 := Aside0.mk (k1.blk X2.out hgb (by simp))
 clear h1 b1 k1 X2 H2 K2 B2
 have x0 := (blk_cell X3.out 0).trans rfl
 have x1 := (blk_cell X3.out 1).trans rfl
 have z0 := blk_frozen X3.out 0
 have z1 := blk_frozen X3.out 1
 go_wp2
 have Y : ∀ a b, ((w3.setCell ⟨w.heap.size, 0, none⟩ (.string a)).setCell ⟨w.heap.size, 1, none⟩ (.string b)).heap[w.heap.size]? = some (.cells #[.string a, .string b] 68 (0, 0)) := fun a b => by
  have h1 := blk_set X3.out 0 (.string a)
  have h2 := blk_set h1 1 (.string b)
  simpa using h2
 refine bodyPost_ret (results_ct rfl _ _ w.heap.size 68 #[.string ⟨#[]⟩, .string ⟨#[]⟩] (0, 0) _ rfl (Y _ _) Try.underlying68 rfl (by kernel_rfl)) rfl ⟨⟨_, _, rfl⟩, ?_, ?_⟩
 ·exact (B3.out.setCell (p := ⟨w.heap.size, 0, none⟩) hsz _).setCell (p := ⟨w.heap.size, 1, none⟩) hsz _
 ·exact keep_far (keep_far K3.out (Nat.le_refl _) _) (Nat.le_refl _) _
set_option maxHeartbeats 8000000 in
set_option maxRecDepth 100000 in
theorem token_walk_attr.nov (B g : Nat) {ok : Nat → Prop} (l r1 : List UInt8) (L : List S40) (w : World) (h : WalkAt w B g ok (Tk.bs l) L) (hG : Glob w) (hl : l.length ≤ 1000000) (hh : Tk.head l ≠ []) (he : Tk.behind [61] (Tk.skip (l.drop (Tk.head l).length)) = some r1) (hv : Tk.value (Tk.skip r1) = none) :
 Calls Try.prog 55 #[.pointer (some ⟨g, 0, none⟩)] w fun e w' => (∃ x y, e = .returned (.tuple #[.agg #[.string x, .string y], .bool false])) ∧ Below B w w' ∧ KeepBut w w' g none := by
 obtain ⟨e1, e2, e3, e4⟩ := bs_some hh
 have hpos := h.pos
 have hsz := h.size
 have hu := Try.underlying68
 have hl1 : (l.drop (Tk.head l).length).length ≤ 1000000 := by rw [List.length_drop]; omega
 have hl2 : r1.length ≤ 1000000 := Nat.le_trans (behind_len he) (Nat.le_trans (skip_len _) hl1)
 have hl3 : (Tk.skip r1).length ≤ 1000000 := Nat.le_trans (skip_len _) hl2
 have HG := Aside0.mk hG
 have HE := Aside0.mk he
 have HV := Aside0.mk hv
 have H0 := Aside0.mk h
 clear h hG hh he hv
 go_enter Try.func55, Try.ntmps55
 go_wp2_with (fail)
 have hb0 : Below w.heap.size w (w.alloc (.cells #[.string ⟨#[]⟩, .string ⟨#[]⟩] 68)) := below_alloc (Below.refl _ _) _
 have X0 : (w.alloc (.cells #[.string ⟨#[]⟩, .string ⟨#[]⟩] 68)).heap[w.heap.size]? = some (.cells #[.string ⟨#[]⟩, .string ⟨#[]⟩] 68 (0, 0)) := heap_alloc_new w _
 have hgb : w.heap.size ≠ g := Nat.ne_of_gt H0.out.lt
 have H := Aside0.mk ((H0.out.more (ok' := fun k => ok k ∧ k ≠ w.heap.size) (fun k hk ho => ⟨ho, Nat.ne_of_lt hk⟩)).below hb0)
 have HG0 := Aside0.mk (HG.out.step hb0)
 have B0 := Aside0.mk (hb0.mono hsz)
 have K0 := Aside0.mk (KeepBut.of_below hb0 g none)
 have X := Aside0.mk X0
 clear H0 hb0 X0
 generalize w.alloc _ = w0 at *
 refine (token_walk_name.callsK B g l L _ H.out HG0.out hl).mono ?_
 rintro e w1 ⟨rfl, h1, b1, k1⟩
 have H1 := Aside0.mk h1
 have HG1 := Aside0.mk (HG0.out.below b1 hpos)
 have B1 := Aside0.mk (B0.out.trans b1)
 have K1 := Aside0.mk (K0.out.trans k1 (.inl rfl))
 have X1 := Aside0.mk (k1.blk X.out hgb (by simp))
 clear h1 b1 k1 X H K0 B0
 go_wp2_with (go_at_call 54; refine (token_walk_skip.callsK B g _ L _ H1.out HG1.out hl1).mono ?_)
 rintro e w2 ⟨rfl, h1, b1, k1⟩
 have H2 := Aside0.mk h1
 have HG2 := Aside0.mk (HG1.out.below b1 hpos)
 have B2 := Aside0.mk (B1.out.trans b1)
 have K2 := Aside0.mk (K1.out.trans k1 (.inl rfl))
 have X2 := Aside0.mk (k1.blk X1.out hgb (by simp))
 clear h1 b1 k1 X1 H1 K1 B1
 go_wp2_with (go_at_call 34; refine (token_walk_eat.yesK B g _ [61] r1 L _ H2.out HE.out).mono ?_)
 rintro e w3 ⟨rfl, h1, b1, k1⟩
 have H3 := Aside0.mk h1
 have HG3 := Aside0.mk (HG2.out.below b1 hpos)
 have B3 := Aside0.mk (B2.out.trans b1)
 have K3 := Aside0.mk (K2.out.trans k1 (.inl rfl))
 have X3 := Aside0.mk (k1.blk X2.out hgb (by simp))
 clear h1 b1 k1 X2 H2 K2 B2
 go_wp2_with (go_at_call 54; refine (token_walk_skip.callsK B g r1 L _ H3.out HG3.out hl2).mono ?_)
 rintro e w4 ⟨rfl, h1, b1, k1⟩
 have H4 := Aside0.mk h1
 have HG4 := Aside0.mk (HG3.out.below b1 hpos)
 have B4 := Aside0.mk (B3.out.trans b1)
 have K4 := Aside0.mk (K3.out.trans k1 (.inl rfl))
 have X4 := Aside0.mk (k1.blk X3.out hgb (by simp))
 clear h1 b1 k1 X3 H3 K3 B3
 go_wp2_with (go_at_call 65; refine (token_walk_value.noK B g _ L _ H4.out HG4.out hl3 HV.out).mono ?_)
 rintro e w5 ⟨⟨xv, rfl⟩, b1, k1⟩
 have B5 := Aside0.mk (B4.out.trans b1)
 have K5 := Aside0.mk (K4.out.trans k1 (.inl rfl))
 have X5 := Aside0.mk (k1.blk X4.out hgb (by simp))
 clear b1 k1 X4 H4 K4 B4
 have x0 := (blk_cell X5.out 0).trans rfl
 have x1 := (blk_cell X5.out 1).trans rfl
 have z0 := blk_frozen X5.out 0
 have z1 := blk_frozen X5.out 1
 go_wp2
 have Y : ∀ a b, ((w5.setCell ⟨w.heap.size, 0, none⟩ (.string a)).setCell ⟨w.heap.size, 1, none⟩ (.string b)).heap[w.heap.size]? = some (.cells #[.string a, .string b] 68 (0, 0)) := fun a b => by
  have h1 := blk_set X5.out 0 (.string a)
  have h2 := blk_set h1 1 (.string b)
  simpa using h2
 refine bodyPost_ret (results_ct rfl _ _ w.heap.size 68 #[.string (Tk.bs (Tk.head l)), .string xv] (0, 0) _ rfl (Y _ _) Try.underlying68 rfl (by kernel_rfl)) rfl ⟨⟨_, _, rfl⟩, ?_, ?_⟩
 ·exact (B5.out.setCell (p := ⟨w.heap.size, 0, none⟩) hsz _).setCell (p := ⟨w.heap.size, 1, none⟩) hsz _
 ·exact keep_far (keep_far K5.out (Nat.le_refl _) _) (Nat.le_refl _) _
theorem token_walk_attr.yesA (B g : Nat) {ok : Nat → Prop} (l r : List UInt8) (x : S68) (L : List S40) (w : World) (h : WalkAt w B g ok (Tk.bs l) L) (hG : Glob w) (hl : l.length ≤ 1000000) (hx : Tk.attr l = some (x, r)) :
 Calls Try.prog 55 #[.pointer (some ⟨g, 0, none⟩)] w fun e w' => e = .returned (.tuple #[.agg #[.string x.f0, .string x.f1], .bool true]) ∧ WalkAt w' B g ok (Tk.bs r) L ∧ Below B w w' ∧ KeepBut w w' g none := by
 unfold Tk.attr at hx
 by_cases hh : Tk.head l = []
 ·rw [if_pos hh] at hx; cases hx
 rw [if_neg hh] at hx
 obtain ⟨r1, he, hx⟩ := Option.bind_eq_some_iff.1 hx
 obtain ⟨⟨v, r2⟩, hv, hx⟩ := Option.map_eq_some_iff.1 hx
 obtain ⟨rfl, rfl⟩ := Prod.mk.inj hx
 exact token_walk_attr.yes B g l r2 r1 v L w h hG hl hh he hv
theorem token_walk_attr.noA (B g : Nat) {ok : Nat → Prop} (l : List UInt8) (L : List S40) (w : World) (h : WalkAt w B g ok (Tk.bs l) L) (hG : Glob w) (hl : l.length ≤ 1000000) (hx : Tk.attr l = none) :
 Calls Try.prog 55 #[.pointer (some ⟨g, 0, none⟩)] w fun e w' => (∃ x y, e = .returned (.tuple #[.agg #[.string x, .string y], .bool false])) ∧ Below B w w' ∧ KeepBut w w' g none := by
 unfold Tk.attr at hx
 by_cases hh : Tk.head l = []
 ·exact token_walk_attr.noh B g l L w h hG hl hh
 rw [if_neg hh] at hx
 cases he : Tk.behind [61] (Tk.skip (l.drop (Tk.head l).length)) with
 | none => exact token_walk_attr.noe B g l L w h hG hl hh he
 | some r1 =>
  rw [he, Option.bind_some] at hx
  exact token_walk_attr.nov B g l r1 L w h hG hl hh he (Option.map_eq_none_iff.1 hx)


end Go.Proofs.Ytkoogebfdinbnaa.Q

-- Printed by this session's wip/np.py over the kit's print program. Not trusted: Lean checks it.
namespace Go.Proofs.Ytkoogebfdinbnaa.Q
open Go.RowKit Go.Proofs.YtkoogebfdinbnaaW.PrintWords Go.Proofs.YtkoogebfdinbnaaW.PrintLast Go.Proofs.YtkoogebfdinbnaaW.Own Go.Proofs.YtkoogebfdinbnaaW.PrintMore
attribute [local go_sem] max2_int min2_int max_two min_two max_three min_three max_four min_four
set_option linter.unusedVariables false
set_option linter.unusedSimpArgs false

/-! ### api_Attr_56: function 56 -/
def attEq (v0 : ByteArray) (s : S68) : Bool := s.f0.toList == v0.toList
set_option maxHeartbeats 4000000 in
set_option maxRecDepth 100000 in
theorem api_Attr_56.calls1 (s : S68) (v0 : ByteArray) (g : Nat) (w : World) (hc : w.cell? ⟨g, 0, none⟩ = some (.string v0)) :
 Calls Try.prog 57 #[.agg #[.string s.f0, .string s.f1], .pointer (some ⟨g, 0, none⟩)] w fun e w' => e = .returned (.bool (s.f0.toList == v0.toList)) ∧ Below w.heap.size w w' := by
 have hu := Try.underlying68
 have hlt := World.block_lt_of_cell? _ _ hc
 have HC := Aside0.mk hc
 clear hc
 go_enter Try.func57, Try.ntmps57
 have HB := Aside0.mk (Below.refl w.heap.size w)
 go_upto_region 1 with (first | ((with_reducible refine gate_dst (N := 2) rfl ?_); refine box_event ?hg (N := 2) ?hd (cs := #[.string s.f0, .string s.f1]) (t := 68) ?hr ?_; (case hd => rfl); (case hg => rfl); (case hr => first | (go_simp; done) | (go_simp; rfl)); intro gb hg w3 hbox hb; have HX := Aside0.mk hbox; have n0_ := Aside0.mk (below_step HB.out hb); have n1_ := Aside0.mk ((hb.cell (World.block_lt_of_cell? _ _ HC.out)).trans HC.out); clear HB HC; have HB := n0_; have HC := n1_; clear n0_ n1_; clear hb hbox hg))
 have hX0 : w3.cell? ⟨gb, 0, none⟩ = some (.string s.f0) := (blk_cell HX.out 0).trans rfl
 have hX1 : w3.cell? ⟨gb, 1, none⟩ = some (.string s.f1) := (blk_cell HX.out 1).trans rfl
 have hCv := HC.out
 go_wp2
 go_ret
 exact ⟨rfl, HB.out⟩
theorem any_take {α : Type} (p : α → Bool) (xs : List α) (i : Nat) (h : i < xs.length) : (xs.take (i + 1)).any p = ((xs.take i).any p || p xs[i]) := by
 rw [List.take_succ_eq_append_getElem h, List.any_append]
 simp
theorem any_hit {α : Type} {p : α → Bool} {xs : List α} {i : Nat} (h : i < xs.length) (hp : p xs[i] = true) : xs.any p = true := List.any_eq_true.2 ⟨_, List.getElem_mem h, hp⟩
theorem rdA_at (xs : List S68) (i : Nat) (h : i < xs.length) : rd_T68 xs (i : Int) = xs[i] := by
 simp [rd_T68, List.getD, h]
set_option maxHeartbeats 8000000 in
set_option maxRecDepth 100000 in
theorem api_Attr_56.calls2 (A0 : Option Addr) (c0 : Nat) (xs : List S68) (v0 : ByteArray) (g : Nat) (w : World) (hr0 : Kd.C k68 w A0 xs.length xs) (hlen : xs.length ≤ 1000000) (hc : w.cell? ⟨g, 0, none⟩ = some (.string v0)) :
 Calls Try.prog 66 #[.slice A0 xs.length c0, .func (.func 57) #[] #[.pointer (some ⟨g, 0, none⟩)]] w fun e w' => (∃ r : Int, e = .returned (.int .i64 r) ∧ decide (0 ≤ r) = xs.any (attEq v0)) ∧ Below w.heap.size w w' := by
 have hu := Try.underlying68
 have HR0 := Aside0.mk hr0
 have HC := Aside0.mk hc
 clear hr0 hc
 obtain ⟨p, hp⟩ : ∃ p : S68 → Bool, attEq v0 = p := ⟨_, rfl⟩
 have C1 : ∀ (s : S68) (W : World), W.cell? ⟨g, 0, none⟩ = some (.string v0) → Calls Try.prog 57 #[.agg #[.string s.f0, .string s.f1], .pointer (some ⟨g, 0, none⟩)] W fun e w' => e = .returned (.bool (p s)) ∧ Below W.heap.size W w' := by
  intro s W hW
  rw [← hp]
  exact api_Attr_56.calls1 s v0 g W hW
 rw [hp]
 clear hp
 go_enter Try.func66, Try.ntmps66
 go_wp2
 go_loopg [8] (xs.length + 1) (fun gk v8 w' => ∃ (i : Nat) (x : Int), i ≤ xs.length ∧ i + gk = xs.length + 1 ∧ v8 = .int .i64 x ∧ Aside0 (x = (i : Int)) ∧ Aside0 ((xs.take i).any p = false) ∧ Aside0 (Below w.heap.size w w'))
 case atStart => exact ⟨0, 0, by omega, by omega, by first | rfl | (simp; done), ⟨rfl⟩, ⟨by rw [List.take_zero]; rfl⟩, ⟨Below.refl _ _⟩⟩
 case round =>
  obtain ⟨i, x, hi, hgk, rfl, HX, HA, HB⟩ := hrel
  have hxi := HX.out
  by_cases hlt : i < xs.length
  ·obtain ⟨g1, rfl⟩ : ∃ g1, gk = g1 + 1 := ⟨gk - 1, by omega⟩
   have d1 : decide (x < (xs.length : Int)) = true := decide_eq_true (by omega)
   obtain ⟨ad, e_, hx0, hx1⟩ := at_T68 HR0.out x (by omega) (by omega)
   cases e_
   have hel : rd_T68 xs x = xs[i] := by rw [hxi, rdA_at xs i hlt]
   replace hx0 := (HB.out.cell (World.block_lt_of_cell? w _ hx0)).trans hx0
   replace hx1 := (HB.out.cell (World.block_lt_of_cell? w _ hx1)).trans hx1
   have hcg : wr.cell? ⟨g, 0, none⟩ = some (.string v0) := (HB.out.cell (World.block_lt_of_cell? w _ HC.out)).trans HC.out
   have p_ := eq_true (show 0 ≤ x by omega)
   have q_ := eq_true (show x < (xs.length : Int) by omega)
   have hat := any_take p xs i hlt
   rw [HA.out, ← hel, Bool.false_or] at hat
   have C2 := C1 (rd_T68 xs x) wr hcg
   cases hps : p (rd_T68 xs x) with
   | true =>
    rw [hps] at C2
    have hall : xs.any p = true := any_hit hlt (by rw [← hel]; exact hps)
    have HALL := Lib.hid hall
    have HX0 : decide (0 ≤ x) = true := decide_eq_true (by omega)
    have HXX := Lib.hid HX0
    have C3 := Aside0.mk C2
    clear hps hall hat hel hxi hcg C2 C1 HX0
    go_wp2_with (first | (go_at_call 57; (with_reducible refine (C3.out).mono ?_); rintro e w4 ⟨rfl, hb⟩; have B4 := Aside0.mk hb; clear hb))
    go_ret
    exact ⟨⟨_, rfl, by rw [HALL.out, HXX.out]⟩, below_step HB.out B4.out⟩
   | false =>
    rw [hps] at C2 hat
    have HAT := Aside0.mk hat
    have C3 := Aside0.mk C2
    have hw1 : wrap64 (x + 1) = ((i + 1 : Nat) : Int) := by unfold wrap64; omega
    have HW1 := Aside0.mk hw1
    clear hps hat hel hxi hcg C2 hw1
    go_wp2_with (first | (go_at_call 57; (with_reducible refine (C3.out).mono ?_); rintro e w4 ⟨rfl, hb⟩; have B4 := Aside0.mk hb; clear hb))
    go_roundg g1
    case measure => omega
    case rel => exact ⟨i + 1, _, by omega, by omega, by first | rfl | (simp; done), HW1, HAT, ⟨below_step HB.out B4.out⟩⟩
  ·obtain rfl : i = xs.length := by omega
   have d1 : decide (x < (xs.length : Int)) = false := decide_eq_false (by omega)
   have hall : xs.any p = false := by have := HA.out; rwa [List.take_length] at this
   have HALL := Lib.hid hall
   clear hall hxi C1
   go_wp2
   go_ret
   exact ⟨⟨_, rfl, by rw [HALL.out]; rfl⟩, HB.out⟩
set_option maxHeartbeats 8000000 in
set_option maxRecDepth 100000 in
theorem api_Attr_56.callsA (A0 : Option Addr) (c0 : Nat) (xs : List S68) (v0 : ByteArray) (g : Nat) (w : World) (hr0 : Kd.C k68 w A0 xs.length xs) (hlen : xs.length ≤ 1000000) (hc : w.cell? ⟨g, 0, none⟩ = some (.string v0)) :
 Calls Try.prog 56 #[.slice A0 xs.length c0, .func (.func 57) #[] #[.pointer (some ⟨g, 0, none⟩)]] w fun e w' => e = .returned (.bool (xs.any (attEq v0))) ∧ Below w.heap.size w w' := by
 have C1 := Aside0.mk (api_Attr_56.calls2 A0 c0 xs v0 g w hr0 hlen hc)
 obtain ⟨b, hb⟩ : ∃ b, b = xs.any (attEq v0) := ⟨_, rfl⟩
 rw [← hb] at C1 ⊢
 clear hr0 hc hb
 go_enter Try.func56, Try.ntmps56
 go_wp2_with (first | (go_at_call 66; (with_reducible refine C1.out.mono ?_); rintro e w4 ⟨⟨r, rfl, hr⟩, hb⟩; have HB := Aside0.mk hb; have HR := Lib.hid hr; clear hb hr))
 go_ret
 refine ⟨?_, HB.out⟩
 rw [← HR.out]
 first | rfl | (simp; done)



end Go.Proofs.Ytkoogebfdinbnaa.Q

-- Printed by this session's wip/np.py over the kit's print program. Not trusted: Lean checks it.
namespace Go.Proofs.Ytkoogebfdinbnaa.Q
open Go.RowKit Go.Proofs.YtkoogebfdinbnaaW.PrintWords Go.Proofs.YtkoogebfdinbnaaW.PrintLast Go.Proofs.YtkoogebfdinbnaaW.Own Go.Proofs.YtkoogebfdinbnaaW.PrintMore
attribute [local go_sem] max2_int min2_int max_two min_two max_three min_three max_four min_four
set_option linter.unusedVariables false
set_option linter.unusedSimpArgs false

/-! ### token_walk_begin: function 39 -/
theorem value_len {l v r : List UInt8} (h : Tk.value l = some (v, r)) : r.length ≤ l.length := by
 unfold Tk.value at h
 dsimp only at h
 obtain ⟨r1, h1, h⟩ := Option.bind_eq_some_iff.1 h
 obtain ⟨⟨a, b⟩, h2, h⟩ := Option.bind_eq_some_iff.1 h
 dsimp only at h
 split at h
 ·cases h
 ·obtain ⟨c, _, h⟩ := Option.map_eq_some_iff.1 h
  obtain ⟨_, rfl⟩ := Prod.mk.inj h
  exact Nat.le_trans (upto_len h2).2 (behind_len h1)
theorem behind_sum {x l r : List UInt8} (h : Tk.behind x l = some r) : r.length + x.length = l.length := by
 unfold Tk.behind at h
 split at h
 ·rename_i hp
  injection h with h
  have := (List.isPrefixOf_iff_prefix.1 hp).length_le
  rw [← h, List.length_drop]; omega
 ·cases h
theorem attr_len {l r : List UInt8} {x : S68} (h : Tk.attr l = some (x, r)) : r.length < l.length := by
 unfold Tk.attr at h
 split at h
 ·cases h
 ·obtain ⟨r1, h1, h⟩ := Option.bind_eq_some_iff.1 h
  obtain ⟨⟨v, r2⟩, h2, h⟩ := Option.map_eq_some_iff.1 h
  obtain ⟨_, rfl⟩ := Prod.mk.inj h
  have e1 := behind_sum h1
  have e2 := value_len h2
  dsimp only at e2 ⊢
  have e3 := skip_len r1
  have e4 := skip_len (l.drop (Tk.head l).length)
  rw [List.length_drop] at e4
  simp only [List.length_cons, List.length_nil] at e1
  omega
theorem WalkAt.grown {w w1 : World} {B g : Nat} {ok : Nat → Prop} {s : ByteArray} {L : List S40} {row : Option Nat} (h : WalkAt w B g ok s L) (hg : w.grownBy w1 row) (h1 : some g ≠ row) (h2 : ∀ k, ok k → some k ≠ row) : WalkAt w1 B g ok s L := by
 obtain ⟨v, h3, h4, h5⟩ := h
 exact ⟨v, blk_grown h3 hg h1, Kd.S_grown h4 hg (fun k hk => h2 k hk.1), h5⟩
theorem attInfo : (Try.prog.info? 68).map (fun i => (i.zero, i.size, i.bytes)) = some (some (.agg #[.string ⟨#[]⟩, .string ⟨#[]⟩]), 2, 32) := by kernel_rfl
set_option maxHeartbeats 16000000 in
set_option maxRecDepth 100000 in
theorem token_walk_begin.walk (B g : Nat) {ok : Nat → Prop} (l : List UInt8) (res : Option (S40 × List UInt8)) (L : List S40) (w : World) (h : WalkAt w B g ok (Tk.bs l) L) (hG : Glob w) (hl : l.length ≤ 100000) (hL : L.length ≤ 100000) (hok : ∀ k, w.heap.size ≤ k → ok k) (hh : Tk.head l ≠ []) (hx : Tk.attrs (l.length + 1) (Tk.head l) [] (l.drop (Tk.head l).length) = res) :
 Calls Try.prog 39 #[.pointer (some ⟨g, 0, none⟩)] w fun e w' => (∀ t r, res = some (t, r) → e = .returned (.bool true) ∧ WalkAt w' B g ok (Tk.bs r) (L ++ [t])) ∧ (res = none → e = .returned (.bool false)) ∧ Below B w w' := by
 obtain ⟨e1, e2, e3, e4⟩ := bs_some hh
 have hpos := h.pos
 have hsz := h.size
 have hglt := h.lt
 have hdl : (l.drop (Tk.head l).length).length ≤ l.length := by rw [List.length_drop]; omega
 have hu1 := Try.underlying68
 have hu2 := Try.underlying40
 have HG := Aside0.mk hG
 have HX := Aside0.mk hx
 have H0 := Aside0.mk (h.more (ok' := fun k => ok k ∧ k < w.heap.size) (fun k hk ho => ⟨ho, hk⟩))
 clear h hG hh hx
 go_enter Try.func39, Try.ntmps39
 go_wp2
 refine wp_scope_loop 0 (by rfl) ?_
 go_wp2_with (go_at_call 53; refine (token_walk_name.callsK B g l L _ H0.out HG.out (by omega)).mono ?_)
 rintro e wa ⟨rfl, h1, b1, k1⟩
 have HG1 := Aside0.mk (HG.out.below b1 hpos)
 have H1 := Aside0.mk h1
 have B1 := Aside0.mk b1
 have K1 := Aside0.mk k1
 have hsa : w.heap.size ≤ wa.heap.size := b1.size
 clear h1 b1 k1
 go_wp2
 have hb0 : Below wa.heap.size wa (wa.alloc (.cells #[.int .i64 1, .string (Tk.bs (Tk.head l)), .string ⟨#[]⟩, .slice none 0 0, .bool false] 40)) := below_alloc (Below.refl _ _) _
 have X0 : (wa.alloc (.cells #[.int .i64 1, .string (Tk.bs (Tk.head l)), .string ⟨#[]⟩, .slice none 0 0, .bool false] 40)).heap[wa.heap.size]? = some (.cells #[.int .i64 1, .string (Tk.bs (Tk.head l)), .string ⟨#[]⟩, .slice none 0 0, .bool false] 40 (0, 0)) := heap_alloc_new wa _
 obtain ⟨gt, hgt⟩ : ∃ gt, gt = wa.heap.size := ⟨_, rfl⟩
 have hgtw : w.heap.size ≤ gt := by omega
 have hgtg : gt ≠ g := by omega
 have hBgt : B ≤ gt := by omega
 have H2 := Aside0.mk (H1.out.below hb0)
 have B2 := Aside0.mk (B1.out.trans (hb0.mono (by omega)))
 have S2 := Aside0.mk (Nat.le_trans hsa hb0.size)
 rw [← hgt] at X0
 rw [← hgt]
 have X2 := Aside0.mk X0
 clear hb0 X0 H1 B1 K1 HG1 H0
 generalize wa.alloc _ = w0 at *
 clear hgt hsa
 refine wp_label ?_
 rename_i hlb
 refine hlb _ _ ?_
 refine wp_at_label ?_
 refine LoopAt.intro (fun aB_ kq_ a1 w1 => ∃ (u2 u4 u5 u6 u13 u14 u15 u16 u17 u18 u19 u20 u21 u22 u23 u24 u25 u26 u27 u28 u29 u30 u31 u32 u33 u34 u35 u36 u37 u38 u39 u40 u41 u42 u43 u44 u45 u46 u47 u48 u49 : Value), (∃ (m : List UInt8) (xs : List S68) (va : Value), m.length < kq_ ∧ Aside0 (m.length ≤ l.length) ∧ Aside0 (xs.length + m.length ≤ l.length) ∧ Aside0 (Tk.attrs kq_ (Tk.head l) xs m = res) ∧ Aside0 (WalkAt w1 B g (fun k => ok k ∧ k < w.heap.size) (Tk.bs m) L) ∧ Aside0 (w1.heap[gt]? = some (.cells #[.int .i64 1, .string (Tk.bs (Tk.head l)), .string ⟨#[]⟩, va, .bool false] 40 (0, 0))) ∧ Aside0 (Kd.R k68 68 w1 B (fun k => w.heap.size ≤ k) va xs) ∧ Aside0 (Below B w w1) ∧ Aside0 (w.heap.size ≤ w1.heap.size)) ∧ a1 = (((((((((((((((((((((((((((((((((((((((((aB_.put (some 2) u2).put (some 4) u4).put (some 5) u5).put (some 6) u6).put (some 13) u13).put (some 14) u14).put (some 15) u15).put (some 16) u16).put (some 17) u17).put (some 18) u18).put (some 19) u19).put (some 20) u20).put (some 21) u21).put (some 22) u22).put (some 23) u23).put (some 24) u24).put (some 25) u25).put (some 26) u26).put (some 27) u27).put (some 28) u28).put (some 29) u29).put (some 30) u30).put (some 31) u31).put (some 32) u32).put (some 33) u33).put (some 34) u34).put (some 35) u35).put (some 36) u36).put (some 37) u37).put (some 38) u38).put (some 39) u39).put (some 40) u40).put (some 41) u41).put (some 42) u42).put (some 43) u43).put (some 44) u44).put (some 45) u45).put (some 46) u46).put (some 47) u47).put (some 48) u48).put (some 49) u49)) (l.length + 1) ?_ ?_
 ·(repeat apply Exists.intro)
  (try simp only [Act.put, List.setIfInBounds_toArray, List.set_cons_zero, List.set_cons_succ])
  refine ⟨?_, rfl⟩
  exact ⟨l.drop (Tk.head l).length, [], .slice none 0 0, Nat.lt_succ_of_le hdl, ⟨hdl⟩, ⟨by simp⟩, HX, H2, X2, ⟨Kd.R_nil _ _ _ _ _⟩, B2, S2⟩
 ·intro gk a1 wr hinv
  obtain ⟨u2, u4, u5, u6, u13, u14, u15, u16, u17, u18, u19, u20, u21, u22, u23, u24, u25, u26, u27, u28, u29, u30, u31, u32, u33, u34, u35, u36, u37, u38, u39, u40, u41, u42, u43, u44, u45, u46, u47, u48, u49, hrel, ha⟩ := hinv
  subst ha
  (try simp only [Act.put, List.setIfInBounds_toArray, List.set_cons_zero, List.set_cons_succ])
  intro Js0 Ks0 hJs0 hKs0
  clear H2 X2 B2 S2 HX
  obtain ⟨m, xs, va, hmk, HML, HXL, HX, H, X, R, HB, HS⟩ := hrel
  obtain ⟨g1, rfl⟩ : ∃ g1, gk = g1 + 1 := ⟨gk - 1, by omega⟩
  obtain ⟨A0, c0, rfl⟩ := Kd.R_slice R.out
  have hml := HML.out
  have hxl := HXL.out
  have hG1 : Glob wr := HG.out.below HB.out hpos
  have HG1 := Aside0.mk hG1
  have hsl : (Tk.skip m).length ≤ m.length := skip_len m
  obtain ⟨bsp, hbsp⟩ : ∃ b, b = decide ((Tk.skip m).length < m.length) := ⟨_, rfl⟩
  clear hG1
  have CS := token_walk_skip.callsK B g m L wr H.out HG1.out (by omega)
  rw [← hbsp] at CS
  have HBSP := Lib.hid hbsp
  clear hbsp
  have CS1 := Aside0.mk CS
  clear CS
  go_wp2_with (go_at_call 54; refine CS1.out.mono ?_)
  rintro e ws ⟨rfl, h1, b1, k1⟩
  have H3 := Aside0.mk h1
  have HG3 := Aside0.mk (HG1.out.below b1 hpos)
  have B3 := Aside0.mk (HB.out.trans b1)
  have S3 := Aside0.mk (Nat.le_trans HS.out k1.1)
  have X3 := Aside0.mk (k1.blk X.out hgtg (by simp))
  have R3 := Aside0.mk (Kd.R_step R.out (fun k hk hlt => k1.2 k hlt (by omega) (by simp)))
  clear h1 b1 k1 H HG1 HB HS X R CS1
  cases hgt1 : Tk.behind [62] (Tk.skip m) with
  | some r =>
   -- '>': the end of it
   have hres : res = some (Tk.tk 1 (Tk.head l) [] xs false, r) := by
    rw [← HX.out, Tk.attrs]
    simp only [hgt1]
   have HRES := Lib.hid hres
   have HE := Aside0.mk hgt1
   clear hres hgt1 HX
   go_wp2_with (go_at_call 34; refine (token_walk_eat.yesK B g _ [62] r L _ H3.out HE.out).mono ?_)
   rintro e we ⟨rfl, h1, b1, k1⟩
   have H4 := Aside0.mk (h1.more (ok' := fun k => ok k ∧ ¬ w.heap.size ≤ k) (fun k _ hk => ⟨hk.1, Nat.not_le.2 hk.2⟩))
   have B4 := Aside0.mk (B3.out.trans b1)
   have S4 := Aside0.mk (Nat.le_trans S3.out k1.1)
   have X4 := k1.blk X3.out hgtg (by simp)
   have R4 := Aside0.mk (Kd.R_step R3.out (fun k hk hlt => k1.2 k hlt (by omega) (by simp)))
   clear h1 b1 k1 H3 HG3 B3 S3 X3 R3
   have x0 := (blk_cell X4 0).trans rfl
   have x1 := (blk_cell X4 1).trans rfl
   have x2 := (blk_cell X4 2).trans rfl
   have x3 := (blk_cell X4 3).trans rfl
   have x4 := (blk_cell X4 4).trans rfl
   clear X4
   go_wp2_with (go_at_call 52; refine (token_walk_put.calls B g (fun k => w.heap.size ≤ k) (Tk.bs r) L (Tk.tk 1 (Tk.head l) [] xs false) (.slice A0 xs.length c0) _ H4.out R4.out hok (fun k hk => hok k (Nat.le_trans S4.out hk)) hL).mono ?_)
   rintro e wf ⟨rfl, h1, b1⟩
   have H5 := Aside0.mk h1
   have B5 := Aside0.mk (B4.out.trans b1)
   clear h1 b1
   go_wp2
   (try simp only [Exit.inBlock, Exit.then, jump_ret])
   go_ret
   refine ⟨fun t r' h => ?_, fun h => ?_, B5.out⟩
   ·rw [HRES.out] at h
    obtain ⟨rfl, rfl⟩ := Prod.mk.inj (Option.some.inj h)
    exact ⟨rfl, H5.out⟩
   ·rw [HRES.out] at h; cases h
  | none =>
   have HE := Aside0.mk hgt1
   go_wp2_with (go_at_call 34; refine (token_walk_eat.noK B g _ [62] L _ H3.out HE.out).mono ?_)
   rintro e we ⟨rfl, h1, b1, k1⟩
   have H4 := Aside0.mk h1
   have HG4 := Aside0.mk (HG3.out.below b1 hpos)
   have B4 := Aside0.mk (B3.out.trans b1)
   have S4 := Aside0.mk (Nat.le_trans S3.out k1.1)
   have X4 := Aside0.mk (k1.blk X3.out hgtg (by simp))
   have R4 := Aside0.mk (Kd.R_step R3.out (fun k hk hlt => k1.2 k hlt (by omega) (by simp)))
   clear h1 b1 k1 H3 HG3 B3 S3 X3 R3 HE
   cases hgt2 : Tk.behind [47, 62] (Tk.skip m) with
   | some r =>
    have hres : res = some (Tk.tk 1 (Tk.head l) [] xs true, r) := by
     rw [← HX.out, Tk.attrs]
     simp only [hgt1, hgt2]
    have HRES := Lib.hid hres
    have HE := Aside0.mk hgt2
    clear hres hgt1 hgt2 HX
    go_wp2_with (go_at_call 34; refine (token_walk_eat.yesK B g _ [47, 62] r L _ H4.out HE.out).mono ?_)
    rintro e wh ⟨rfl, h1, b1, k1⟩
    have H5 := Aside0.mk h1
    have B5 := Aside0.mk (B4.out.trans b1)
    have S5 := Aside0.mk (Nat.le_trans S4.out k1.1)
    have X5 := Aside0.mk (k1.blk X4.out hgtg (by simp))
    have R5 := Aside0.mk (Kd.R_step R4.out (fun k hk hlt => k1.2 k hlt (by omega) (by simp)))
    clear h1 b1 k1 H4 HG4 B4 S4 X4 R4
    have y4 := (blk_cell X5.out 4).trans rfl
    have z4 := blk_frozen X5.out 4
    have X6' := blk_set X5.out 4 (.bool true)
    have X6 : (wh.setCell ⟨gt, 4, none⟩ (.bool true)).heap[gt]? = some (.cells #[.int .i64 1, .string (Tk.bs (Tk.head l)), .string ⟨#[]⟩, .slice A0 xs.length c0, .bool true] 40 (0, 0)) := by simpa using X6'
    have x0 := (blk_cell X6 0).trans rfl
    have x1 := (blk_cell X6 1).trans rfl
    have x2 := (blk_cell X6 2).trans rfl
    have x3 := (blk_cell X6 3).trans rfl
    have x4 := (blk_cell X6 4).trans rfl
    have H6 := Aside0.mk ((H5.out.far (p := ⟨gt, 4, none⟩) hgtg (fun k hk => by have := hk.2; show k ≠ gt; omega) (.bool true)).more (ok' := fun k => ok k ∧ ¬ w.heap.size ≤ k) (fun k _ hk => ⟨hk.1, Nat.not_le.2 hk.2⟩))
    have R6 := Aside0.mk (Kd.R_set R5.out X5.out (by decide) 4 (.bool true))
    have B6 := Aside0.mk (B5.out.setCell (p := ⟨gt, 4, none⟩) hBgt (.bool true))
    have S6 : w.heap.size ≤ (wh.setCell ⟨gt, 4, none⟩ (.bool true)).heap.size := by simpa using S5.out
    have S7 := Aside0.mk S6
    clear X6 X6' S6
    go_wp2_with (go_at_call 52; refine (token_walk_put.calls B g (fun k => w.heap.size ≤ k) (Tk.bs r) L (Tk.tk 1 (Tk.head l) [] xs true) (.slice A0 xs.length c0) _ H6.out R6.out hok (fun k hk => hok k (Nat.le_trans S7.out hk)) hL).mono ?_)
    rintro e wf ⟨rfl, h1, b1⟩
    have H7 := Aside0.mk h1
    have B7 := Aside0.mk (B6.out.trans b1)
    clear h1 b1
    go_wp2
    (try simp only [Exit.inBlock, Exit.then, jump_ret])
    go_ret
    refine ⟨fun t r' h => ?_, fun h => ?_, B7.out⟩
    ·rw [HRES.out] at h
     obtain ⟨rfl, rfl⟩ := Prod.mk.inj (Option.some.inj h)
     exact ⟨rfl, H7.out⟩
    ·rw [HRES.out] at h; cases h
   | none =>
    have HE := Aside0.mk hgt2
    cases bsp with
    | false =>
     have heq : (Tk.skip m).length = m.length := by
      have := of_decide_eq_false HBSP.out.symm
      omega
     have hres : res = none := by
      rw [← HX.out, Tk.attrs]
      simp only [hgt1, hgt2]
      rw [if_pos heq]
     have HRES := Lib.hid hres
     clear hres hgt1 hgt2 HX HBSP heq
     go_wp2_with (go_at_call 34; refine (token_walk_eat.noK B g _ [47, 62] L _ H4.out HE.out).mono ?_)
     rintro e wh ⟨rfl, h1, b1, k1⟩
     have B5 := Aside0.mk (B4.out.trans b1)
     clear h1 b1 k1
     go_wp2_with (fail)
     (try simp only [Exit.inBlock, Exit.then, jump_ret])
     go_ret
     refine ⟨fun t r' h => ?_, fun h => rfl, B5.out⟩
     rw [HRES.out] at h; cases h
    | true =>
     have hne : ¬ (Tk.skip m).length = m.length := by
      have := of_decide_eq_true HBSP.out.symm
      omega
     have hst : res = (Tk.attr (Tk.skip m)).bind fun p => if xs.any (fun x => x.f0.toList == p.1.f0.toList) then none else Tk.attrs g1 (Tk.head l) (xs ++ [p.1]) p.2 := by
      rw [← HX.out, Tk.attrs]
      simp only [hgt1, hgt2]
      rw [if_neg hne]
     have HST := Lib.hid hst
     clear hst hgt1 hgt2 HX HBSP
     go_wp2_with (go_at_call 34; refine (token_walk_eat.noK B g _ [47, 62] L _ H4.out HE.out).mono ?_)
     rintro e wh ⟨rfl, h1, b1, k1⟩
     have H5 := Aside0.mk h1
     have HG5 := Aside0.mk (HG4.out.below b1 hpos)
     have B5 := Aside0.mk (B4.out.trans b1)
     have S5 := Aside0.mk (Nat.le_trans S4.out k1.1)
     have X5 := Aside0.mk (k1.blk X4.out hgtg (by simp))
     have R5 := Aside0.mk (Kd.R_step R4.out (fun k hk hlt => k1.2 k hlt (by omega) (by simp)))
     clear h1 b1 k1 H4 HG4 B4 S4 X4 R4 HE
     cases hat : Tk.attr (Tk.skip m) with
     | none =>
      have hres : res = none := by rw [HST.out, hat]; rfl
      have HRES := Lib.hid hres
      have HAT := Aside0.mk hat
      clear hres hat HST
      go_wp2_with (go_at_call 55; refine (token_walk_attr.noA B g (Tk.skip m) L _ H5.out HG5.out (by omega) HAT.out).mono ?_)
      rintro e wi ⟨⟨xx, yy, rfl⟩, b1, k1⟩
      have B6 := Aside0.mk (B5.out.trans b1)
      have hsz6 : B ≤ wi.heap.size := Nat.le_trans hsz B6.out.size |> fun h => h
      clear b1 k1
      go_wp2
      (try simp only [Exit.inBlock, Exit.then, jump_ret])
      go_ret
      refine ⟨fun t r' h => ?_, fun h => rfl, ?_⟩
      ·rw [HRES.out] at h; cases h
      ·exact B6.out.alloc hsz6 _
     | some p =>
      obtain ⟨x, r⟩ := p
      have hrl := attr_len hat
      have HAT := Aside0.mk hat
      have hst2 := HST.out
      rw [hat, Option.bind_some] at hst2
      have hst3 : res = if xs.any (attEq x.f0) = true then none else Tk.attrs g1 (Tk.head l) (xs ++ [x]) r := hst2
      have HST3 := Lib.hid hst3
      clear hst2 hst3 hat HST
      have hrd : r.length < m.length := by omega
      go_wp2_with (go_at_call 55; refine (token_walk_attr.yesA B g (Tk.skip m) r x L _ H5.out HG5.out (by omega) HAT.out).mono ?_)
      rintro e wi ⟨rfl, h1, b1, k1⟩
      have H6 := Aside0.mk h1
      have B6 := Aside0.mk (B5.out.trans b1)
      have S6 := Aside0.mk (Nat.le_trans S5.out k1.1)
      have X6 := Aside0.mk (k1.blk X5.out hgtg (by simp))
      have R6 := Aside0.mk (Kd.R_step R5.out (fun k hk hlt => k1.2 k hlt (by omega) (by simp)))
      clear h1 b1 k1 H5 HG5 B5 S5 X5 R5 HAT
      have x3' := fun o => (blk_cell (blk_alloc X6.out o) 3).trans rfl
      go_wp2_with (fail)
      have hb0 : Below wi.heap.size wi (wi.alloc (.cells #[.string x.f0, .string x.f1] 68)) := below_alloc (Below.refl _ _) _
      have Y0 : (wi.alloc (.cells #[.string x.f0, .string x.f1] 68)).heap[wi.heap.size]? = some (.cells #[.string x.f0, .string x.f1] 68 (0, 0)) := heap_alloc_new wi _
      obtain ⟨ga, hga⟩ : ∃ ga, ga = wi.heap.size := ⟨_, rfl⟩
      have H7 := Aside0.mk (H6.out.below hb0)
      have S6' := S6.out
      have B7 := Aside0.mk (B6.out.trans (hb0.mono (by omega)))
      have S7 := Aside0.mk (Nat.le_trans S6.out hb0.size)
      have X7 := Aside0.mk (blk_below X6.out hb0)
      have R7 := Aside0.mk (Kd.R_below R6.out hb0)
      have Y7 := Aside0.mk Y0
      rw [← hga] at Y7
      rw [← hga]
      clear hb0 Y0 H6 B6 S6 X6 R6 x3' S6'
      generalize wi.alloc _ = wj at *
      clear hga
      have hC := (Kd.R_reads' R7.out).2.2
      have cA := (blk_cell Y7.out 0).trans rfl
      refine (api_Attr_56.callsA A0 c0 xs x.f0 ga wj hC (by omega) cA).mono ?_
      rintro e wk ⟨rfl, b1⟩
      have H8 := Aside0.mk (H7.out.below b1)
      have S7' := S7.out
      have B8 := Aside0.mk (B7.out.trans (b1.mono (by omega)))
      have S8 := Aside0.mk (Nat.le_trans S7.out b1.size)
      have X8 := Aside0.mk (blk_below X7.out b1)
      have R8 := Aside0.mk (Kd.R_below R7.out b1)
      have Y8 := Aside0.mk (blk_below Y7.out b1)
      clear b1 hC cA H7 B7 S7 X7 R7 Y7 S7'
      cases han : xs.any (attEq x.f0) with
      | true =>
       have hres : res = none := by rw [HST3.out, if_pos han]
       have HRES := Lib.hid hres
       clear hres han HST3
       go_wp2
       (try simp only [Exit.inBlock, Exit.then, jump_ret])
       go_ret
       refine ⟨fun t r' h => ?_, fun h => rfl, B8.out⟩
       rw [HRES.out] at h; cases h
      | false =>
       have hnx : Tk.attrs g1 (Tk.head l) (xs ++ [x]) r = res := by rw [HST3.out, if_neg (by rw [han]; decide)]
       have HNX := Aside0.mk hnx
       clear hnx han HST3
       have y0 := (blk_cell Y8.out 0).trans rfl
       have y1 := (blk_cell Y8.out 1).trans rfl
       have x3 := (blk_cell X8.out 3).trans rfl
       have S8' := S8.out
       go_wp2_with (at_builtin; refine Kd.R_append k68 (w0 := w) B rfl (.tmp 45) (.tmp 47) 27 68 _ 32 rfl Try.underlying27 attInfo rfl (by decide) (by decide) (.slice A0 xs.length c0) xs x [.string x.f0, .string x.f1] (fun k => w.heap.size ≤ k) (fun _ => False) rfl rfl (k68_mkM _ _ _ x) (fun k hk => hk.elim) (fun k hk => Nat.le_trans S8.out hk) R8.out B8.out (by omega) (by omega) ?_; intro v1 w1 r1 b1 g1_ at1; obtain ⟨A1, c1, rfl⟩ := Kd.R_slice r1; have hngt : some gt ≠ (Value.slice A0 xs.length c0).ownBlock := Kd.R_ne R8.out X8.out (by decide); have X9 := Aside0.mk (blk_grown X8.out g1_ hngt); have H9 := Aside0.mk (H8.out.grown g1_ (fun he => by have := R8.out.1 g he.symm; omega) (fun k hk he => by have := R8.out.1 k he.symm; have := hk.2; omega)); have R9 := Aside0.mk r1; have B9 := Aside0.mk b1; have S9 := Aside0.mk (Nat.le_trans S8.out g1_.size); clear r1 b1 g1_ at1 hngt X8 H8 R8 B8 S8 S8' Y8 y0 y1 x3; have x3 := (blk_cell X9.out 3).trans rfl; have z3 := blk_frozen X9.out 3)
       refine wp_goto (And.intro rfl ?_)
       refine hKs0 _ _ ?_
       go_roundg g1
       case measure => omega
       case rel =>
        have el : (xs ++ [x]).length = xs.length + 1 := by simp
        have XA := blk_set X9.out 3 (.slice A1 (xs ++ [x]).length c1)
        have RA := Kd.R_set R9.out X9.out (by decide) 3 (.slice A1 (xs ++ [x]).length c1)
        have HA := H9.out.far (p := ⟨gt, 3, none⟩) hgtg (fun k hk => by have := hk.2; show k ≠ gt; omega) (.slice A1 (xs ++ [x]).length c1)
        have BA := B9.out.setCell (p := ⟨gt, 3, none⟩) hBgt (.slice A1 (xs ++ [x]).length c1)
        have SA : w.heap.size ≤ (w1.setCell ⟨gt, 3, none⟩ (.slice A1 (xs ++ [x]).length c1)).heap.size := by simpa using S9.out
        rw [el] at XA RA HA BA SA
        exact ⟨r, xs ++ [x], .slice A1 (xs.length + 1) c1, by omega, ⟨by omega⟩, ⟨by rw [el]; omega⟩, HNX, ⟨HA⟩, ⟨by simpa using XA⟩, ⟨RA⟩, ⟨BA⟩, ⟨SA⟩⟩
set_option maxHeartbeats 4000000 in
set_option maxRecDepth 100000 in
theorem token_walk_begin.noh (B g : Nat) {ok : Nat → Prop} (l : List UInt8) (L : List S40) (w : World) (h : WalkAt w B g ok (Tk.bs l) L) (hG : Glob w) (hl : l.length ≤ 100000) (hh : Tk.head l = []) :
 Calls Try.prog 39 #[.pointer (some ⟨g, 0, none⟩)] w fun e w' => e = .returned (.bool false) ∧ Below B w w' := by
 have e1 := bs_none hh
 have hpos := h.pos
 have hsz := h.size
 have HG := Aside0.mk hG
 have H0 := Aside0.mk h
 have hu2 := Try.underlying40
 clear h hG hh
 go_enter Try.func39, Try.ntmps39
 go_wp2
 refine wp_scope_loop 0 (by rfl) ?_
 go_wp2_with (go_at_call 53; refine (token_walk_name.callsK B g l L _ H0.out HG.out (by omega)).mono ?_)
 rintro e wa ⟨rfl, h1, b1, k1⟩
 have B1 := Aside0.mk b1
 have S1 : B ≤ wa.heap.size := Nat.le_trans hsz b1.size |> fun h => h
 clear h1 b1 k1
 go_wp2_with (fail)
 (try simp only [Exit.inBlock, Exit.then, jump_ret])
 go_ret
 exact ⟨rfl, B1.out.alloc S1 _⟩
/-- What begin comes to, whatever stands there. -/
theorem token_walk_begin.all (B g : Nat) {ok : Nat → Prop} (l : List UInt8) (res : Option (S40 × List UInt8)) (L : List S40) (w : World) (h : WalkAt w B g ok (Tk.bs l) L) (hG : Glob w) (hl : l.length ≤ 100000) (hL : L.length ≤ 100000) (hok : ∀ k, w.heap.size ≤ k → ok k) (hx : Tk.opening l = res) :
 Calls Try.prog 39 #[.pointer (some ⟨g, 0, none⟩)] w fun e w' => (∀ t r, res = some (t, r) → e = .returned (.bool true) ∧ WalkAt w' B g ok (Tk.bs r) (L ++ [t])) ∧ (res = none → e = .returned (.bool false)) ∧ Below B w w' := by
 unfold Tk.opening at hx
 by_cases hh : Tk.head l = []
 ·rw [if_pos hh] at hx
  subst hx
  refine (token_walk_begin.noh B g l L w h hG hl hh).mono ?_
  rintro e w' ⟨rfl, b⟩
  exact ⟨(fun t r h => by cases h), fun _ => rfl, b⟩
 ·rw [if_neg hh] at hx
  exact token_walk_begin.walk B g l res L w h hG hl hL hok hh hx



end Go.Proofs.Ytkoogebfdinbnaa.Q

-- Printed by this session's wip/np.py over the kit's print program. Not trusted: Lean checks it.
namespace Go.Proofs.Ytkoogebfdinbnaa.Q
open Go.RowKit Go.Proofs.YtkoogebfdinbnaaW.PrintWords Go.Proofs.YtkoogebfdinbnaaW.PrintLast Go.Proofs.YtkoogebfdinbnaaW.Own Go.Proofs.YtkoogebfdinbnaaW.PrintMore
attribute [local go_sem] max2_int min2_int max_two min_two max_three min_three max_four min_four
set_option linter.unusedVariables false
set_option linter.unusedSimpArgs false

/-! ### token_walk_text: function 40 -/
theorem tw_index : ∀ l : List UInt8, Lib.indexByte l 60 = if (l.takeWhile (· != 60)).length < l.length then ((l.takeWhile (· != 60)).length : Int) else -1
 | [] => rfl
 | c :: r => by
  have ih := tw_index r
  have hle := tw_le (p := fun x => x != 60) r
  by_cases hc : c = 60
  ·subst hc
   rw [Lib.indexByte, List.takeWhile_cons]
   simp
  ·have h1 : (c == 60) = false := by simpa using hc
   have h2 : (c != 60) = true := by simpa using hc
   rw [Lib.indexByte, h1, List.takeWhile_cons, h2]
   simp only [Bool.false_eq_true, if_false, if_true, List.length_cons]
   by_cases hl : (r.takeWhile (· != 60)).length < r.length
   ·rw [if_pos hl] at ih
    rw [ih, if_pos (show (r.takeWhile (· != 60)).length + 1 < r.length + 1 by omega), if_neg (by simp)]
    omega
   ·rw [if_neg hl] at ih
    rw [ih, if_neg (show ¬ (r.takeWhile (· != 60)).length + 1 < r.length + 1 by omega)]
    rfl
theorem tw_take {p : UInt8 → Bool} (l : List UInt8) : l.take (l.takeWhile p).length = l.takeWhile p := by
 conv => lhs; arg 2; rw [← List.takeWhile_append_dropWhile (p := p) (l := l)]
 exact List.take_left
set_option maxHeartbeats 4000000 in
set_option maxRecDepth 100000 in
theorem token_walk_text.y1 (B g : Nat) {ok : Nat → Prop} (l x : List UInt8) (L : List S40) (w : World) (h : WalkAt w B g ok (Tk.bs l) L) (hG : Glob w) (hl : l.length ≤ 100000) (hL : L.length ≤ 100000) (hok : ∀ k, w.heap.size ≤ k → ok k) (hf :  (l.takeWhile (· != 60)).length < l.length) (hv : Tk.entities (l.takeWhile (· != 60)) = some x) :
 Calls Try.prog 40 #[.pointer (some ⟨g, 0, none⟩)] w fun e w' => e = .returned (.bool true) ∧ WalkAt w' B g ok (Tk.bs (l.drop (l.takeWhile (· != 60)).length)) (L ++ [Tk.tk 3 [] x [] false]) ∧ Below B w w' := by
 have hpos := h.pos
 have hsz := h.size
 have hgeB := h.ge
 have hle := tw_le (p := fun x => x != 60) l
 have htk := tw_take (p := fun x => x != 60) l
 have hix := tw_index l
 rw [if_pos hf] at hix
 obtain ⟨t, ht⟩ : ∃ t, l.takeWhile (· != 60) = t := ⟨_, rfl⟩
 rw [ht] at hle htk hix hv hf ⊢
 have hl0 := bs_size l
 have hdr := bs_drop l t.length
 have hta := bs_take l t.length
 rw [htk] at hta
 obtain ⟨s, hs⟩ : ∃ s, s = Tk.bs l := ⟨_, rfl⟩
 rw [← hs] at hdr hta h hl0
 have CI : ∀ W, Calls Try.prog 58 #[.string s, .int .u8 60] W fun e w' => e = .returned (.int .i64 (t.length : Int)) ∧ W = w' := by
  intro W
  refine (Try.strings_IndexByte s 60 W).mono ?_
  rintro e w' ⟨rfl, rfl⟩
  refine ⟨?_, rfl⟩
  rw [show Lib.indexByte s.data.toList ((60 : Int).toNat.toUInt8) = (t.length : Int) from by rw [hs]; exact hix]
 obtain ⟨z, hz⟩ : ∃ z : Int, z = (t.length : Int) := ⟨_, rfl⟩
 rw [← hz] at CI
 have z0 : decide (z < 0) = false := decide_eq_false (by omega)
 have z1 := eq_true (show 0 ≤ z by omega)
 have z2 := eq_true (show z ≤ (s.size : Int) by omega)
 have hzt : z.toNat = t.length := by omega
 have CE : ∀ W, Glob W → Calls Try.prog 59 #[.string (s.extract 0 z.toNat)] W fun e w' => e = .returned (.tuple #[.string (Tk.bs x), .int .i64 0]) ∧ Below W.heap.size W w' := by
  intro W hW
  rw [hzt, hta]
  exact ent_f (x := (x, 0)) (entsV_some hv) (by omega) W hW
 have hex : s.extract z.toNat s.size = Tk.bs (l.drop t.length) := by rw [hzt, hdr]
 have HEX := Lib.hid hex
 have HG := Aside0.mk hG
 have c0 := h.cell0
 have H0 := Aside0.mk h
 clear h hG hv hf ht htk hix hta hdr hs hex hle hl0 hzt hz
 go_enter Try.func40, Try.ntmps40
 go_wp2_with (go_at_call 58; (with_reducible refine (CI _).mono ?_))
 rintro e w1 ⟨rfl, rfl⟩
 go_wp2_with (go_at_call 59; (with_reducible refine (CE _ HG.out).mono ?_))
 rintro e w2 ⟨rfl, b1⟩
 have H1 := Aside0.mk (H0.out.below b1)
 have B1 := Aside0.mk (b1.mono hsz)
 have S1 := Aside0.mk b1.size
 clear b1 H0
 have c1 := H1.out.cell0
 have f1 := H1.out.frozen 0
 have H2 := Aside0.mk (H1.out.left (s.extract z.toNat s.size))
 have B2 := Aside0.mk (B1.out.setCell (p := ⟨g, 0, none⟩) hgeB (.string (s.extract z.toNat s.size)))
 have S2 : w.heap.size ≤ (w2.setCell ⟨g, 0, none⟩ (.string (s.extract z.toNat s.size))).heap.size := by simpa using S1.out
 have S3 := Aside0.mk S2
 clear S2
 go_wp2_with (go_at_call 52; refine (token_walk_put.calls B g (fun _ => False) _ L (Tk.tk 3 [] x [] false) (.slice none 0 0) _ (H2.out.more (fun k _ hk => ⟨hk, fun h => h⟩)) (Kd.R_nil _ _ _ _ _) (fun _ h => h.elim) (fun k hk => hok k (Nat.le_trans S3.out hk)) hL).mono ?_)
 rintro e w4 ⟨rfl, h4, b4⟩
 have H4 := Aside0.mk h4
 have B4 := Aside0.mk (B2.out.trans b4)
 clear h4 b4
 go_wp2
 go_ret
 refine ⟨rfl, ?_, B4.out⟩
 rw [← HEX.out]
 exact H4.out
set_option maxHeartbeats 4000000 in
set_option maxRecDepth 100000 in
theorem token_walk_text.n1 (B g : Nat) {ok : Nat → Prop} (l : List UInt8) (L : List S40) (w : World) (h : WalkAt w B g ok (Tk.bs l) L) (hG : Glob w) (hl : l.length ≤ 100000) (hf :  (l.takeWhile (· != 60)).length < l.length) (hv : Tk.entities (l.takeWhile (· != 60)) = none) :
 Calls Try.prog 40 #[.pointer (some ⟨g, 0, none⟩)] w fun e w' => e = .returned (.bool false) ∧ Below B w w' := by
 have hpos := h.pos
 have hsz := h.size
 have hgeB := h.ge
 have hle := tw_le (p := fun x => x != 60) l
 have htk := tw_take (p := fun x => x != 60) l
 have hix := tw_index l
 rw [if_pos hf] at hix
 obtain ⟨t, ht⟩ : ∃ t, l.takeWhile (· != 60) = t := ⟨_, rfl⟩
 rw [ht] at hle htk hix hv hf
 have hl0 := bs_size l
 have hdr := bs_drop l t.length
 have hta := bs_take l t.length
 rw [htk] at hta
 obtain ⟨s, hs⟩ : ∃ s, s = Tk.bs l := ⟨_, rfl⟩
 rw [← hs] at hdr hta h hl0
 have CI : ∀ W, Calls Try.prog 58 #[.string s, .int .u8 60] W fun e w' => e = .returned (.int .i64 (t.length : Int)) ∧ W = w' := by
  intro W
  refine (Try.strings_IndexByte s 60 W).mono ?_
  rintro e w' ⟨rfl, rfl⟩
  refine ⟨?_, rfl⟩
  rw [show Lib.indexByte s.data.toList ((60 : Int).toNat.toUInt8) = (t.length : Int) from by rw [hs]; exact hix]
 obtain ⟨z, hz⟩ : ∃ z : Int, z = (t.length : Int) := ⟨_, rfl⟩
 rw [← hz] at CI
 have z0 : decide (z < 0) = false := decide_eq_false (by omega)
 have z1 := eq_true (show 0 ≤ z by omega)
 have z2 := eq_true (show z ≤ (s.size : Int) by omega)
 have hzt : z.toNat = t.length := by omega
 have CE : ∀ W, Glob W → Calls Try.prog 59 #[.string (s.extract 0 z.toNat)] W fun e w' => e = .returned (.tuple #[.string (Tk.bs []), .int .i64 5]) ∧ Below W.heap.size W w' := by
  intro W hW
  rw [hzt, hta]
  exact ent_f (x := ([], 5)) (entsV_none hv) (by omega) W hW
 have hex : s.extract z.toNat s.size = Tk.bs (l.drop t.length) := by rw [hzt, hdr]
 have HEX := Lib.hid hex
 have HG := Aside0.mk hG
 have c0 := h.cell0
 have H0 := Aside0.mk h
 clear h hG hv hf ht htk hix hta hdr hs hex hle hl0 hzt hz
 go_enter Try.func40, Try.ntmps40
 go_wp2_with (go_at_call 58; (with_reducible refine (CI _).mono ?_))
 rintro e w1 ⟨rfl, rfl⟩
 go_wp2_with (go_at_call 59; (with_reducible refine (CE _ HG.out).mono ?_))
 rintro e w2 ⟨rfl, b1⟩
 have H1 := Aside0.mk (H0.out.below b1)
 have B1 := Aside0.mk (b1.mono hsz)
 have S1 := Aside0.mk b1.size
 clear b1 H0
 have c1 := H1.out.cell0
 have f1 := H1.out.frozen 0
 have B2 := Aside0.mk (B1.out.setCell (p := ⟨g, 0, none⟩) hgeB (.string (s.extract z.toNat s.size)))
 go_wp2
 go_ret
 exact ⟨rfl, B2.out⟩
set_option maxHeartbeats 4000000 in
set_option maxRecDepth 100000 in
theorem token_walk_text.y0 (B g : Nat) {ok : Nat → Prop} (l x : List UInt8) (L : List S40) (w : World) (h : WalkAt w B g ok (Tk.bs l) L) (hG : Glob w) (hl : l.length ≤ 100000) (hL : L.length ≤ 100000) (hok : ∀ k, w.heap.size ≤ k → ok k) (hf : ¬ (l.takeWhile (· != 60)).length < l.length) (hv : Tk.entities (l.takeWhile (· != 60)) = some x) :
 Calls Try.prog 40 #[.pointer (some ⟨g, 0, none⟩)] w fun e w' => e = .returned (.bool true) ∧ WalkAt w' B g ok (Tk.bs (l.drop (l.takeWhile (· != 60)).length)) (L ++ [Tk.tk 3 [] x [] false]) ∧ Below B w w' := by
 have hpos := h.pos
 have hsz := h.size
 have hgeB := h.ge
 have hle := tw_le (p := fun x => x != 60) l
 have htk := tw_take (p := fun x => x != 60) l
 have hix := tw_index l
 rw [if_neg hf] at hix
 obtain ⟨t, ht⟩ : ∃ t, l.takeWhile (· != 60) = t := ⟨_, rfl⟩
 rw [ht] at hle htk hv hf ⊢
 have hl0 := bs_size l
 have hdr := bs_drop l t.length
 have hta := bs_take l t.length
 rw [htk] at hta
 obtain ⟨s, hs⟩ : ∃ s, s = Tk.bs l := ⟨_, rfl⟩
 rw [← hs] at hdr hta h hl0
 have CI : ∀ W, Calls Try.prog 58 #[.string s, .int .u8 60] W fun e w' => e = .returned (.int .i64 (-1)) ∧ W = w' := by
  intro W
  refine (Try.strings_IndexByte s 60 W).mono ?_
  rintro e w' ⟨rfl, rfl⟩
  refine ⟨?_, rfl⟩
  rw [show Lib.indexByte s.data.toList ((60 : Int).toNat.toUInt8) = (-1) from by rw [hs]; exact hix]
 have hts : t.length = l.length := by omega
 have hss : t.length = s.size := by omega
 obtain ⟨z, hz⟩ : ∃ z : Int, z = (s.size : Int) := ⟨_, rfl⟩
 have z0 : decide (z < 0) = false := decide_eq_false (by omega)
 have z1 := eq_true (show 0 ≤ z by omega)
 have z2 := eq_true (show z ≤ (s.size : Int) by omega)
 have hzt : z.toNat = t.length := by omega
 have CE : ∀ W, Glob W → Calls Try.prog 59 #[.string (s.extract 0 z.toNat)] W fun e w' => e = .returned (.tuple #[.string (Tk.bs x), .int .i64 0]) ∧ Below W.heap.size W w' := by
  intro W hW
  rw [hzt, hta]
  exact ent_f (x := (x, 0)) (entsV_some hv) (by omega) W hW
 have hex : s.extract z.toNat s.size = Tk.bs (l.drop t.length) := by rw [hzt, hdr]
 have HEX := Lib.hid hex
 have HG := Aside0.mk hG
 have c0 := h.cell0
 have H0 := Aside0.mk h
 have hzs : (s.size : Int) = z := hz.symm
 have HZ := Lib.hid hzs
 clear h hG hv hf ht htk hix hta hdr hs hex hle hl0 hzt hz hzs hts hss
 go_enter Try.func40, Try.ntmps40
 go_wp2_with (go_at_call 58; (with_reducible refine (CI _).mono ?_))
 rintro e w1 ⟨rfl, rfl⟩
 have hmz := HZ.out
 go_wp2_with (go_at_call 59; (with_reducible refine (CE _ HG.out).mono ?_))
 rintro e w2 ⟨rfl, b1⟩
 have H1 := Aside0.mk (H0.out.below b1)
 have B1 := Aside0.mk (b1.mono hsz)
 have S1 := Aside0.mk b1.size
 clear b1 H0
 have c1 := H1.out.cell0
 have f1 := H1.out.frozen 0
 have H2 := Aside0.mk (H1.out.left (s.extract z.toNat s.size))
 have B2 := Aside0.mk (B1.out.setCell (p := ⟨g, 0, none⟩) hgeB (.string (s.extract z.toNat s.size)))
 have S2 : w.heap.size ≤ (w2.setCell ⟨g, 0, none⟩ (.string (s.extract z.toNat s.size))).heap.size := by simpa using S1.out
 have S3 := Aside0.mk S2
 clear S2
 go_wp2_with (go_at_call 52; refine (token_walk_put.calls B g (fun _ => False) _ L (Tk.tk 3 [] x [] false) (.slice none 0 0) _ (H2.out.more (fun k _ hk => ⟨hk, fun h => h⟩)) (Kd.R_nil _ _ _ _ _) (fun _ h => h.elim) (fun k hk => hok k (Nat.le_trans S3.out hk)) hL).mono ?_)
 rintro e w4 ⟨rfl, h4, b4⟩
 have H4 := Aside0.mk h4
 have B4 := Aside0.mk (B2.out.trans b4)
 clear h4 b4
 go_wp2
 go_ret
 refine ⟨rfl, ?_, B4.out⟩
 rw [← HEX.out]
 exact H4.out
set_option maxHeartbeats 4000000 in
set_option maxRecDepth 100000 in
theorem token_walk_text.n0 (B g : Nat) {ok : Nat → Prop} (l : List UInt8) (L : List S40) (w : World) (h : WalkAt w B g ok (Tk.bs l) L) (hG : Glob w) (hl : l.length ≤ 100000) (hf : ¬ (l.takeWhile (· != 60)).length < l.length) (hv : Tk.entities (l.takeWhile (· != 60)) = none) :
 Calls Try.prog 40 #[.pointer (some ⟨g, 0, none⟩)] w fun e w' => e = .returned (.bool false) ∧ Below B w w' := by
 have hpos := h.pos
 have hsz := h.size
 have hgeB := h.ge
 have hle := tw_le (p := fun x => x != 60) l
 have htk := tw_take (p := fun x => x != 60) l
 have hix := tw_index l
 rw [if_neg hf] at hix
 obtain ⟨t, ht⟩ : ∃ t, l.takeWhile (· != 60) = t := ⟨_, rfl⟩
 rw [ht] at hle htk hv hf
 have hl0 := bs_size l
 have hdr := bs_drop l t.length
 have hta := bs_take l t.length
 rw [htk] at hta
 obtain ⟨s, hs⟩ : ∃ s, s = Tk.bs l := ⟨_, rfl⟩
 rw [← hs] at hdr hta h hl0
 have CI : ∀ W, Calls Try.prog 58 #[.string s, .int .u8 60] W fun e w' => e = .returned (.int .i64 (-1)) ∧ W = w' := by
  intro W
  refine (Try.strings_IndexByte s 60 W).mono ?_
  rintro e w' ⟨rfl, rfl⟩
  refine ⟨?_, rfl⟩
  rw [show Lib.indexByte s.data.toList ((60 : Int).toNat.toUInt8) = (-1) from by rw [hs]; exact hix]
 have hts : t.length = l.length := by omega
 have hss : t.length = s.size := by omega
 obtain ⟨z, hz⟩ : ∃ z : Int, z = (s.size : Int) := ⟨_, rfl⟩
 have z0 : decide (z < 0) = false := decide_eq_false (by omega)
 have z1 := eq_true (show 0 ≤ z by omega)
 have z2 := eq_true (show z ≤ (s.size : Int) by omega)
 have hzt : z.toNat = t.length := by omega
 have CE : ∀ W, Glob W → Calls Try.prog 59 #[.string (s.extract 0 z.toNat)] W fun e w' => e = .returned (.tuple #[.string (Tk.bs []), .int .i64 5]) ∧ Below W.heap.size W w' := by
  intro W hW
  rw [hzt, hta]
  exact ent_f (x := ([], 5)) (entsV_none hv) (by omega) W hW
 have hex : s.extract z.toNat s.size = Tk.bs (l.drop t.length) := by rw [hzt, hdr]
 have HEX := Lib.hid hex
 have HG := Aside0.mk hG
 have c0 := h.cell0
 have H0 := Aside0.mk h
 have hzs : (s.size : Int) = z := hz.symm
 have HZ := Lib.hid hzs
 clear h hG hv hf ht htk hix hta hdr hs hex hle hl0 hzt hz hzs hts hss
 go_enter Try.func40, Try.ntmps40
 go_wp2_with (go_at_call 58; (with_reducible refine (CI _).mono ?_))
 rintro e w1 ⟨rfl, rfl⟩
 have hmz := HZ.out
 go_wp2_with (go_at_call 59; (with_reducible refine (CE _ HG.out).mono ?_))
 rintro e w2 ⟨rfl, b1⟩
 have H1 := Aside0.mk (H0.out.below b1)
 have B1 := Aside0.mk (b1.mono hsz)
 have S1 := Aside0.mk b1.size
 clear b1 H0
 have c1 := H1.out.cell0
 have f1 := H1.out.frozen 0
 have B2 := Aside0.mk (B1.out.setCell (p := ⟨g, 0, none⟩) hgeB (.string (s.extract z.toNat s.size)))
 go_wp2
 go_ret
 exact ⟨rfl, B2.out⟩
theorem token_walk_text.all (B g : Nat) {ok : Nat → Prop} (l : List UInt8) (res : Option (S40 × List UInt8)) (L : List S40) (w : World) (h : WalkAt w B g ok (Tk.bs l) L) (hG : Glob w) (hl : l.length ≤ 100000) (hL : L.length ≤ 100000) (hok : ∀ k, w.heap.size ≤ k → ok k) (hx : Tk.text l = res) :
 Calls Try.prog 40 #[.pointer (some ⟨g, 0, none⟩)] w fun e w' => (∀ t r, res = some (t, r) → e = .returned (.bool true) ∧ WalkAt w' B g ok (Tk.bs r) (L ++ [t])) ∧ (res = none → e = .returned (.bool false)) ∧ Below B w w' := by
 unfold Tk.text at hx
 dsimp only at hx
 cases hv : Tk.entities (l.takeWhile (· != 60)) with
 | none =>
  rw [hv] at hx
  subst hx
  by_cases hf : (l.takeWhile (· != 60)).length < l.length
  ·refine (token_walk_text.n1 B g l L w h hG hl hf hv).mono ?_
   rintro e w' ⟨rfl, b⟩
   exact ⟨(fun t r h => by cases h), fun _ => rfl, b⟩
  ·refine (token_walk_text.n0 B g l L w h hG hl hf hv).mono ?_
   rintro e w' ⟨rfl, b⟩
   exact ⟨(fun t r h => by cases h), fun _ => rfl, b⟩
 | some x =>
  rw [hv] at hx
  subst hx
  by_cases hf : (l.takeWhile (· != 60)).length < l.length
  ·refine (token_walk_text.y1 B g l x L w h hG hl hL hok hf hv).mono ?_
   rintro e w' ⟨rfl, h1, b⟩
   refine ⟨fun t r h => ?_, (fun h => by cases h), b⟩
   obtain ⟨rfl, rfl⟩ := Prod.mk.inj (Option.some.inj h)
   exact ⟨rfl, h1⟩
  ·refine (token_walk_text.y0 B g l x L w h hG hl hL hok hf hv).mono ?_
   rintro e w' ⟨rfl, h1, b⟩
   refine ⟨fun t r h => ?_, (fun h => by cases h), b⟩
   obtain ⟨rfl, rfl⟩ := Prod.mk.inj (Option.some.inj h)
   exact ⟨rfl, h1⟩



end Go.Proofs.Ytkoogebfdinbnaa.Q

-- Printed by this session's wip/np.py over the kit's print program. Not trusted: Lean checks it.
namespace Go.Proofs.Ytkoogebfdinbnaa.Q
open Go.RowKit Go.Proofs.YtkoogebfdinbnaaW.PrintWords Go.Proofs.YtkoogebfdinbnaaW.PrintLast Go.Proofs.YtkoogebfdinbnaaW.Own Go.Proofs.YtkoogebfdinbnaaW.PrintMore
attribute [local go_sem] max2_int min2_int max_two min_two max_three min_three max_four min_four
set_option linter.unusedVariables false
set_option linter.unusedSimpArgs false

/-! ### token_walk_next: function 24 -/
theorem behind_le {x l r : List UInt8} (h : Tk.behind x l = some r) : r.length ≤ l.length := behind_len h
set_option maxHeartbeats 4000000 in
set_option maxRecDepth 100000 in
theorem token_walk_next.w0 (B g : Nat) {ok : Nat → Prop} (fst : Bool) (l : List UInt8) (res : Option (S40 × List UInt8)) (q : List UInt8) (L : List S40) (w : World) (h : WalkAt w B g ok (Tk.bs l) L) (hG : Glob w) (hl : l.length ≤ 100000) (hL : L.length ≤ 100000) (hok : ∀ k, w.heap.size ≤ k → ok k) (h0 : Tk.behind [60, 33, 45, 45] l = some q) (hx : Tk.comment q = res) :
 Calls Try.prog 24 #[.pointer (some ⟨g, 0, none⟩), .bool fst] w fun e w' => (∀ t r, res = some (t, r) → e = .returned (.bool true) ∧ WalkAt w' B g ok (Tk.bs r) (L ++ [t])) ∧ (res = none → e = .returned (.bool false)) ∧ Below B w w' := by
 have hpos := h.pos
 have HG := Aside0.mk hG
 have HX := Aside0.mk hx
 have H := Aside0.mk h
 have E0 := Aside0.mk h0
 have hlq : q.length ≤ 100000 := Nat.le_trans (behind_le h0) hl
 clear h hG hx h0
 have B0 := Aside0.mk (Below.refl B w)
 have S0 := Aside0.mk (Nat.le_refl w.heap.size)
 go_enter Try.func24, Try.ntmps24
 go_wp2_with (go_at_call 34; refine (token_walk_eat.yesK B g _ [60, 33, 45, 45] q L _ H.out E0.out).mono ?_)
 rintro e w0 ⟨rfl, h1, b1, k1⟩
 have Hn := Aside0.mk h1
 have HGn := Aside0.mk (HG.out.below b1 hpos)
 have Bn := Aside0.mk (B0.out.trans b1)
 have Sn := Aside0.mk (Nat.le_trans S0.out k1.1)
 clear h1 b1 k1 H HG B0 S0
 have H := Hn
 have HG := HGn
 have B0 := Bn
 have S0 := Sn
 clear Hn HGn Bn Sn
 have CF : Calls Try.prog 35 #[.pointer (some ⟨g, 0, none⟩)] w0 fun e w' => (∀ t r, res = some (t, r) → e = .returned (.bool true) ∧ WalkAt w' B g ok (Tk.bs r) (L ++ [t])) ∧ (res = none → e = .returned (.bool false)) ∧ Below B w0 w' := by
  cases hr : res with
  | none =>
   refine (token_walk_comment.no B g q L _ H.out HG.out (by omega) (HX.out.trans hr)).mono ?_
   rintro e w' ⟨rfl, b⟩
   exact ⟨(fun t r h => by cases h), fun _ => rfl, b⟩
  | some p =>
   obtain ⟨t0, r0⟩ := p
   refine (token_walk_comment.yes B g q r0 t0 L _ H.out HG.out (by omega) hL (fun k hk => hok k (Nat.le_trans S0.out hk)) (HX.out.trans hr)).mono ?_
   rintro e w' ⟨rfl, h1, b⟩
   refine ⟨fun t r h => ?_, (fun h => by cases h), b⟩
   obtain ⟨rfl, rfl⟩ := Prod.mk.inj (Option.some.inj h)
   exact ⟨rfl, h1⟩
 have CF1 := Aside0.mk CF
 clear CF
 go_wp2_with (go_at_call 35; refine CF1.out.mono ?_)
 rintro e wz ⟨hy, hn, bz⟩
 have BZ := Aside0.mk (B0.out.trans bz)
 clear bz
 cases hr : res with
 | none =>
  obtain rfl := hn hr
  clear hy hn
  go_wp2
  go_ret
  exact ⟨(fun t r h => by rw [hr] at h; cases h), fun _ => rfl, BZ.out⟩
 | some p =>
  obtain ⟨t0, r0⟩ := p
  obtain ⟨rfl, h1⟩ := hy t0 r0 hr
  have H1 := Aside0.mk h1
  clear hy hn h1
  go_wp2
  go_ret
  refine ⟨fun t r h => ?_, (fun h => by rw [hr] at h; cases h), BZ.out⟩
  rw [hr] at h
  obtain ⟨rfl, rfl⟩ := Prod.mk.inj (Option.some.inj h)
  exact ⟨rfl, H1.out⟩
set_option maxHeartbeats 4000000 in
set_option maxRecDepth 100000 in
theorem token_walk_next.w1 (B g : Nat) {ok : Nat → Prop} (fst : Bool) (l : List UInt8) (res : Option (S40 × List UInt8)) (q : List UInt8) (L : List S40) (w : World) (h : WalkAt w B g ok (Tk.bs l) L) (hG : Glob w) (hl : l.length ≤ 100000) (hL : L.length ≤ 100000) (hok : ∀ k, w.heap.size ≤ k → ok k) (h0 : Tk.behind [60, 33, 45, 45] l = none) (h1 : Tk.behind [60, 33, 91, 67, 68, 65, 84, 65, 91] l = some q) (hx : Tk.data q = res) :
 Calls Try.prog 24 #[.pointer (some ⟨g, 0, none⟩), .bool fst] w fun e w' => (∀ t r, res = some (t, r) → e = .returned (.bool true) ∧ WalkAt w' B g ok (Tk.bs r) (L ++ [t])) ∧ (res = none → e = .returned (.bool false)) ∧ Below B w w' := by
 have hpos := h.pos
 have HG := Aside0.mk hG
 have HX := Aside0.mk hx
 have H := Aside0.mk h
 have E0 := Aside0.mk h0
 have E1 := Aside0.mk h1
 have hlq : q.length ≤ 100000 := Nat.le_trans (behind_le h1) hl
 clear h hG hx h0 h1
 have B0 := Aside0.mk (Below.refl B w)
 have S0 := Aside0.mk (Nat.le_refl w.heap.size)
 go_enter Try.func24, Try.ntmps24
 go_wp2_with (go_at_call 34; refine (token_walk_eat.noK B g _ [60, 33, 45, 45] L _ H.out E0.out).mono ?_)
 rintro e w0 ⟨rfl, h1, b1, k1⟩
 have Hn := Aside0.mk h1
 have HGn := Aside0.mk (HG.out.below b1 hpos)
 have Bn := Aside0.mk (B0.out.trans b1)
 have Sn := Aside0.mk (Nat.le_trans S0.out k1.1)
 clear h1 b1 k1 H HG B0 S0
 have H := Hn
 have HG := HGn
 have B0 := Bn
 have S0 := Sn
 clear Hn HGn Bn Sn
 go_wp2_with (go_at_call 34; refine (token_walk_eat.yesK B g _ [60, 33, 91, 67, 68, 65, 84, 65, 91] q L _ H.out E1.out).mono ?_)
 rintro e w1 ⟨rfl, h1, b1, k1⟩
 have Hn := Aside0.mk h1
 have HGn := Aside0.mk (HG.out.below b1 hpos)
 have Bn := Aside0.mk (B0.out.trans b1)
 have Sn := Aside0.mk (Nat.le_trans S0.out k1.1)
 clear h1 b1 k1 H HG B0 S0
 have H := Hn
 have HG := HGn
 have B0 := Bn
 have S0 := Sn
 clear Hn HGn Bn Sn
 have CF : Calls Try.prog 36 #[.pointer (some ⟨g, 0, none⟩)] w1 fun e w' => (∀ t r, res = some (t, r) → e = .returned (.bool true) ∧ WalkAt w' B g ok (Tk.bs r) (L ++ [t])) ∧ (res = none → e = .returned (.bool false)) ∧ Below B w1 w' := by
  cases hr : res with
  | none =>
   refine (token_walk_data.no B g q L _ H.out HG.out (by omega) (HX.out.trans hr)).mono ?_
   rintro e w' ⟨rfl, b⟩
   exact ⟨(fun t r h => by cases h), fun _ => rfl, b⟩
  | some p =>
   obtain ⟨t0, r0⟩ := p
   refine (token_walk_data.yes B g q r0 t0 L _ H.out HG.out (by omega) hL (fun k hk => hok k (Nat.le_trans S0.out hk)) (HX.out.trans hr)).mono ?_
   rintro e w' ⟨rfl, h1, b⟩
   refine ⟨fun t r h => ?_, (fun h => by cases h), b⟩
   obtain ⟨rfl, rfl⟩ := Prod.mk.inj (Option.some.inj h)
   exact ⟨rfl, h1⟩
 have CF1 := Aside0.mk CF
 clear CF
 go_wp2_with (go_at_call 36; refine CF1.out.mono ?_)
 rintro e wz ⟨hy, hn, bz⟩
 have BZ := Aside0.mk (B0.out.trans bz)
 clear bz
 cases hr : res with
 | none =>
  obtain rfl := hn hr
  clear hy hn
  go_wp2
  go_ret
  exact ⟨(fun t r h => by rw [hr] at h; cases h), fun _ => rfl, BZ.out⟩
 | some p =>
  obtain ⟨t0, r0⟩ := p
  obtain ⟨rfl, h1⟩ := hy t0 r0 hr
  have H1 := Aside0.mk h1
  clear hy hn h1
  go_wp2
  go_ret
  refine ⟨fun t r h => ?_, (fun h => by rw [hr] at h; cases h), BZ.out⟩
  rw [hr] at h
  obtain ⟨rfl, rfl⟩ := Prod.mk.inj (Option.some.inj h)
  exact ⟨rfl, H1.out⟩
set_option maxHeartbeats 4000000 in
set_option maxRecDepth 100000 in
theorem token_walk_next.w2 (B g : Nat) {ok : Nat → Prop} (fst : Bool) (l : List UInt8) (res : Option (S40 × List UInt8)) (q : List UInt8) (L : List S40) (w : World) (h : WalkAt w B g ok (Tk.bs l) L) (hG : Glob w) (hl : l.length ≤ 100000) (hL : L.length ≤ 100000) (hok : ∀ k, w.heap.size ≤ k → ok k) (h0 : Tk.behind [60, 33, 45, 45] l = none) (h1 : Tk.behind [60, 33, 91, 67, 68, 65, 84, 65, 91] l = none) (h2 : Tk.behind [60, 63] l = some q) (hx : Tk.prolog fst q = res) :
 Calls Try.prog 24 #[.pointer (some ⟨g, 0, none⟩), .bool fst] w fun e w' => (∀ t r, res = some (t, r) → e = .returned (.bool true) ∧ WalkAt w' B g ok (Tk.bs r) (L ++ [t])) ∧ (res = none → e = .returned (.bool false)) ∧ Below B w w' := by
 have hpos := h.pos
 have HG := Aside0.mk hG
 have HX := Aside0.mk hx
 have H := Aside0.mk h
 have E0 := Aside0.mk h0
 have E1 := Aside0.mk h1
 have E2 := Aside0.mk h2
 have hlq : q.length ≤ 100000 := Nat.le_trans (behind_le h2) hl
 clear h hG hx h0 h1 h2
 have B0 := Aside0.mk (Below.refl B w)
 have S0 := Aside0.mk (Nat.le_refl w.heap.size)
 go_enter Try.func24, Try.ntmps24
 go_wp2_with (go_at_call 34; refine (token_walk_eat.noK B g _ [60, 33, 45, 45] L _ H.out E0.out).mono ?_)
 rintro e w0 ⟨rfl, h1, b1, k1⟩
 have Hn := Aside0.mk h1
 have HGn := Aside0.mk (HG.out.below b1 hpos)
 have Bn := Aside0.mk (B0.out.trans b1)
 have Sn := Aside0.mk (Nat.le_trans S0.out k1.1)
 clear h1 b1 k1 H HG B0 S0
 have H := Hn
 have HG := HGn
 have B0 := Bn
 have S0 := Sn
 clear Hn HGn Bn Sn
 go_wp2_with (go_at_call 34; refine (token_walk_eat.noK B g _ [60, 33, 91, 67, 68, 65, 84, 65, 91] L _ H.out E1.out).mono ?_)
 rintro e w1 ⟨rfl, h1, b1, k1⟩
 have Hn := Aside0.mk h1
 have HGn := Aside0.mk (HG.out.below b1 hpos)
 have Bn := Aside0.mk (B0.out.trans b1)
 have Sn := Aside0.mk (Nat.le_trans S0.out k1.1)
 clear h1 b1 k1 H HG B0 S0
 have H := Hn
 have HG := HGn
 have B0 := Bn
 have S0 := Sn
 clear Hn HGn Bn Sn
 go_wp2_with (go_at_call 34; refine (token_walk_eat.yesK B g _ [60, 63] q L _ H.out E2.out).mono ?_)
 rintro e w2 ⟨rfl, h1, b1, k1⟩
 have Hn := Aside0.mk h1
 have HGn := Aside0.mk (HG.out.below b1 hpos)
 have Bn := Aside0.mk (B0.out.trans b1)
 have Sn := Aside0.mk (Nat.le_trans S0.out k1.1)
 clear h1 b1 k1 H HG B0 S0
 have H := Hn
 have HG := HGn
 have B0 := Bn
 have S0 := Sn
 clear Hn HGn Bn Sn
 have CF : Calls Try.prog 37 #[.pointer (some ⟨g, 0, none⟩), .bool fst] w2 fun e w' => (∀ t r, res = some (t, r) → e = .returned (.bool true) ∧ WalkAt w' B g ok (Tk.bs r) (L ++ [t])) ∧ (res = none → e = .returned (.bool false)) ∧ Below B w2 w' := by
  cases hr : res with
  | none =>
   refine (token_walk_prolog.no B g fst q L _ H.out HG.out (by omega) (HX.out.trans hr)).mono ?_
   rintro e w' ⟨rfl, b⟩
   exact ⟨(fun t r h => by cases h), fun _ => rfl, b⟩
  | some p =>
   obtain ⟨t0, r0⟩ := p
   refine (token_walk_prolog.yes B g fst q r0 t0 L _ H.out HG.out (by omega) hL (fun k hk => hok k (Nat.le_trans S0.out hk)) (HX.out.trans hr)).mono ?_
   rintro e w' ⟨rfl, h1, b⟩
   refine ⟨fun t r h => ?_, (fun h => by cases h), b⟩
   obtain ⟨rfl, rfl⟩ := Prod.mk.inj (Option.some.inj h)
   exact ⟨rfl, h1⟩
 have CF1 := Aside0.mk CF
 clear CF
 go_wp2_with (go_at_call 37; refine CF1.out.mono ?_)
 rintro e wz ⟨hy, hn, bz⟩
 have BZ := Aside0.mk (B0.out.trans bz)
 clear bz
 cases hr : res with
 | none =>
  obtain rfl := hn hr
  clear hy hn
  go_wp2
  go_ret
  exact ⟨(fun t r h => by rw [hr] at h; cases h), fun _ => rfl, BZ.out⟩
 | some p =>
  obtain ⟨t0, r0⟩ := p
  obtain ⟨rfl, h1⟩ := hy t0 r0 hr
  have H1 := Aside0.mk h1
  clear hy hn h1
  go_wp2
  go_ret
  refine ⟨fun t r h => ?_, (fun h => by rw [hr] at h; cases h), BZ.out⟩
  rw [hr] at h
  obtain ⟨rfl, rfl⟩ := Prod.mk.inj (Option.some.inj h)
  exact ⟨rfl, H1.out⟩
set_option maxHeartbeats 4000000 in
set_option maxRecDepth 100000 in
theorem token_walk_next.w3 (B g : Nat) {ok : Nat → Prop} (fst : Bool) (l : List UInt8) (res : Option (S40 × List UInt8)) (q : List UInt8) (L : List S40) (w : World) (h : WalkAt w B g ok (Tk.bs l) L) (hG : Glob w) (hl : l.length ≤ 100000) (hL : L.length ≤ 100000) (hok : ∀ k, w.heap.size ≤ k → ok k) (h0 : Tk.behind [60, 33, 45, 45] l = none) (h1 : Tk.behind [60, 33, 91, 67, 68, 65, 84, 65, 91] l = none) (h2 : Tk.behind [60, 63] l = none) (h3 : Tk.behind [60, 47] l = some q) (hx : Tk.close q = res) :
 Calls Try.prog 24 #[.pointer (some ⟨g, 0, none⟩), .bool fst] w fun e w' => (∀ t r, res = some (t, r) → e = .returned (.bool true) ∧ WalkAt w' B g ok (Tk.bs r) (L ++ [t])) ∧ (res = none → e = .returned (.bool false)) ∧ Below B w w' := by
 have hpos := h.pos
 have HG := Aside0.mk hG
 have HX := Aside0.mk hx
 have H := Aside0.mk h
 have E0 := Aside0.mk h0
 have E1 := Aside0.mk h1
 have E2 := Aside0.mk h2
 have E3 := Aside0.mk h3
 have hlq : q.length ≤ 100000 := Nat.le_trans (behind_le h3) hl
 clear h hG hx h0 h1 h2 h3
 have B0 := Aside0.mk (Below.refl B w)
 have S0 := Aside0.mk (Nat.le_refl w.heap.size)
 go_enter Try.func24, Try.ntmps24
 go_wp2_with (go_at_call 34; refine (token_walk_eat.noK B g _ [60, 33, 45, 45] L _ H.out E0.out).mono ?_)
 rintro e w0 ⟨rfl, h1, b1, k1⟩
 have Hn := Aside0.mk h1
 have HGn := Aside0.mk (HG.out.below b1 hpos)
 have Bn := Aside0.mk (B0.out.trans b1)
 have Sn := Aside0.mk (Nat.le_trans S0.out k1.1)
 clear h1 b1 k1 H HG B0 S0
 have H := Hn
 have HG := HGn
 have B0 := Bn
 have S0 := Sn
 clear Hn HGn Bn Sn
 go_wp2_with (go_at_call 34; refine (token_walk_eat.noK B g _ [60, 33, 91, 67, 68, 65, 84, 65, 91] L _ H.out E1.out).mono ?_)
 rintro e w1 ⟨rfl, h1, b1, k1⟩
 have Hn := Aside0.mk h1
 have HGn := Aside0.mk (HG.out.below b1 hpos)
 have Bn := Aside0.mk (B0.out.trans b1)
 have Sn := Aside0.mk (Nat.le_trans S0.out k1.1)
 clear h1 b1 k1 H HG B0 S0
 have H := Hn
 have HG := HGn
 have B0 := Bn
 have S0 := Sn
 clear Hn HGn Bn Sn
 go_wp2_with (go_at_call 34; refine (token_walk_eat.noK B g _ [60, 63] L _ H.out E2.out).mono ?_)
 rintro e w2 ⟨rfl, h1, b1, k1⟩
 have Hn := Aside0.mk h1
 have HGn := Aside0.mk (HG.out.below b1 hpos)
 have Bn := Aside0.mk (B0.out.trans b1)
 have Sn := Aside0.mk (Nat.le_trans S0.out k1.1)
 clear h1 b1 k1 H HG B0 S0
 have H := Hn
 have HG := HGn
 have B0 := Bn
 have S0 := Sn
 clear Hn HGn Bn Sn
 go_wp2_with (go_at_call 34; refine (token_walk_eat.yesK B g _ [60, 47] q L _ H.out E3.out).mono ?_)
 rintro e w3 ⟨rfl, h1, b1, k1⟩
 have Hn := Aside0.mk h1
 have HGn := Aside0.mk (HG.out.below b1 hpos)
 have Bn := Aside0.mk (B0.out.trans b1)
 have Sn := Aside0.mk (Nat.le_trans S0.out k1.1)
 clear h1 b1 k1 H HG B0 S0
 have H := Hn
 have HG := HGn
 have B0 := Bn
 have S0 := Sn
 clear Hn HGn Bn Sn
 have CF : Calls Try.prog 38 #[.pointer (some ⟨g, 0, none⟩)] w3 fun e w' => (∀ t r, res = some (t, r) → e = .returned (.bool true) ∧ WalkAt w' B g ok (Tk.bs r) (L ++ [t])) ∧ (res = none → e = .returned (.bool false)) ∧ Below B w3 w' := by
  cases hr : res with
  | none =>
   refine (token_walk_end.no B g q L _ H.out HG.out (by omega) (HX.out.trans hr)).mono ?_
   rintro e w' ⟨rfl, b⟩
   exact ⟨(fun t r h => by cases h), fun _ => rfl, b⟩
  | some p =>
   obtain ⟨t0, r0⟩ := p
   refine (token_walk_end.yes B g q r0 t0 L _ H.out HG.out (by omega) hL (fun k hk => hok k (Nat.le_trans S0.out hk)) (HX.out.trans hr)).mono ?_
   rintro e w' ⟨rfl, h1, b⟩
   refine ⟨fun t r h => ?_, (fun h => by cases h), b⟩
   obtain ⟨rfl, rfl⟩ := Prod.mk.inj (Option.some.inj h)
   exact ⟨rfl, h1⟩
 have CF1 := Aside0.mk CF
 clear CF
 go_wp2_with (go_at_call 38; refine CF1.out.mono ?_)
 rintro e wz ⟨hy, hn, bz⟩
 have BZ := Aside0.mk (B0.out.trans bz)
 clear bz
 cases hr : res with
 | none =>
  obtain rfl := hn hr
  clear hy hn
  go_wp2
  go_ret
  exact ⟨(fun t r h => by rw [hr] at h; cases h), fun _ => rfl, BZ.out⟩
 | some p =>
  obtain ⟨t0, r0⟩ := p
  obtain ⟨rfl, h1⟩ := hy t0 r0 hr
  have H1 := Aside0.mk h1
  clear hy hn h1
  go_wp2
  go_ret
  refine ⟨fun t r h => ?_, (fun h => by rw [hr] at h; cases h), BZ.out⟩
  rw [hr] at h
  obtain ⟨rfl, rfl⟩ := Prod.mk.inj (Option.some.inj h)
  exact ⟨rfl, H1.out⟩
set_option maxHeartbeats 4000000 in
set_option maxRecDepth 100000 in
theorem token_walk_next.w4 (B g : Nat) {ok : Nat → Prop} (fst : Bool) (l : List UInt8) (res : Option (S40 × List UInt8)) (q : List UInt8) (L : List S40) (w : World) (h : WalkAt w B g ok (Tk.bs l) L) (hG : Glob w) (hl : l.length ≤ 100000) (hL : L.length ≤ 100000) (hok : ∀ k, w.heap.size ≤ k → ok k) (h0 : Tk.behind [60, 33, 45, 45] l = none) (h1 : Tk.behind [60, 33, 91, 67, 68, 65, 84, 65, 91] l = none) (h2 : Tk.behind [60, 63] l = none) (h3 : Tk.behind [60, 47] l = none) (h4 : Tk.behind [60] l = some q) (hx : Tk.opening q = res) :
 Calls Try.prog 24 #[.pointer (some ⟨g, 0, none⟩), .bool fst] w fun e w' => (∀ t r, res = some (t, r) → e = .returned (.bool true) ∧ WalkAt w' B g ok (Tk.bs r) (L ++ [t])) ∧ (res = none → e = .returned (.bool false)) ∧ Below B w w' := by
 have hpos := h.pos
 have HG := Aside0.mk hG
 have HX := Aside0.mk hx
 have H := Aside0.mk h
 have E0 := Aside0.mk h0
 have E1 := Aside0.mk h1
 have E2 := Aside0.mk h2
 have E3 := Aside0.mk h3
 have E4 := Aside0.mk h4
 have hlq : q.length ≤ 100000 := Nat.le_trans (behind_le h4) hl
 clear h hG hx h0 h1 h2 h3 h4
 have B0 := Aside0.mk (Below.refl B w)
 have S0 := Aside0.mk (Nat.le_refl w.heap.size)
 go_enter Try.func24, Try.ntmps24
 go_wp2_with (go_at_call 34; refine (token_walk_eat.noK B g _ [60, 33, 45, 45] L _ H.out E0.out).mono ?_)
 rintro e w0 ⟨rfl, h1, b1, k1⟩
 have Hn := Aside0.mk h1
 have HGn := Aside0.mk (HG.out.below b1 hpos)
 have Bn := Aside0.mk (B0.out.trans b1)
 have Sn := Aside0.mk (Nat.le_trans S0.out k1.1)
 clear h1 b1 k1 H HG B0 S0
 have H := Hn
 have HG := HGn
 have B0 := Bn
 have S0 := Sn
 clear Hn HGn Bn Sn
 go_wp2_with (go_at_call 34; refine (token_walk_eat.noK B g _ [60, 33, 91, 67, 68, 65, 84, 65, 91] L _ H.out E1.out).mono ?_)
 rintro e w1 ⟨rfl, h1, b1, k1⟩
 have Hn := Aside0.mk h1
 have HGn := Aside0.mk (HG.out.below b1 hpos)
 have Bn := Aside0.mk (B0.out.trans b1)
 have Sn := Aside0.mk (Nat.le_trans S0.out k1.1)
 clear h1 b1 k1 H HG B0 S0
 have H := Hn
 have HG := HGn
 have B0 := Bn
 have S0 := Sn
 clear Hn HGn Bn Sn
 go_wp2_with (go_at_call 34; refine (token_walk_eat.noK B g _ [60, 63] L _ H.out E2.out).mono ?_)
 rintro e w2 ⟨rfl, h1, b1, k1⟩
 have Hn := Aside0.mk h1
 have HGn := Aside0.mk (HG.out.below b1 hpos)
 have Bn := Aside0.mk (B0.out.trans b1)
 have Sn := Aside0.mk (Nat.le_trans S0.out k1.1)
 clear h1 b1 k1 H HG B0 S0
 have H := Hn
 have HG := HGn
 have B0 := Bn
 have S0 := Sn
 clear Hn HGn Bn Sn
 go_wp2_with (go_at_call 34; refine (token_walk_eat.noK B g _ [60, 47] L _ H.out E3.out).mono ?_)
 rintro e w3 ⟨rfl, h1, b1, k1⟩
 have Hn := Aside0.mk h1
 have HGn := Aside0.mk (HG.out.below b1 hpos)
 have Bn := Aside0.mk (B0.out.trans b1)
 have Sn := Aside0.mk (Nat.le_trans S0.out k1.1)
 clear h1 b1 k1 H HG B0 S0
 have H := Hn
 have HG := HGn
 have B0 := Bn
 have S0 := Sn
 clear Hn HGn Bn Sn
 go_wp2_with (go_at_call 34; refine (token_walk_eat.yesK B g _ [60] q L _ H.out E4.out).mono ?_)
 rintro e w4 ⟨rfl, h1, b1, k1⟩
 have Hn := Aside0.mk h1
 have HGn := Aside0.mk (HG.out.below b1 hpos)
 have Bn := Aside0.mk (B0.out.trans b1)
 have Sn := Aside0.mk (Nat.le_trans S0.out k1.1)
 clear h1 b1 k1 H HG B0 S0
 have H := Hn
 have HG := HGn
 have B0 := Bn
 have S0 := Sn
 clear Hn HGn Bn Sn
 go_wp2_with (go_at_call 39; refine (token_walk_begin.all B g q res L _ H.out HG.out hlq hL (fun k hk => hok k (Nat.le_trans S0.out hk)) HX.out).mono ?_)
 rintro e wz ⟨hy, hn, bz⟩
 have BZ := Aside0.mk (B0.out.trans bz)
 clear bz
 cases hr : res with
 | none =>
  obtain rfl := hn hr
  clear hy hn
  go_wp2
  go_ret
  exact ⟨(fun t r h => by rw [hr] at h; cases h), fun _ => rfl, BZ.out⟩
 | some p =>
  obtain ⟨t0, r0⟩ := p
  obtain ⟨rfl, h1⟩ := hy t0 r0 hr
  have H1 := Aside0.mk h1
  clear hy hn h1
  go_wp2
  go_ret
  refine ⟨fun t r h => ?_, (fun h => by rw [hr] at h; cases h), BZ.out⟩
  rw [hr] at h
  obtain ⟨rfl, rfl⟩ := Prod.mk.inj (Option.some.inj h)
  exact ⟨rfl, H1.out⟩
set_option maxHeartbeats 4000000 in
set_option maxRecDepth 100000 in
theorem token_walk_next.w5 (B g : Nat) {ok : Nat → Prop} (fst : Bool) (l : List UInt8) (res : Option (S40 × List UInt8)) (L : List S40) (w : World) (h : WalkAt w B g ok (Tk.bs l) L) (hG : Glob w) (hl : l.length ≤ 100000) (hL : L.length ≤ 100000) (hok : ∀ k, w.heap.size ≤ k → ok k) (h0 : Tk.behind [60, 33, 45, 45] l = none) (h1 : Tk.behind [60, 33, 91, 67, 68, 65, 84, 65, 91] l = none) (h2 : Tk.behind [60, 63] l = none) (h3 : Tk.behind [60, 47] l = none) (h4 : Tk.behind [60] l = none) (hx : Tk.text l = res) :
 Calls Try.prog 24 #[.pointer (some ⟨g, 0, none⟩), .bool fst] w fun e w' => (∀ t r, res = some (t, r) → e = .returned (.bool true) ∧ WalkAt w' B g ok (Tk.bs r) (L ++ [t])) ∧ (res = none → e = .returned (.bool false)) ∧ Below B w w' := by
 have hpos := h.pos
 have HG := Aside0.mk hG
 have HX := Aside0.mk hx
 have H := Aside0.mk h
 have E0 := Aside0.mk h0
 have E1 := Aside0.mk h1
 have E2 := Aside0.mk h2
 have E3 := Aside0.mk h3
 have E4 := Aside0.mk h4
 clear h hG hx h0 h1 h2 h3 h4
 have B0 := Aside0.mk (Below.refl B w)
 have S0 := Aside0.mk (Nat.le_refl w.heap.size)
 go_enter Try.func24, Try.ntmps24
 go_wp2_with (go_at_call 34; refine (token_walk_eat.noK B g _ [60, 33, 45, 45] L _ H.out E0.out).mono ?_)
 rintro e w0 ⟨rfl, h1, b1, k1⟩
 have Hn := Aside0.mk h1
 have HGn := Aside0.mk (HG.out.below b1 hpos)
 have Bn := Aside0.mk (B0.out.trans b1)
 have Sn := Aside0.mk (Nat.le_trans S0.out k1.1)
 clear h1 b1 k1 H HG B0 S0
 have H := Hn
 have HG := HGn
 have B0 := Bn
 have S0 := Sn
 clear Hn HGn Bn Sn
 go_wp2_with (go_at_call 34; refine (token_walk_eat.noK B g _ [60, 33, 91, 67, 68, 65, 84, 65, 91] L _ H.out E1.out).mono ?_)
 rintro e w1 ⟨rfl, h1, b1, k1⟩
 have Hn := Aside0.mk h1
 have HGn := Aside0.mk (HG.out.below b1 hpos)
 have Bn := Aside0.mk (B0.out.trans b1)
 have Sn := Aside0.mk (Nat.le_trans S0.out k1.1)
 clear h1 b1 k1 H HG B0 S0
 have H := Hn
 have HG := HGn
 have B0 := Bn
 have S0 := Sn
 clear Hn HGn Bn Sn
 go_wp2_with (go_at_call 34; refine (token_walk_eat.noK B g _ [60, 63] L _ H.out E2.out).mono ?_)
 rintro e w2 ⟨rfl, h1, b1, k1⟩
 have Hn := Aside0.mk h1
 have HGn := Aside0.mk (HG.out.below b1 hpos)
 have Bn := Aside0.mk (B0.out.trans b1)
 have Sn := Aside0.mk (Nat.le_trans S0.out k1.1)
 clear h1 b1 k1 H HG B0 S0
 have H := Hn
 have HG := HGn
 have B0 := Bn
 have S0 := Sn
 clear Hn HGn Bn Sn
 go_wp2_with (go_at_call 34; refine (token_walk_eat.noK B g _ [60, 47] L _ H.out E3.out).mono ?_)
 rintro e w3 ⟨rfl, h1, b1, k1⟩
 have Hn := Aside0.mk h1
 have HGn := Aside0.mk (HG.out.below b1 hpos)
 have Bn := Aside0.mk (B0.out.trans b1)
 have Sn := Aside0.mk (Nat.le_trans S0.out k1.1)
 clear h1 b1 k1 H HG B0 S0
 have H := Hn
 have HG := HGn
 have B0 := Bn
 have S0 := Sn
 clear Hn HGn Bn Sn
 go_wp2_with (go_at_call 34; refine (token_walk_eat.noK B g _ [60] L _ H.out E4.out).mono ?_)
 rintro e w4 ⟨rfl, h1, b1, k1⟩
 have Hn := Aside0.mk h1
 have HGn := Aside0.mk (HG.out.below b1 hpos)
 have Bn := Aside0.mk (B0.out.trans b1)
 have Sn := Aside0.mk (Nat.le_trans S0.out k1.1)
 clear h1 b1 k1 H HG B0 S0
 have H := Hn
 have HG := HGn
 have B0 := Bn
 have S0 := Sn
 clear Hn HGn Bn Sn
 go_wp2_with (go_at_call 40; refine (token_walk_text.all B g l res L _ H.out HG.out hl hL (fun k hk => hok k (Nat.le_trans S0.out hk)) HX.out).mono ?_)
 rintro e wz ⟨hy, hn, bz⟩
 have BZ := Aside0.mk (B0.out.trans bz)
 clear bz
 cases hr : res with
 | none =>
  obtain rfl := hn hr
  clear hy hn
  go_wp2
  go_ret
  exact ⟨(fun t r h => by rw [hr] at h; cases h), fun _ => rfl, BZ.out⟩
 | some p =>
  obtain ⟨t0, r0⟩ := p
  obtain ⟨rfl, h1⟩ := hy t0 r0 hr
  have H1 := Aside0.mk h1
  clear hy hn h1
  go_wp2
  go_ret
  refine ⟨fun t r h => ?_, (fun h => by rw [hr] at h; cases h), BZ.out⟩
  rw [hr] at h
  obtain ⟨rfl, rfl⟩ := Prod.mk.inj (Option.some.inj h)
  exact ⟨rfl, H1.out⟩
theorem token_walk_next.all (B g : Nat) {ok : Nat → Prop} (fst : Bool) (l : List UInt8) (res : Option (S40 × List UInt8)) (L : List S40) (w : World) (h : WalkAt w B g ok (Tk.bs l) L) (hG : Glob w) (hl : l.length ≤ 100000) (hL : L.length ≤ 100000) (hok : ∀ k, w.heap.size ≤ k → ok k) (hx : Tk.next fst l = res) :
 Calls Try.prog 24 #[.pointer (some ⟨g, 0, none⟩), .bool fst] w fun e w' => (∀ t r, res = some (t, r) → e = .returned (.bool true) ∧ WalkAt w' B g ok (Tk.bs r) (L ++ [t])) ∧ (res = none → e = .returned (.bool false)) ∧ Below B w w' := by
 unfold Tk.next at hx
 cases h0 : Tk.behind [60, 33, 45, 45] l with
 | some q => rw [h0] at hx; exact token_walk_next.w0 B g fst l res q L w h hG hl hL hok h0 hx
 | none =>
  rw [h0] at hx
  dsimp only at hx
  cases h1 : Tk.behind [60, 33, 91, 67, 68, 65, 84, 65, 91] l with
  | some q => rw [h1] at hx; exact token_walk_next.w1 B g fst l res q L w h hG hl hL hok h0 h1 hx
  | none =>
   rw [h1] at hx
   dsimp only at hx
   cases h2 : Tk.behind [60, 63] l with
   | some q => rw [h2] at hx; exact token_walk_next.w2 B g fst l res q L w h hG hl hL hok h0 h1 h2 hx
   | none =>
    rw [h2] at hx
    dsimp only at hx
    cases h3 : Tk.behind [60, 47] l with
    | some q => rw [h3] at hx; exact token_walk_next.w3 B g fst l res q L w h hG hl hL hok h0 h1 h2 h3 hx
    | none =>
     rw [h3] at hx
     dsimp only at hx
     cases h4 : Tk.behind [60] l with
     | some q => rw [h4] at hx; exact token_walk_next.w4 B g fst l res q L w h hG hl hL hok h0 h1 h2 h3 h4 hx
     | none =>
      rw [h4] at hx
      dsimp only at hx
      exact token_walk_next.w5 B g fst l res L w h hG hl hL hok h0 h1 h2 h3 h4 hx


end Go.Proofs.Ytkoogebfdinbnaa.Q

-- Printed by this session's wip/np.py over the kit's print program. Not trusted: Lean checks it.
namespace Go.Proofs.Ytkoogebfdinbnaa.Q
open Go.RowKit Go.Proofs.YtkoogebfdinbnaaW.PrintWords Go.Proofs.YtkoogebfdinbnaaW.PrintLast Go.Proofs.YtkoogebfdinbnaaW.Own Go.Proofs.YtkoogebfdinbnaaW.PrintMore
attribute [local go_sem] max2_int min2_int max_two min_two max_three min_three max_four min_four
set_option linter.unusedVariables false
set_option linter.unusedSimpArgs false

/-! ### token_Split: function 14 -/
theorem allowed_f (c : UInt8) : chars_Allowed.f (c.toNat : Int) = some (Tk.allowed c) := Tk.bytes_all (by kernel_rfl) c
def badB (c : UInt8) : Bool := !Tk.allowed c
set_option maxHeartbeats 4000000 in
set_option maxRecDepth 100000 in
theorem token_Split.clo (c : UInt8) (x : Int) (hx : x = (c.toNat : Int)) (w : World) (hG : Glob w) :
 Calls Try.prog 22 #[.int .u8 x] w fun e w' => e = .returned (.bool (badB c)) ∧ Below w.heap.size w w' := by
 have hf := allowed_f c
 rw [← hx] at hf
 obtain ⟨b, hb⟩ : ∃ b, Tk.allowed c = b := ⟨_, rfl⟩
 have hbb : badB c = !b := by unfold badB; rw [hb]
 rw [hb] at hf
 rw [hbb]
 have HF := Aside0.mk hf
 have HG := Aside0.mk hG
 clear hf hG hb hbb hx
 go_enter Try.func22, Try.ntmps22
 go_wp2_with (first | (go_at_call 23; (with_reducible refine (chars_Allowed.calls x b _ HG.out HF.out).mono ?_); rintro e w1 ⟨rfl, ⟨nd, rfl⟩⟩))
 go_ret
 exact ⟨rfl, pw_below_drewN (Below.refl _ _) nd⟩
theorem bytes_rd (l : List UInt8) (i : Nat) (h : i < l.length) : rd (bytesOf (Tk.bs l)) (i : Int) = (l[i].toNat : Int) := by rw [rd_bytesOf, bs_bt l i h]
set_option maxHeartbeats 8000000 in
set_option maxRecDepth 100000 in
theorem token_Split.ix (A0 : Option Addr) (c0 : Nat) (l : List UInt8) (w : World) (hr0 : Kd.C (Kd.int .u8) w A0 l.length (bytesOf (Tk.bs l))) (hlen : l.length ≤ 1000000) (hG : Glob w) :
 Calls Try.prog 32 #[.slice A0 l.length c0, .func (.func 22) #[] #[]] w fun e w' => (∃ r : Int, e = .returned (.int .i64 r) ∧ decide (0 ≤ r) = l.any badB) ∧ Below w.heap.size w w' := by
 have HR0 := Aside0.mk hr0
 have HG := Aside0.mk hG
 clear hr0 hG
 go_enter Try.func32, Try.ntmps32
 go_wp2
 go_loopg [8] (l.length + 1) (fun gk v8 w' => ∃ (i : Nat) (x : Int), i ≤ l.length ∧ i + gk = l.length + 1 ∧ v8 = .int .i64 x ∧ Aside0 (x = (i : Int)) ∧ Aside0 ((l.take i).any badB = false) ∧ Aside0 (Below w.heap.size w w'))
 case atStart => exact ⟨0, 0, by omega, by omega, by first | rfl | (simp; done), ⟨rfl⟩, ⟨by rw [List.take_zero]; rfl⟩, ⟨Below.refl _ _⟩⟩
 case round =>
  obtain ⟨i, x, hi, hgk, rfl, HX, HA, HB⟩ := hrel
  have hxi := HX.out
  by_cases hlt : i < l.length
  ·obtain ⟨g1, rfl⟩ : ∃ g1, gk = g1 + 1 := ⟨gk - 1, by omega⟩
   have d1 : decide (x < (l.length : Int)) = true := decide_eq_true (by omega)
   obtain ⟨ad, e_, hx0⟩ := Kd.at_int HR0.out x (by omega) (by omega)
   cases e_
   obtain ⟨y, hy⟩ : ∃ y, rd (bytesOf (Tk.bs l)) x = y := ⟨_, rfl⟩
   have hyc : y = (l[i].toNat : Int) := by rw [← hy, hxi, bytes_rd l i hlt]
   rw [hy] at hx0
   replace hx0 := (HB.out.cell (World.block_lt_of_cell? w _ hx0)).trans hx0
   have p_ := eq_true (show 0 ≤ x by omega)
   have q_ := eq_true (show x < (l.length : Int) by omega)
   have hat := any_take badB l i hlt
   rw [HA.out, Bool.false_or] at hat
   have C2 := token_Split.clo l[i] y hyc wr (HG.out.step HB.out)
   cases hps : badB l[i] with
   | true =>
    rw [hps] at C2
    have hall : l.any badB = true := any_hit hlt hps
    have HALL := Lib.hid hall
    have HX0 : decide (0 ≤ x) = true := decide_eq_true (by omega)
    have HXX := Lib.hid HX0
    have C3 := Aside0.mk C2
    clear hps hall hat hxi C2 HX0 hy hyc
    go_wp2_with (first | (go_at_call 22; (with_reducible refine (C3.out).mono ?_); rintro e w4 ⟨rfl, hb⟩; have B4 := Aside0.mk hb; clear hb))
    go_ret
    exact ⟨⟨_, rfl, by rw [HALL.out, HXX.out]⟩, below_step HB.out B4.out⟩
   | false =>
    rw [hps] at C2 hat
    have HAT := Aside0.mk hat
    have C3 := Aside0.mk C2
    have hw1 : wrap64 (x + 1) = ((i + 1 : Nat) : Int) := by unfold wrap64; omega
    have HW1 := Aside0.mk hw1
    clear hps hat hxi C2 hw1 hy hyc
    go_wp2_with (first | (go_at_call 22; (with_reducible refine (C3.out).mono ?_); rintro e w4 ⟨rfl, hb⟩; have B4 := Aside0.mk hb; clear hb))
    go_roundg g1
    case measure => omega
    case rel => exact ⟨i + 1, _, by omega, by omega, by first | rfl | (simp; done), HW1, HAT, ⟨below_step HB.out B4.out⟩⟩
  ·obtain rfl : i = l.length := by omega
   have d1 : decide (x < (l.length : Int)) = false := decide_eq_false (by omega)
   have hall : l.any badB = false := by have := HA.out; rwa [List.take_length] at this
   have HALL := Lib.hid hall
   clear hall hxi
   go_wp2
   go_ret
   exact ⟨⟨_, rfl, by rw [HALL.out]; rfl⟩, HB.out⟩
set_option maxHeartbeats 8000000 in
set_option maxRecDepth 100000 in
theorem token_Split.has (A0 : Option Addr) (c0 : Nat) (l : List UInt8) (w : World) (hr0 : Kd.C (Kd.int .u8) w A0 l.length (bytesOf (Tk.bs l))) (hlen : l.length ≤ 1000000) (hG : Glob w) :
 Calls Try.prog 21 #[.slice A0 l.length c0, .func (.func 22) #[] #[]] w fun e w' => e = .returned (.bool (l.any badB)) ∧ Below w.heap.size w w' := by
 have C1 := Aside0.mk (token_Split.ix A0 c0 l w hr0 hlen hG)
 obtain ⟨b, hb⟩ : ∃ b, b = l.any badB := ⟨_, rfl⟩
 rw [← hb] at C1 ⊢
 clear hr0 hG hb
 go_enter Try.func21, Try.ntmps21
 go_wp2_with (first | (go_at_call 32; (with_reducible refine C1.out.mono ?_); rintro e w4 ⟨⟨r, rfl, hr⟩, hb⟩; have HB := Aside0.mk hb; have HR := Lib.hid hr; clear hb hr))
 go_ret
 refine ⟨?_, HB.out⟩
 rw [← HR.out]
 first | rfl | (simp; done)
theorem attrs_len : ∀ (n : Nat) (nm : List UInt8) (ys : List S68) (l : List UInt8) (t : S40) (r : List UInt8), Tk.attrs n nm ys l = some (t, r) → r.length ≤ l.length
 | 0, _, _, _, _, _, h => by simp [Tk.attrs] at h
 | n + 1, nm, ys, l, t, r, h => by
  rw [Tk.attrs] at h
  (try dsimp only at h)
  have hs := skip_len l
  cases h1 : Tk.behind [62] (Tk.skip l) with
  | some q =>
   rw [h1] at h
   obtain ⟨_, rfl⟩ := Prod.mk.inj (Option.some.inj h)
   exact Nat.le_trans (behind_len h1) hs
  | none =>
   rw [h1] at h
   (try dsimp only at h)
   cases h2 : Tk.behind [47, 62] (Tk.skip l) with
   | some q =>
    rw [h2] at h
    obtain ⟨_, rfl⟩ := Prod.mk.inj (Option.some.inj h)
    exact Nat.le_trans (behind_len h2) hs
   | none =>
    rw [h2] at h
    (try dsimp only at h)
    split at h
    ·cases h
    ·obtain ⟨⟨x, q⟩, h3, h⟩ := Option.bind_eq_some_iff.1 h
     (try dsimp only at h)
     split at h
     ·cases h
     ·have := attrs_len n nm _ q t r h
      have := attr_len h3
      omega
theorem next_len {fst : Bool} {l r : List UInt8} {t : S40} (hl : l ≠ []) (h : Tk.next fst l = some (t, r)) : r.length < l.length := by
 unfold Tk.next at h
 cases h1 : Tk.behind [60, 33, 45, 45] l with
 | some q =>
  rw [h1] at h
  have e := behind_sum h1
  unfold Tk.comment at h
  obtain ⟨⟨a, b⟩, h2, h⟩ := Option.bind_eq_some_iff.1 h
  (try dsimp only at h)
  split at h
  ·cases h
  ·obtain ⟨_, rfl⟩ := Prod.mk.inj (Option.some.inj h)
   have := (upto_len h2).2
   simp only [List.length_cons, List.length_nil] at e
   (try dsimp only)
   omega
 | none =>
 rw [h1] at h
 (try dsimp only at h)
 cases h1 : Tk.behind [60, 33, 91, 67, 68, 65, 84, 65, 91] l with
 | some q =>
  rw [h1] at h
  have e := behind_sum h1
  obtain ⟨⟨a, b⟩, h2, h⟩ := Option.map_eq_some_iff.1 (show (Tk.upto [93, 93, 62] q).map _ = some (t, r) from h)
  obtain ⟨_, rfl⟩ := Prod.mk.inj h
  have := (upto_len h2).2
  simp only [List.length_cons, List.length_nil] at e
  (try dsimp only)
  omega
 | none =>
 rw [h1] at h
 (try dsimp only at h)
 cases h1 : Tk.behind [60, 63] l with
 | some q =>
  rw [h1] at h
  have e := behind_sum h1
  obtain ⟨⟨a, b⟩, h2, h⟩ := Option.bind_eq_some_iff.1 (show (Tk.upto [63, 62] q).bind _ = some (t, r) from h)
  (try dsimp only at h)
  split at h
  ·obtain ⟨_, rfl⟩ := Prod.mk.inj (Option.some.inj h)
   have := (upto_len h2).2
   simp only [List.length_cons, List.length_nil] at e
   (try dsimp only)
   omega
  ·cases h
 | none =>
 rw [h1] at h
 (try dsimp only at h)
 cases h1 : Tk.behind [60, 47] l with
 | some q =>
  rw [h1] at h
  have e := behind_sum h1
  (try dsimp only at h)
  unfold Tk.close at h
  split at h
  ·cases h
  ·obtain ⟨b, h2, h⟩ := Option.map_eq_some_iff.1 h
   obtain ⟨_, rfl⟩ := Prod.mk.inj h
   have e2 := behind_len h2
   have e3 := skip_len (q.drop (Tk.head q).length)
   rw [List.length_drop] at e3
   simp only [List.length_cons, List.length_nil] at e
   omega
 | none =>
 rw [h1] at h
 (try dsimp only at h)
 cases h1 : Tk.behind [60] l with
 | some q =>
  rw [h1] at h
  have e := behind_sum h1
  (try dsimp only at h)
  unfold Tk.opening at h
  split at h
  ·cases h
  ·have e2 := attrs_len _ _ _ _ _ _ h
   rw [List.length_drop] at e2
   simp only [List.length_cons, List.length_nil] at e
   omega
 | none =>
 rw [h1] at h
 (try dsimp only at h)
 unfold Tk.text at h
 (try dsimp only at h)
 obtain ⟨x, _, h⟩ := Option.map_eq_some_iff.1 h
 obtain ⟨_, rfl⟩ := Prod.mk.inj h
 cases l with
 | nil => exact absurd rfl hl
 | cons c q =>
  have hc : (c != 60) = true := by
   by_cases hc : c = 60
   ·subst hc; simp [Tk.behind, List.isPrefixOf] at h1
   ·simpa using hc
  rw [List.takeWhile_cons, if_pos hc, List.length_drop, List.length_cons, List.length_cons]
  omega
def token_Split.f (a0 : ByteArray) : Option (List S40 × Int) := if a0.size ≤ 9223372036854775807 then some (Tk.split a0.data.toList) else none
set_option maxHeartbeats 16000000 in
set_option maxRecDepth 100000 in
/-- The walk over the pieces; B: where the call began, wb: the world then. -/
theorem token_Split.loop (l : List UInt8) (P : Option (List S40)) (hl : l.length ≤ 20000) (hbad : l.any badB = false) (hP : Tk.pieces (l.length + 1) true l = P) (w : World) (hG : Glob w) :
 Calls Try.prog 14 #[.string (Tk.bs l)] w fun e w' => (∀ t, P = some t → ∃ v0_ : Value, e = .returned (.tuple #[v0_, .int .i64 0]) ∧ Kd.S k40 40 w' w.heap.size (fun _ => True) v0_ t) ∧ (P = none → e = .returned (.tuple #[.slice none 0 0, .int .i64 5])) ∧ Below w.heap.size w w' := by
 have hsz := bs_size l
 have hpos := hG.lt
 obtain ⟨s, hs⟩ : ∃ s, s = Tk.bs l := ⟨_, rfl⟩
 have d1 : decide ((20000 : Int) < (s.size : Int)) = false := decide_eq_false (by rw [hs, hsz]; omega)
 have d1' : decide (20000 < s.size) = false := decide_eq_false (by rw [hs, hsz]; omega)
 have kb := fun W => print_bytes (P := Try.prog) 9 48 5 Try.underlying9 Try.underlying48 Try.underlying5 s W
 have hr : Kd.C (Kd.int .u8) (Lib.bytesWorld w 5 s) (some ⟨w.heap.size, 0, none⟩) s.size (bytesOf s) := Kd.C_of_reads (enc := Value.int .u8) (d := (0 : Int)) (h1 := fun _ => rfl) (bytes_reads w 5 s (by rw [hs, hsz]; omega))
 have hb : Below w.heap.size w (Lib.bytesWorld w 5 s) := bytes_below (Below.refl _ _) (Nat.le_refl _) _ _
 have hu := Try.underlying65
 have HSZ := Lib.hid (show s.size = l.length by rw [hs, hsz])
 have HS := Lib.hid hs
 have HBAD := Lib.hid hbad
 have HP := Lib.hid hP
 have HR := Aside0.mk hr
 have HBB := Aside0.mk hb
 have HG := Aside0.mk hG
 rw [← hs]
 clear hs hsz hr hb hG hbad hP
 go_enter Try.func14, Try.ntmps14
 go_wp2
 refine wp_scope_loop 0 (by rfl) ?_
 go_wp2_with (fail)
 have hC := HR.out
 rw [HSZ.out, HS.out] at hC
 rw [HSZ.out]
 refine (token_Split.has _ _ l _ (by rw [← HS.out] at hC ⊢; exact hC) (by omega) (HG.out.step HBB.out)).mono ?_
 rintro e wc ⟨rfl, b1⟩
 rw [HBAD.out]
 have HBC := Aside0.mk (HBB.out.trans (b1.mono HBB.out.size))
 clear b1 hC HBB HR kb d1 d1'
 go_wp2_with (fail)
 have hb0 : Below wc.heap.size wc (wc.alloc (.cells #[.string s, .slice none 0 0] 65)) := below_alloc (Below.refl _ _) _
 have X0 : (wc.alloc (.cells #[.string s, .slice none 0 0] 65)).heap[wc.heap.size]? = some (.cells #[.string s, .slice none 0 0] 65 (0, 0)) := heap_alloc_new wc _
 obtain ⟨g, hg⟩ : ∃ g, g = wc.heap.size := ⟨_, rfl⟩
 obtain ⟨B, hBe⟩ : ∃ B, B = w.heap.size := ⟨_, rfl⟩
 obtain ⟨wb, hwb⟩ : ∃ wb, wb = w := ⟨_, rfl⟩
 have hgB : B ≤ g := by have := HBC.out.size; omega
 have H2 := Aside0.mk (show WalkAt (wc.alloc (.cells #[.string s, .slice none 0 0] 65)) B g (fun _ => True) (Tk.bs l) [] from by rw [← HS.out]; exact ⟨_, by rw [hg]; exact X0, Kd.S_nil _ _ _ _ _, hgB, by omega⟩)
 have B2 := Aside0.mk (show Below B wb (wc.alloc (.cells #[.string s, .slice none 0 0] 65)) from by rw [hBe, hwb]; exact HBC.out.trans (hb0.mono HBC.out.size))
 have HGb := Aside0.mk (show Glob wb from by rw [hwb]; exact HG.out)
 have hposB : 0 < B := by omega
 rw [← hg]
 rw [← hBe, ← hwb]
 clear hb0 X0 HBC HG
 generalize wc.alloc _ = w0 at *
 have HBE := Lib.hid hBe
 have HWB := Lib.hid hwb
 clear hg hBe hwb
 refine wp_label ?_
 rename_i hlb
 refine hlb _ _ ?_
 refine wp_at_label ?_
 refine LoopAt.intro (fun aB_ kq_ a1 w1 => ∃ (u2 u3 u16 u17 u18 u19 u20 u21 u22 u23 u24 u25 u26 u27 u28 u29 u30 u31 u32 u33 u34 u35 : Value), (∃ (m : List UInt8) (L : List S40) (fst : Bool), m.length < kq_ ∧ Aside0 (fst = decide (m.length = l.length)) ∧ Aside0 (L.length + m.length ≤ l.length) ∧ Aside0 (P = (Tk.pieces kq_ fst m).map fun t => L ++ t) ∧ Aside0 (WalkAt w1 B g (fun _ => True) (Tk.bs m) L) ∧ Aside0 (Below B wb w1)) ∧ a1 = ((((((((((((((((((((((aB_.put (some 2) u2).put (some 3) u3).put (some 16) u16).put (some 17) u17).put (some 18) u18).put (some 19) u19).put (some 20) u20).put (some 21) u21).put (some 22) u22).put (some 23) u23).put (some 24) u24).put (some 25) u25).put (some 26) u26).put (some 27) u27).put (some 28) u28).put (some 29) u29).put (some 30) u30).put (some 31) u31).put (some 32) u32).put (some 33) u33).put (some 34) u34).put (some 35) u35)) (l.length + 1) ?_ ?_
 ·(repeat apply Exists.intro)
  (try simp only [Act.put, List.setIfInBounds_toArray, List.set_cons_zero, List.set_cons_succ])
  refine ⟨?_, rfl⟩
  exact ⟨l, [], true, Nat.lt_succ_self _, ⟨by simp⟩, ⟨by simp⟩, ⟨by rw [HP.out]; simp⟩, H2, B2⟩
 ·intro gk a1 wr hinv
  obtain ⟨u2, u3, u16, u17, u18, u19, u20, u21, u22, u23, u24, u25, u26, u27, u28, u29, u30, u31, u32, u33, u34, u35, hrel, ha⟩ := hinv
  subst ha
  (try simp only [Act.put, List.setIfInBounds_toArray, List.set_cons_zero, List.set_cons_succ])
  intro Js0 Ks0 hJs0 hKs0
  clear H2 B2 HP
  obtain ⟨m, L, fst, hmk, HFS, HLM, HP, H, HB⟩ := hrel
  obtain ⟨g1, rfl⟩ : ∃ g1, gk = g1 + 1 := ⟨gk - 1, by omega⟩
  have hlm := HLM.out
  have hsl := HSZ.out
  have hmz := bs_size m
  have c0 := H.out.cell0
  have HG1 := Aside0.mk (HGb.out.below HB.out (by show 0 < B; omega))
  by_cases hm : m = []
  ·have hPL : P = some L := by
    rw [HP.out, Tk.pieces, if_pos hm]; simp
   have HPL := Lib.hid hPL
   have e1 := bs_none hm
   have H0 := H.out
   obtain ⟨v, h1, h2, _⟩ := H0
   obtain ⟨A1, c1, rfl⟩ := Kd.S_slice h2
   have c1' := (blk_cell h1 1).trans rfl
   have H2 := Aside0.mk h2
   clear h1 h2 hPL hm HP hlm hsl hmz
   go_wp2_with (fail)
   (try simp only [Exit.inBlock, Exit.then, jump_ret])
   go_ret2
   have HBf := HB.out
   have H2f := H2.out
   rw [HBE.out, HWB.out] at HBf
   rw [HBE.out] at H2f
   refine ⟨fun t h => ?_, (fun h => by rw [HPL.out] at h; cases h), HBf⟩
   rw [HPL.out] at h
   obtain rfl := Option.some.inj h
   exact ⟨_, rfl, Kd.S_mono H2f (fun _ _ => trivial)⟩
  ·obtain ⟨e1, e2, e3, e4⟩ := bs_some hm
   have hP1 : P = ((Tk.next fst m).bind fun p => (Tk.pieces g1 false p.2).map fun t => p.1 :: t).map fun t => L ++ t := by
    rw [HP.out, Tk.pieces, if_neg hm]
   have hfs : ((((Tk.bs m).size : Nat) : Int) == ((s.size : Nat) : Int)) = fst := by
    rw [HFS.out, hmz, hsl]
    rw [Bool.eq_iff_iff, beq_iff_eq, decide_eq_true_eq]
    omega
   have hfs2 : ((Tk.bs m).size == s.size) = fst := by
    rw [HFS.out, hmz, hsl]
    rw [Bool.eq_iff_iff, beq_iff_eq, decide_eq_true_eq]
   have HP1 := Lib.hid hP1
   obtain ⟨res, hres⟩ : ∃ res, Tk.next fst m = res := ⟨_, rfl⟩
   have CN := Aside0.mk (token_walk_next.all B g fst m res L wr H.out HG1.out (by omega) (by omega) (fun _ _ => trivial) hres)
   have HRS := Lib.hid hres
   have HM := Lib.hid hm
   clear hP1 hres hm HP hsl hmz
   go_wp2_with (go_at_call 24; (with_reducible refine CN.out.mono ?_))
   rintro e wn ⟨hy, hn, bn⟩
   have B3 := Aside0.mk (HB.out.trans bn)
   clear bn CN
   cases hr : res with
   | none =>
    obtain rfl := hn hr
    have hPN : P = none := by rw [HP1.out, HRS.out, hr]; rfl
    have HPN := Lib.hid hPN
    clear hy hn hPN hr
    go_wp2_with (fail)
    (try simp only [Exit.inBlock, Exit.then, jump_ret])
    go_ret2
    have HBf := B3.out
    rw [HBE.out, HWB.out] at HBf
    exact ⟨(fun t h => by rw [HPN.out] at h; cases h), fun _ => rfl, HBf⟩
   | some p =>
    obtain ⟨t0, r0⟩ := p
    obtain ⟨rfl, h1⟩ := hy t0 r0 hr
    have H3 := Aside0.mk h1
    have hrl := next_len HM.out (HRS.out.trans hr)
    have hPN : P = (Tk.pieces g1 false r0).map fun t => (L ++ [t0]) ++ t := by
     rw [HP1.out, HRS.out, hr]
     cases hq : Tk.pieces g1 false r0 with
     | none => simp [hq]
     | some t => simp [hq]
    have HPN := Aside0.mk hPN
    clear hy hn h1 hPN hr hfs hfs2
    go_wp2_with (fail)
    refine wp_goto (And.intro rfl ?_)
    refine hKs0 _ _ ?_
    go_roundg g1
    case measure => omega
    case rel => exact ⟨r0, L ++ [t0], false, by omega, ⟨by rw [eq_comm, decide_eq_false_iff_not]; omega⟩, ⟨by rw [List.length_append, List.length_singleton]; omega⟩, HPN, H3, B3⟩
set_option maxHeartbeats 4000000 in
set_option maxRecDepth 100000 in
theorem token_Split.big (l : List UInt8) (hl : 20000 < l.length) (hl2 : l.length ≤ 9223372036854775807) (w : World) :
 Calls Try.prog 14 #[.string (Tk.bs l)] w fun e w' => e = .returned (.tuple #[.slice none 0 0, .int .i64 3]) ∧ w = w' := by
 have hsz := bs_size l
 obtain ⟨s, hs⟩ : ∃ s, s = Tk.bs l := ⟨_, rfl⟩
 rw [← hs] at hsz ⊢
 have d1 : decide ((20000 : Int) < (s.size : Int)) = true := decide_eq_true (by omega)
 have d1' : decide (20000 < s.size) = true := decide_eq_true (by omega)
 clear hs hsz
 go_enter Try.func14, Try.ntmps14
 go_wp2
 refine wp_scope_loop 0 (by rfl) ?_
 go_wp2_with (fail)
 (try simp only [Exit.inBlock, Exit.then, jump_ret])
 go_ret2
 exact ⟨rfl, rfl⟩
set_option maxHeartbeats 4000000 in
set_option maxRecDepth 100000 in
theorem token_Split.bad (l : List UInt8) (hl : l.length ≤ 20000) (hbad : l.any badB = true) (w : World) (hG : Glob w) :
 Calls Try.prog 14 #[.string (Tk.bs l)] w fun e w' => e = .returned (.tuple #[.slice none 0 0, .int .i64 4]) ∧ Below w.heap.size w w' := by
 have hsz := bs_size l
 obtain ⟨s, hs⟩ : ∃ s, s = Tk.bs l := ⟨_, rfl⟩
 have d1 : decide ((20000 : Int) < (s.size : Int)) = false := decide_eq_false (by rw [hs, hsz]; omega)
 have d1' : decide (20000 < s.size) = false := decide_eq_false (by rw [hs, hsz]; omega)
 have kb := fun W => print_bytes (P := Try.prog) 9 48 5 Try.underlying9 Try.underlying48 Try.underlying5 s W
 have hr : Kd.C (Kd.int .u8) (Lib.bytesWorld w 5 s) (some ⟨w.heap.size, 0, none⟩) s.size (bytesOf s) := Kd.C_of_reads (enc := Value.int .u8) (d := (0 : Int)) (h1 := fun _ => rfl) (bytes_reads w 5 s (by rw [hs, hsz]; omega))
 have hb : Below w.heap.size w (Lib.bytesWorld w 5 s) := bytes_below (Below.refl _ _) (Nat.le_refl _) _ _
 have HSZ := Lib.hid (show s.size = l.length by rw [hs, hsz])
 have HS := Lib.hid hs
 have HBAD := Lib.hid hbad
 have HR := Aside0.mk hr
 have HBB := Aside0.mk hb
 have HG := Aside0.mk hG
 rw [← hs]
 clear hs hsz hr hb hG hbad
 go_enter Try.func14, Try.ntmps14
 go_wp2
 refine wp_scope_loop 0 (by rfl) ?_
 go_wp2_with (fail)
 have hC := HR.out
 rw [HSZ.out, HS.out] at hC
 rw [HSZ.out]
 refine (token_Split.has _ _ l _ (by rw [← HS.out] at hC ⊢; exact hC) (by omega) (HG.out.step HBB.out)).mono ?_
 rintro e wc ⟨rfl, b1⟩
 rw [HBAD.out]
 have HBC := Aside0.mk (HBB.out.trans (b1.mono HBB.out.size))
 clear b1 hC HBB HR kb d1 d1'
 go_wp2_with (fail)
 (try simp only [Exit.inBlock, Exit.then, jump_ret])
 go_ret2
 exact ⟨rfl, HBC.out⟩
theorem badB_eq (l : List UInt8) : l.any badB = l.any (fun c => !Tk.allowed c) := rfl
theorem token_Split.calls (a0 : ByteArray) (r1 : List S40) (r2 : Int) (w : World) (hG : Glob w) (h : token_Split.f a0 = some (r1, r2)) :
 Calls Try.prog 14 #[.string a0] w fun e w' => ∃ v0_ : Value, e = .returned (.tuple #[v0_, .int .i64 r2]) ∧ Kd.S k40 40 w' w.heap.size (fun _ => True) v0_ r1 ∧ Below w.heap.size w w' := by
 unfold token_Split.f at h
 have hl2 : a0.size ≤ 9223372036854775807 := by
  refine Classical.byContradiction fun hc => ?_
  rw [if_neg hc] at h
  cases h
 rw [if_pos hl2] at h
 have hx := Option.some.inj h
 rw [Lib.size_eq] at hl2
 have ha : a0 = Tk.bs a0.data.toList := (bs_data a0).symm
 rw [ha]
 rw [ha] at hx
 generalize a0.data.toList = l at *
 clear ha h
 have hx : Tk.split l = (r1, r2) := hx
 unfold Tk.split at hx
 by_cases hl : 20000 < l.length
 ·rw [if_pos hl] at hx
  obtain ⟨rfl, rfl⟩ := Prod.mk.inj hx
  refine (token_Split.big l hl hl2 w).mono ?_
  rintro e w' ⟨rfl, rfl⟩
  exact ⟨_, rfl, Kd.S_nil _ _ _ _ _, Below.refl _ _⟩
 ·rw [if_neg hl] at hx
  by_cases hb : l.any badB = true
  ·rw [if_pos (by rw [← badB_eq]; exact hb)] at hx
   obtain ⟨rfl, rfl⟩ := Prod.mk.inj hx
   refine (token_Split.bad l (by omega) hb w hG).mono ?_
   rintro e w' ⟨rfl, b⟩
   exact ⟨_, rfl, Kd.S_nil _ _ _ _ _, b⟩
  ·rw [if_neg (by rw [← badB_eq]; exact hb)] at hx
   refine (token_Split.loop l _ (by omega) (Bool.eq_false_iff.2 hb) rfl w hG).mono ?_
   rintro e w' ⟨hy, hn, b⟩
   cases hp : Tk.pieces (l.length + 1) true l with
   | none =>
    rw [hp] at hx
    obtain ⟨rfl, rfl⟩ := Prod.mk.inj hx
    exact ⟨_, hn hp, Kd.S_nil _ _ _ _ _, b⟩
   | some t =>
    rw [hp] at hx
    obtain ⟨rfl, rfl⟩ := Prod.mk.inj hx
    obtain ⟨v, he, hr⟩ := hy t hp
    exact ⟨v, he, hr, b⟩


end Go.Proofs.Ytkoogebfdinbnaa.Q

-- Printed by this session's wip/np.py over the kit's print program. Not trusted: Lean checks it.
namespace Go.Proofs.Ytkoogebfdinbnaa.Q
open Go.RowKit Go.Proofs.YtkoogebfdinbnaaW.PrintWords Go.Proofs.YtkoogebfdinbnaaW.PrintLast Go.Proofs.YtkoogebfdinbnaaW.Own Go.Proofs.YtkoogebfdinbnaaW.PrintMore
attribute [local go_sem] max2_int min2_int max_two min_two max_three min_three max_four min_four
set_option linter.unusedVariables false
set_option linter.unusedSimpArgs false

/-! ### element_Parse: function 9 -/
def element_Parse.f (a0 : ByteArray) : Option ((List (S29)) × Int) := (token_Split.f a0).bind fun bt114 => (if bt114.2 = 0 then ((element_Tree.f bt114.1).bind fun bt118 => (some (bt118.1, bt118.2))) else (some (([] : List (S29)), bt114.2)))
set_option maxHeartbeats 8000000 in
set_option maxRecDepth 100000 in
theorem element_Parse.calls (a0 : ByteArray) (r1 : List (S29)) (r2 : Int) (w : World) (hG : Glob w) (h : element_Parse.f a0 = some (r1, r2)) :
 Calls Try.prog 9 #[.string a0] w fun e w' => ∃ v0_ : Value, e = .returned (.tuple #[v0_, .int .i64 r2]) ∧ Kd.S k29 29 w' w.heap.size (fun _ => True) v0_ r1 ∧ Below w.heap.size w w' := by
 have HG := Aside0.mk hG
 clear hG
 have HB := Aside0.mk (Below.refl w.heap.size w)
 have H : ((token_Split.f a0).bind fun bt114 => (if bt114.2 = 0 then ((element_Tree.f bt114.1).bind fun bt118 => (some (bt118.1, bt118.2))) else (some (([] : List (S29)), bt114.2)))) = some (r1, r2) := h
 clear h
 replace H := Option.bind_eq_some_iff.mp H
 obtain ⟨⟨t114, t115⟩, A20, H⟩ := H
 replace H : (if t115 = 0 then ((element_Tree.f t114).bind fun bt118 => (some (bt118.1, bt118.2))) else (some (([] : List (S29)), t115))) = some (r1, r2) := H
 have A2 := Aside0.mk A20
 clear A20
 by_cases c3 : t115 = 0
 ·rw [if_pos c3] at H
  have c3b0 : (t115 == 0) = true := beq_iff_eq.mpr c3
  have c3b1 : (t115 != 0) = false := bne_eq_false_iff_eq.mpr c3
  clear c3
  replace H := Option.bind_eq_some_iff.mp H
  obtain ⟨⟨t118, t119⟩, A40, H⟩ := H
  replace H : (some (t118, t119)) = some (r1, r2) := H
  have A4 := Aside0.mk A40
  clear A40
  simp only [Option.some.injEq, Prod.mk.injEq] at H
  obtain ⟨rfl, rfl⟩ := H
  go_enter Try.func9, Try.ntmps9
  go_wp2_with (first | ((with_reducible refine gate_callee (f := 14) rfl ?_); refine goesL_ (some 8) rfl rfl Try.func14 (by kernel_rfl) rfl #[.string a0] rfl (by (try simp only [List.map_toArray, List.map_cons, List.map_nil]); first | done | rfl | (simp only [List.length_drop, List.length_take]; rfl)) ?_; (with_reducible refine (token_Split.calls a0 t114 t115 _ ?side1 A2.out).mono ?_); (case side1 => exact Glob.step HG.out (by repeat (first | (with_reducible first | exact HB.out | apply below_alloc | apply pw_below_drewN | apply below_drew1) | exact HB.out))); rintro e w5 ⟨v116, rfl, ho0, hb⟩; refine ⟨_, rfl, ?_⟩; have n0_ := Aside0.mk (Kd.S_lower ho0 (below_size (by repeat (first | (with_reducible first | exact HB.out | apply below_alloc | apply pw_below_drewN | apply below_drew1) | exact HB.out)))); have n1_ := Aside0.mk (below_step (by repeat (first | (with_reducible first | exact HB.out | apply below_alloc | apply pw_below_drewN | apply below_drew1) | exact HB.out)) hb); clear HB; have HO117 := n0_; have HB := n1_; clear n0_ n1_; (try clear hb); (try clear hb2); (try clear hk); (try clear hi); (try clear ho0); obtain ⟨Ao6, co6, eo6⟩ := Kd.S_slice HO117.out; subst eo6) | ((with_reducible refine gate_callee (f := 13) rfl ?_); refine goesL_ (some 15) rfl rfl Try.func13 (by kernel_rfl) rfl #[.slice Ao6 t114.length co6] rfl (by (try simp only [List.map_toArray, List.map_cons, List.map_nil]); first | done | rfl | (simp only [List.length_drop, List.length_take]; rfl)) ?_; (with_reducible refine (element_Tree.calls _ _ t114 t118 t119 _ ?side1 ?side2 ?side3 A4.out).mono ?_); (case side1 => repeat (first | exact (Kd.S_reads' HO117.out).2.2 | (with_reducible refine Kd.C_alloc ?_ _) | (with_reducible refine Kd.C_drewN ?_ _) | (with_reducible refine Kd.C_drew ?_))); (case side2 => exact (Kd.S_reads' HO117.out).2.1); (case side3 => exact Glob.step HG.out (by repeat (first | (with_reducible first | exact HB.out | apply below_alloc | apply pw_below_drewN | apply below_drew1) | exact HB.out))); rintro e w7 ⟨v120, rfl, ho0, hb⟩; refine ⟨_, rfl, ?_⟩; have n0_ := Aside0.mk (Kd.S_below (by (with_reducible repeat (first | apply Kd.S_alloc | apply Kd.S_drewN | apply Kd.S_drew)); exact HO117.out) hb); have n1_ := Aside0.mk (Kd.S_lower ho0 (below_size (by repeat (first | (with_reducible first | exact HB.out | apply below_alloc | apply pw_below_drewN | apply below_drew1) | exact HB.out)))); have n2_ := Aside0.mk (below_step (by repeat (first | (with_reducible first | exact HB.out | apply below_alloc | apply pw_below_drewN | apply below_drew1) | exact HB.out)) hb); clear HO117; clear HB; have HO117 := n0_; have HO121 := n1_; have HB := n2_; clear n0_ n1_ n2_; (try clear hb); (try clear hb2); (try clear hk); (try clear hi); (try clear ho0)))
  go_ret2
  exact ⟨_, by first | rfl | (simp [errW_none, errW_some] <;> rfl) | (simp [*, errW_none, errW_some] <;> rfl), by (with_reducible repeat (first | apply Kd.S_alloc | apply Kd.S_drewN | apply Kd.S_drew)); exact HO121.out, by repeat (first | (with_reducible first | exact HB.out | apply below_alloc | apply pw_below_drewN | apply below_drew1) | exact HB.out)⟩
 ·rw [if_neg c3] at H
  have c3b0 : (t115 == 0) = false := beq_eq_false_iff_ne.mpr c3
  have c3b1 : (t115 != 0) = true := bne_iff_ne.mpr c3
  simp only [Option.some.injEq, Prod.mk.injEq] at H
  obtain ⟨rfl, rfl⟩ := H
  go_enter Try.func9, Try.ntmps9
  go_wp2_with (first | ((with_reducible refine gate_callee (f := 14) rfl ?_); refine goesL_ (some 8) rfl rfl Try.func14 (by kernel_rfl) rfl #[.string a0] rfl (by (try simp only [List.map_toArray, List.map_cons, List.map_nil]); first | done | rfl | (simp only [List.length_drop, List.length_take]; rfl)) ?_; (with_reducible refine (token_Split.calls a0 t114 t115 _ ?side1 A2.out).mono ?_); (case side1 => exact Glob.step HG.out (by repeat (first | (with_reducible first | exact HB.out | apply below_alloc | apply pw_below_drewN | apply below_drew1) | exact HB.out))); rintro e w8 ⟨v116, rfl, ho0, hb⟩; refine ⟨_, rfl, ?_⟩; have n0_ := Aside0.mk (Kd.S_lower ho0 (below_size (by repeat (first | (with_reducible first | exact HB.out | apply below_alloc | apply pw_below_drewN | apply below_drew1) | exact HB.out)))); have n1_ := Aside0.mk (below_step (by repeat (first | (with_reducible first | exact HB.out | apply below_alloc | apply pw_below_drewN | apply below_drew1) | exact HB.out)) hb); clear HB; have HO117 := n0_; have HB := n1_; clear n0_ n1_; (try clear hb); (try clear hb2); (try clear hk); (try clear hi); (try clear ho0)))
  go_ret2
  exact ⟨_, by first | rfl | (simp [errW_none, errW_some] <;> rfl) | (simp [*, errW_none, errW_some] <;> rfl), by first | exact Kd.S_nil _ _ _ _ _ | exact Kd.N_nil _ _ _ _ _ | exact Kd.V_nil _ _ _ _ _ | exact Kd.Q_nil _ _ _ _ _ | exact Kd.R_nil _ _ _ _ _, by repeat (first | (with_reducible first | exact HB.out | apply below_alloc | apply pw_below_drewN | apply below_drew1) | exact HB.out)⟩

end Go.Proofs.Ytkoogebfdinbnaa.Q

-- Printed by this session's wip/np.py over the kit's print program. Not trusted: Lean checks it.
namespace Go.Proofs.Ytkoogebfdinbnaa.Q
open Go.RowKit Go.Proofs.YtkoogebfdinbnaaW.PrintWords Go.Proofs.YtkoogebfdinbnaaW.PrintLast Go.Proofs.YtkoogebfdinbnaaW.Own Go.Proofs.YtkoogebfdinbnaaW.PrintMore
attribute [local go_sem] max2_int min2_int max_two min_two max_three min_three max_four min_four
set_option linter.unusedVariables false
set_option linter.unusedSimpArgs false

/-! ### newellaw03_awake: function 8 -/
def newellaw03_awake.f (k : Nat)  : Option (Bool) := (element_Parse.f (⟨#[60, 97, 62, 120, 60, 47, 97, 62]⟩ : ByteArray)).bind fun bt127 => (if bt127.2 = 0 then (if (bt127.1.length : Int) = 2 then (if 1 < (bt127.1.length : Int) then (if ((rd_T29 bt127.1 1).f2).toList = ([120] : List UInt8) then ((element_Inner.f k bt127.1 0).bind fun t132 => (some (t132.toList == ([120] : List UInt8)))) else (some false)) else (none)) else (some false)) else (some false))
theorem newellaw03_awake.mono : ∀ k, LeO (newellaw03_awake.f k ) (newellaw03_awake.f (k + 1) ) := by
 intro  k
 unfold newellaw03_awake.f
 repeat' first
  | (with_reducible exact element_Inner.mono _ _ _)
  | (with_reducible exact LeO.refl _)
  | (with_reducible exact LeO.none _)
  | (with_reducible refine LeO.ite ?_ ?_)
  | (with_reducible refine LeO.bind ?_ (fun _ => ?_))
  | exact element_Inner.mono _ _ _
  | exact LeO.none _
  | refine LeO.ite ?_ ?_
  | refine LeO.bind ?_ (fun _ => ?_)
set_option maxHeartbeats 8000000 in
set_option maxRecDepth 100000 in
theorem newellaw03_awake.calls (k : Nat)  (r : Bool) (w : World) (hG : Glob w) (h : newellaw03_awake.f k  = some r) :
 Calls Try.prog 8 #[] w fun e w' => e = .returned (.bool r) ∧ Below w.heap.size w w' := by
 have HG := Aside0.mk hG
 clear hG
 have HB := Aside0.mk (Below.refl w.heap.size w)
 have H : ((element_Parse.f (⟨#[60, 97, 62, 120, 60, 47, 97, 62]⟩ : ByteArray)).bind fun bt127 => (if bt127.2 = 0 then (if (bt127.1.length : Int) = 2 then (if 1 < (bt127.1.length : Int) then (if ((rd_T29 bt127.1 1).f2).toList = ([120] : List UInt8) then ((element_Inner.f k bt127.1 0).bind fun t132 => (some (t132.toList == ([120] : List UInt8)))) else (some false)) else (none)) else (some false)) else (some false))) = some r := h
 clear h
 replace H := Option.bind_eq_some_iff.mp H
 obtain ⟨⟨t127, t128⟩, A10, H⟩ := H
 replace H : (if t128 = 0 then (if (t127.length : Int) = 2 then (if 1 < (t127.length : Int) then (if ((rd_T29 t127 1).f2).toList = ([120] : List UInt8) then ((element_Inner.f k t127 0).bind fun t132 => (some (t132.toList == ([120] : List UInt8)))) else (some false)) else (none)) else (some false)) else (some false)) = some r := H
 have A1 := Aside0.mk A10
 clear A10
 by_cases c2 : t128 = 0
 ·rw [if_pos c2] at H
  have c2b0 : (t128 == 0) = true := beq_iff_eq.mpr c2
  have c2b1 : (t128 != 0) = false := bne_eq_false_iff_eq.mpr c2
  clear c2
  by_cases c3 : (t127.length : Int) = 2
  ·rw [if_pos c3] at H
   have c3b0 : ((t127.length : Int) == 2) = true := beq_iff_eq.mpr c3
   have c3b1 : ((t127.length : Int) != 2) = false := bne_eq_false_iff_eq.mpr c3
   clear c3
   by_cases c4 : 1 < (t127.length : Int)
   ·rw [if_pos c4] at H
    have c4b0 : decide (1 < (t127.length : Int)) = true := decide_eq_true c4
    have c4b1 : decide (1 < t127.length) = true := decide_eq_true (by omega)
    clear c4
    by_cases c5 : ((rd_T29 t127 1).f2).toList = ([120] : List UInt8)
    ·rw [if_pos c5] at H
     have c5b0 : (((rd_T29 t127 1).f2).toList == ([120] : List UInt8)) = true := beq_iff_eq.mpr c5
     have c5b1 : (((rd_T29 t127 1).f2).toList != ([120] : List UInt8)) = false := bne_eq_false_iff_eq.mpr c5
     clear c5
     replace H := Option.bind_eq_some_iff.mp H
     obtain ⟨t132, A60, H⟩ := H
     replace H : (some (t132.toList == ([120] : List UInt8))) = some r := H
     have A6 := Aside0.mk A60
     clear A60
     obtain rfl := Option.some.inj H
     go_enter Try.func8, Try.ntmps8
     go_wp2_with (first | ((with_reducible refine gate_callee (f := 9) rfl ?_); refine goesL_ (some 4) rfl rfl Try.func9 (by kernel_rfl) rfl #[.string (⟨#[60, 97, 62, 120, 60, 47, 97, 62]⟩ : ByteArray)] rfl (by (try simp only [List.map_toArray, List.map_cons, List.map_nil]); first | done | rfl | (simp only [List.length_drop, List.length_take]; rfl)) ?_; (with_reducible refine (element_Parse.calls (⟨#[60, 97, 62, 120, 60, 47, 97, 62]⟩ : ByteArray) t127 t128 _ ?side1 A1.out).mono ?_); (case side1 => exact Glob.step HG.out (by repeat (first | (with_reducible first | exact HB.out | apply below_alloc | apply pw_below_drewN | apply below_drew1) | exact HB.out))); rintro e w7 ⟨v129, rfl, ho0, hb⟩; refine ⟨_, rfl, ?_⟩; have n0_ := Aside0.mk (Kd.S_lower ho0 (below_size (by repeat (first | (with_reducible first | exact HB.out | apply below_alloc | apply pw_below_drewN | apply below_drew1) | exact HB.out)))); have n1_ := Aside0.mk (below_step (by repeat (first | (with_reducible first | exact HB.out | apply below_alloc | apply pw_below_drewN | apply below_drew1) | exact HB.out)) hb); clear HB; have HO130 := n0_; have HB := n1_; clear n0_ n1_; (try clear hb); (try clear hb2); (try clear hk); (try clear hi); (try clear ho0); obtain ⟨Ao8, co8, eo8⟩ := Kd.S_slice HO130.out; subst eo8; have p131 : 0 ≤ (1 : Int) := (by omega); have q131 : 1 < (t127.length : Int) := of_decide_eq_true (by first | (with_reducible assumption) | assumption); obtain ⟨ad131, A131_3, c131_3, e131, hx131_0, hx131_1, hx131_2, hx131_3, hl131_3, hi131_3⟩ := at_T29 (Kd.S_reads' HO130.out).2.2 1 p131 q131; cases e131; obtain ⟨ce131, hce131, hMe131, hcc131⟩ := Kd.S_get HO130.out z29 1 p131 (by first | exact q131 | exact of_decide_eq_true (by first | (with_reducible assumption) | assumption) | (have e_ := (Kd.S_reads' HO130.out).1; omega)); obtain ⟨ve131_3, rfl, ge131_3⟩ := k29_openM hMe131; have hv131_3 := hcc131 3 _ rfl; rw [add_field _ _ 3 (by omega)] at hv131_3; replace hv131_3 := Option.some.inj (hv131_3.symm.trans hx131_3); rw [hv131_3] at ge131_3; have HL131_3 := Aside0.mk (show Kd.R k68 68 _ _ _ _ ((rd_T29 t127 1).f3) from ge131_3); clear hv131_3 ge131_3; clear hcc131 hce131; (try simp only [show (1 : Int).toNat = 1 from rfl, Nat.reduceMul, Nat.reduceEqDiff, Go.Addr.add, ↓reduceIte] at hx131_0); (try simp only [show (1 : Int).toNat = 1 from rfl, Nat.reduceMul, Nat.reduceEqDiff, Go.Addr.add, ↓reduceIte] at hx131_1); (try simp only [show (1 : Int).toNat = 1 from rfl, Nat.reduceMul, Nat.reduceEqDiff, Go.Addr.add, ↓reduceIte] at hx131_2); (try simp only [show (1 : Int).toNat = 1 from rfl, Nat.reduceMul, Nat.reduceEqDiff, Go.Addr.add, ↓reduceIte] at hx131_3); have qi131 : (1 < t127.length) = True := eq_true (by omega); (try rw [show ((1 : Int)).toNat = 1 from rfl] at hx131_0); (try rw [show 1 * 4 = 4 from rfl] at hx131_0); (try rw [show ((1 : Int)).toNat = 1 from rfl] at hx131_1); (try rw [show 1 * 4 = 4 from rfl] at hx131_1); (try rw [show ((1 : Int)).toNat = 1 from rfl] at hx131_2); (try rw [show 1 * 4 = 4 from rfl] at hx131_2); (try rw [show ((1 : Int)).toNat = 1 from rfl] at hx131_3); (try rw [show 1 * 4 = 4 from rfl] at hx131_3); have HR131_3 := Aside0.mk hi131_3; have HC131_3 := Aside0.mk hl131_3; clear hi131_3 hl131_3; replace p131 := eq_true p131; replace q131 := eq_true q131) | (go_at_call 12; (with_reducible refine (element_Inner.calls k _ _ t127 0 t132 _ ?side1 ?side2 ?side3 A6.out).mono ?_); (case side1 => repeat (first | exact (Kd.S_reads' HO130.out).2.2 | (with_reducible refine Kd.C_alloc ?_ _) | (with_reducible refine Kd.C_drewN ?_ _) | (with_reducible refine Kd.C_drew ?_))); (case side2 => exact (Kd.S_reads' HO130.out).2.1); (case side3 => exact Glob.step HG.out (by repeat (first | (with_reducible first | exact HB.out | apply below_alloc | apply pw_below_drewN | apply below_drew1) | exact HB.out))); rintro e w9 ⟨rfl, hb⟩; have n0_ := Aside0.mk (Kd.S_below (by (with_reducible repeat (first | apply Kd.S_alloc | apply Kd.S_drewN | apply Kd.S_drew)); exact HO130.out) hb); have n1_ := Aside0.mk (Kd.R_below (by (with_reducible repeat (first | apply Kd.R_alloc | apply Kd.R_drewN | apply Kd.R_drew)); exact HL131_3.out) hb); have n2_ := Aside0.mk (Kd.C_below (by repeat (first | (with_reducible exact HR131_3.out) | (with_reducible refine Kd.C_alloc ?_ _) | (with_reducible refine Kd.C_drewN ?_ _) | (with_reducible refine Kd.C_drew ?_) | exact HR131_3.out)) hb); have n3_ := Aside0.mk (below_step (by repeat (first | (with_reducible first | exact HB.out | apply below_alloc | apply pw_below_drewN | apply below_drew1) | exact HB.out)) hb); clear HO130; clear HL131_3; clear HR131_3; clear HB; have HO130 := n0_; have HL131_3 := n1_; have HR131_3 := n2_; have HB := n3_; clear n0_ n1_ n2_ n3_; (try clear hb); (try clear hb2); (try clear hk); (try clear hi)))
     go_ret
     exact ⟨by first | rfl | (simp [errW_none, errW_some] <;> rfl) | (simp [*, errW_none, errW_some] <;> rfl), by repeat (first | (with_reducible first | exact HB.out | apply below_alloc | apply pw_below_drewN | apply below_drew1) | exact HB.out)⟩
    ·rw [if_neg c5] at H
     have c5b0 : (((rd_T29 t127 1).f2).toList == ([120] : List UInt8)) = false := beq_eq_false_iff_ne.mpr c5
     have c5b1 : (((rd_T29 t127 1).f2).toList != ([120] : List UInt8)) = true := bne_iff_ne.mpr c5
     obtain rfl := Option.some.inj H
     go_enter Try.func8, Try.ntmps8
     go_wp2_with (first | ((with_reducible refine gate_callee (f := 9) rfl ?_); refine goesL_ (some 4) rfl rfl Try.func9 (by kernel_rfl) rfl #[.string (⟨#[60, 97, 62, 120, 60, 47, 97, 62]⟩ : ByteArray)] rfl (by (try simp only [List.map_toArray, List.map_cons, List.map_nil]); first | done | rfl | (simp only [List.length_drop, List.length_take]; rfl)) ?_; (with_reducible refine (element_Parse.calls (⟨#[60, 97, 62, 120, 60, 47, 97, 62]⟩ : ByteArray) t127 t128 _ ?side1 A1.out).mono ?_); (case side1 => exact Glob.step HG.out (by repeat (first | (with_reducible first | exact HB.out | apply below_alloc | apply pw_below_drewN | apply below_drew1) | exact HB.out))); rintro e w10 ⟨v129, rfl, ho0, hb⟩; refine ⟨_, rfl, ?_⟩; have n0_ := Aside0.mk (Kd.S_lower ho0 (below_size (by repeat (first | (with_reducible first | exact HB.out | apply below_alloc | apply pw_below_drewN | apply below_drew1) | exact HB.out)))); have n1_ := Aside0.mk (below_step (by repeat (first | (with_reducible first | exact HB.out | apply below_alloc | apply pw_below_drewN | apply below_drew1) | exact HB.out)) hb); clear HB; have HO130 := n0_; have HB := n1_; clear n0_ n1_; (try clear hb); (try clear hb2); (try clear hk); (try clear hi); (try clear ho0); obtain ⟨Ao11, co11, eo11⟩ := Kd.S_slice HO130.out; subst eo11; have p131 : 0 ≤ (1 : Int) := (by omega); have q131 : 1 < (t127.length : Int) := of_decide_eq_true (by first | (with_reducible assumption) | assumption); obtain ⟨ad131, A131_3, c131_3, e131, hx131_0, hx131_1, hx131_2, hx131_3, hl131_3, hi131_3⟩ := at_T29 (Kd.S_reads' HO130.out).2.2 1 p131 q131; cases e131; obtain ⟨ce131, hce131, hMe131, hcc131⟩ := Kd.S_get HO130.out z29 1 p131 (by first | exact q131 | exact of_decide_eq_true (by first | (with_reducible assumption) | assumption) | (have e_ := (Kd.S_reads' HO130.out).1; omega)); obtain ⟨ve131_3, rfl, ge131_3⟩ := k29_openM hMe131; have hv131_3 := hcc131 3 _ rfl; rw [add_field _ _ 3 (by omega)] at hv131_3; replace hv131_3 := Option.some.inj (hv131_3.symm.trans hx131_3); rw [hv131_3] at ge131_3; have HL131_3 := Aside0.mk (show Kd.R k68 68 _ _ _ _ ((rd_T29 t127 1).f3) from ge131_3); clear hv131_3 ge131_3; clear hcc131 hce131; (try simp only [show (1 : Int).toNat = 1 from rfl, Nat.reduceMul, Nat.reduceEqDiff, Go.Addr.add, ↓reduceIte] at hx131_0); (try simp only [show (1 : Int).toNat = 1 from rfl, Nat.reduceMul, Nat.reduceEqDiff, Go.Addr.add, ↓reduceIte] at hx131_1); (try simp only [show (1 : Int).toNat = 1 from rfl, Nat.reduceMul, Nat.reduceEqDiff, Go.Addr.add, ↓reduceIte] at hx131_2); (try simp only [show (1 : Int).toNat = 1 from rfl, Nat.reduceMul, Nat.reduceEqDiff, Go.Addr.add, ↓reduceIte] at hx131_3); have qi131 : (1 < t127.length) = True := eq_true (by omega); (try rw [show ((1 : Int)).toNat = 1 from rfl] at hx131_0); (try rw [show 1 * 4 = 4 from rfl] at hx131_0); (try rw [show ((1 : Int)).toNat = 1 from rfl] at hx131_1); (try rw [show 1 * 4 = 4 from rfl] at hx131_1); (try rw [show ((1 : Int)).toNat = 1 from rfl] at hx131_2); (try rw [show 1 * 4 = 4 from rfl] at hx131_2); (try rw [show ((1 : Int)).toNat = 1 from rfl] at hx131_3); (try rw [show 1 * 4 = 4 from rfl] at hx131_3); have HR131_3 := Aside0.mk hi131_3; have HC131_3 := Aside0.mk hl131_3; clear hi131_3 hl131_3; replace p131 := eq_true p131; replace q131 := eq_true q131))
     go_ret
     exact ⟨by first | rfl | (simp [errW_none, errW_some] <;> rfl) | (simp [*, errW_none, errW_some] <;> rfl), by repeat (first | (with_reducible first | exact HB.out | apply below_alloc | apply pw_below_drewN | apply below_drew1) | exact HB.out)⟩
   ·rw [if_neg c4] at H
    exact absurd H (by simp)
  ·rw [if_neg c3] at H
   have c3b0 : ((t127.length : Int) == 2) = false := beq_eq_false_iff_ne.mpr c3
   have c3b1 : ((t127.length : Int) != 2) = true := bne_iff_ne.mpr c3
   obtain rfl := Option.some.inj H
   go_enter Try.func8, Try.ntmps8
   go_wp2_with (first | ((with_reducible refine gate_callee (f := 9) rfl ?_); refine goesL_ (some 4) rfl rfl Try.func9 (by kernel_rfl) rfl #[.string (⟨#[60, 97, 62, 120, 60, 47, 97, 62]⟩ : ByteArray)] rfl (by (try simp only [List.map_toArray, List.map_cons, List.map_nil]); first | done | rfl | (simp only [List.length_drop, List.length_take]; rfl)) ?_; (with_reducible refine (element_Parse.calls (⟨#[60, 97, 62, 120, 60, 47, 97, 62]⟩ : ByteArray) t127 t128 _ ?side1 A1.out).mono ?_); (case side1 => exact Glob.step HG.out (by repeat (first | (with_reducible first | exact HB.out | apply below_alloc | apply pw_below_drewN | apply below_drew1) | exact HB.out))); rintro e w12 ⟨v129, rfl, ho0, hb⟩; refine ⟨_, rfl, ?_⟩; have n0_ := Aside0.mk (Kd.S_lower ho0 (below_size (by repeat (first | (with_reducible first | exact HB.out | apply below_alloc | apply pw_below_drewN | apply below_drew1) | exact HB.out)))); have n1_ := Aside0.mk (below_step (by repeat (first | (with_reducible first | exact HB.out | apply below_alloc | apply pw_below_drewN | apply below_drew1) | exact HB.out)) hb); clear HB; have HO130 := n0_; have HB := n1_; clear n0_ n1_; (try clear hb); (try clear hb2); (try clear hk); (try clear hi); (try clear ho0); obtain ⟨Ao13, co13, eo13⟩ := Kd.S_slice HO130.out; subst eo13))
   go_ret
   exact ⟨by first | rfl | (simp [errW_none, errW_some] <;> rfl) | (simp [*, errW_none, errW_some] <;> rfl), by repeat (first | (with_reducible first | exact HB.out | apply below_alloc | apply pw_below_drewN | apply below_drew1) | exact HB.out)⟩
 ·rw [if_neg c2] at H
  have c2b0 : (t128 == 0) = false := beq_eq_false_iff_ne.mpr c2
  have c2b1 : (t128 != 0) = true := bne_iff_ne.mpr c2
  obtain rfl := Option.some.inj H
  go_enter Try.func8, Try.ntmps8
  go_wp2_with (first | ((with_reducible refine gate_callee (f := 9) rfl ?_); refine goesL_ (some 4) rfl rfl Try.func9 (by kernel_rfl) rfl #[.string (⟨#[60, 97, 62, 120, 60, 47, 97, 62]⟩ : ByteArray)] rfl (by (try simp only [List.map_toArray, List.map_cons, List.map_nil]); first | done | rfl | (simp only [List.length_drop, List.length_take]; rfl)) ?_; (with_reducible refine (element_Parse.calls (⟨#[60, 97, 62, 120, 60, 47, 97, 62]⟩ : ByteArray) t127 t128 _ ?side1 A1.out).mono ?_); (case side1 => exact Glob.step HG.out (by repeat (first | (with_reducible first | exact HB.out | apply below_alloc | apply pw_below_drewN | apply below_drew1) | exact HB.out))); rintro e w14 ⟨v129, rfl, ho0, hb⟩; refine ⟨_, rfl, ?_⟩; have n0_ := Aside0.mk (Kd.S_lower ho0 (below_size (by repeat (first | (with_reducible first | exact HB.out | apply below_alloc | apply pw_below_drewN | apply below_drew1) | exact HB.out)))); have n1_ := Aside0.mk (below_step (by repeat (first | (with_reducible first | exact HB.out | apply below_alloc | apply pw_below_drewN | apply below_drew1) | exact HB.out)) hb); clear HB; have HO130 := n0_; have HB := n1_; clear n0_ n1_; (try clear hb); (try clear hb2); (try clear hk); (try clear hi); (try clear ho0)))
  go_ret
  exact ⟨by first | rfl | (simp [errW_none, errW_some] <;> rfl) | (simp [*, errW_none, errW_some] <;> rfl), by repeat (first | (with_reducible first | exact HB.out | apply below_alloc | apply pw_below_drewN | apply below_drew1) | exact HB.out)⟩

end Go.Proofs.Ytkoogebfdinbnaa.Q
