-- Printed by this session's wip/np.py over the kit's print program. Not trusted: Lean checks it.
import Derived.Test.YtmpdpfojiepdkaaQ0
import Derived.Test.YtmpdpfojiepdkaaShelf
import Derived.Lib.OthersKept
import Derived.Lib.Hide
import Derived.LoopN
import Derived.Lib.IndexAny
import Derived.Lib.IndexBytes
import Derived.Laws.RangeString
import Derived.Laws.Strings3
import Derived.Laws.Runes
import Derived.Lib.DecodeN
import Derived.Shelf.Strings.IndexAny
namespace Go.Proofs.Ytmpdpfojiepdkaa.Q
open Go.RowKit Go.Proofs.YtmpdpfojiepdkaaW.PrintWords Go.Proofs.YtmpdpfojiepdkaaW.PrintLast Go.Proofs.YtmpdpfojiepdkaaW.Own Go.Proofs.YtmpdpfojiepdkaaW.PrintMore
attribute [local go_sem] max2_int min2_int max_two min_two max_three min_three max_four min_four   -- for this text's walks alone
set_option linter.unusedVariables false
set_option linter.unusedSimpArgs false

/-! ### strings_ContainsAny: function 38 -/
namespace ContainsAny
open Go Go.RowKit Go.Lib
/-- What 'range' reads at a byte of 128 or more: a rune from 128 on, in bytes from 128 on. -/
theorem dec_hi (s : ByteArray) (i : Nat) (h : i < s.size) (hx : 128 ≤ (s.get! i).toNat) :
    1 ≤ (Utf8.decode s i).2 ∧ i + (Utf8.decode s i).2 ≤ s.size ∧ 128 ≤ (Utf8.decode s i).1 ∧ (Utf8.decode s i).1 ≤ 1114111 ∧ ∀ j, j < (Utf8.decode s i).2 → 128 ≤ (s.get! (i + j)).toNat := by
  have k0 : ∀ j, j < 1 → 128 ≤ (s.get! (i + j)).toNat := fun j hj => by
    obtain rfl : j = 0 := by omega
    exact hx
  have bad : 1 ≤ (Utf8.runeError, 1).2 ∧ i + (Utf8.runeError, 1).2 ≤ s.size ∧ 128 ≤ (Utf8.runeError, 1).1 ∧ (Utf8.runeError, 1).1 ≤ 1114111 ∧ ∀ j, j < (Utf8.runeError, 1).2 → 128 ≤ (s.get! (i + j)).toNat := ⟨Nat.le_refl _, h, by decide, by decide, k0⟩
  have hb : ∀ k, (s.get! (i + k)).toNat < 256 := fun k => UInt8.toNat_lt _
  unfold Utf8.decode
  simp only [Nat.add_zero]
  rw [if_neg (by omega)]
  have c1 : ∀ k, (decide (i + k < s.size) && (s.get! (i + k)).toNat / 64 == 2) = true → i + k < s.size ∧ 128 ≤ (s.get! (i + k)).toNat := fun k hk => by
    simp only [Bool.and_eq_true, decide_eq_true_eq, beq_iff_eq] at hk
    exact ⟨hk.1, by omega⟩
  split
  · rename_i h2
    simp only [Bool.and_eq_true] at h2
    obtain ⟨h21, h22⟩ := h2
    have d1 := c1 1 (by simpa using h22)
    have h21 : (s.get! i).toNat / 32 = 6 := by simpa using h21
    have b0 := hb 0; simp only [Nat.add_zero] at b0
    split
    · rename_i h3
      refine ⟨by show 1 ≤ 2; omega, by show i + 2 ≤ _; omega, by show 128 ≤ _; omega, by show _ ≤ 1114111; omega, fun j hj => ?_⟩
      have hj : j < 2 := hj
      rcases (by omega : j = 0 ∨ j = 1) with rfl | rfl
      · exact hx
      · exact d1.2
    · exact bad
  · split
    · rename_i h2
      simp only [Bool.and_eq_true] at h2
      obtain ⟨⟨h21, h22⟩, h23⟩ := h2
      have d1 := c1 1 (by simpa using h22)
      have d2 := c1 2 (by simpa using h23)
      have h21 : (s.get! i).toNat / 16 = 14 := by simpa using h21
      split
      · rename_i h3
        simp only [Bool.and_eq_true, decide_eq_true_eq] at h3
        refine ⟨by show 1 ≤ 3; omega, by show i + 3 ≤ _; omega, by show 128 ≤ _; omega, by show _ ≤ 1114111; omega, fun j hj => ?_⟩
        have hj : j < 3 := hj
        rcases (by omega : j = 0 ∨ j = 1 ∨ j = 2) with rfl | rfl | rfl
        · exact hx
        · exact d1.2
        · exact d2.2
      · exact bad
    · split
      · rename_i h2
        simp only [Bool.and_eq_true] at h2
        obtain ⟨⟨⟨h21, h22⟩, h23⟩, h24⟩ := h2
        have d1 := c1 1 (by simpa using h22)
        have d2 := c1 2 (by simpa using h23)
        have d3 := c1 3 (by simpa using h24)
        split
        · rename_i h3
          simp only [Bool.and_eq_true, decide_eq_true_eq] at h3
          have hv := h3.2
          refine ⟨by show 1 ≤ 4; omega, by show i + 4 ≤ _; omega, by show 128 ≤ _; omega, ?_, fun j hj => ?_⟩
          · simp only [Utf8.valid] at hv
            show _ ≤ 1114111
            simp at hv
            omega
          · have hj : j < 4 := hj
            rcases (by omega : j = 0 ∨ j = 1 ∨ j = 2 ∨ j = 3) with rfl | rfl | rfl | rfl
            · exact hx
            · exact d1.2
            · exact d2.2
            · exact d3.2
        · exact bad
      · exact bad
theorem run_next_at {P : Program} (w : World) (s : ByteArray) (pos : Nat) (ty : TypeId) (h : pos < s.size) :
    (Instr.next (.pointer (some ⟨w.heap.size, 0, none⟩)) true ty).run P (w.iter s pos) =
      .ok (.tuple #[.bool true, .int .i64 pos, .int .i32 (Utf8.decode s pos).1]) (w.iter s (pos + (Utf8.decode s pos).2)) := by
  simp only [Instr.next, getObj, setObj, Sem.run_bind, Sem.run, World.iter_heap, Result.andThen, h, if_true, World.iter_set]
  simp [goInt]
theorem get_data (s : ByteArray) (i : Nat) (h : i < s.size) : s.data.toList[i]? = some (s.get! i) := by
  have h1 : i < s.data.size := h
  have h2 : s.get! i = s.data[i] := by
    show s.data[i]! = _
    rw [getElem!_pos s.data i h1]
  rw [h2, List.getElem?_eq_getElem (by simpa using h1)]
  simp
theorem indexByte_none (l : List UInt8) (c : UInt8) (h : ∀ b ∈ l, b ≠ c) : Lib.indexByte l c = -1 := by
  rcases Int.lt_or_le (Lib.indexByte l c) 0 with h0 | h0
  · have := Lib.indexByte_ge l c
    omega
  · exfalso
    have := Lib.contains_iff_indexByte l c
    rw [decide_eq_true h0] at this
    exact h c (by simpa using this) rfl
set_option maxHeartbeats 8000000 in
set_option maxRecDepth 1000000 in
/-- A rune from 128 on is in no text of ASCII bytes. -/
theorem indexRune_hi (s : ByteArray) (r : Int) (w : World) (h0 : 128 ≤ r) (h1 : r ≤ 1114111) (hs : s.size < 4294967281) (hascii : ∀ (j : Nat) b, s.data.toList[j]? = some b → b.toNat < 128) :
    Calls Try.prog 66 #[.string s, .int .i32 r] w fun e w' => e = .returned (.int .i64 (-1)) ∧ Below w.heap.size w w' := by
  have HA : Aside (∀ (j : Nat) b, s.data.toList[j]? = some b → b.toNat < 128) := hascii
  clear hascii
  have n128 : decide (r < 128) = false := decide_eq_false (by omega)
  have p0 : decide (0 ≤ r) = true := decide_eq_true (by omega)
  by_cases hE : r = 65533
  · subst hE
    go_enter Try.func66, Try.ntmps66
    go_wp2
    go_loopg [] s.size (fun g wx => ∃ i : Nat, i + g = s.size ∧ wx = w.iter s i)
    case atStart => exact ⟨0, by omega, rfl⟩
    case round =>
      obtain ⟨i, hig, rfl⟩ := hrel
      cases gk with
      | zero =>
        obtain rfl : i = s.size := by omega
        have hnx := run_next_end (P := Try.prog) w s s.size
        go_wp2
        go_ret
        exact ⟨rfl, (Below.refl _ _).alloc (Nat.le_refl _) _⟩
      | succ g =>
        have hi : i < s.size := by omega
        have hx128 : (s[i]'hi).toNat < 128 := HA.out i _ (Lib.data_getElem? s i hi)
        have hnx := fun ty => run_next_ascii (P := Try.prog) w s i ty hi hx128
        obtain ⟨x, hx⟩ : ∃ x : Nat, (s[i]'hi).toNat = x := ⟨_, rfl⟩
        rw [hx] at hnx hx128
        clear hx
        have hne : (((x : Nat) : Int) == 65533) = false := beq_eq_false_iff_ne.2 (by omega)
        go_wp2
        go_roundg g
        case measure => omega
        case rel => exact ⟨i + 1, by omega, rfl⟩
  · have bE : (r == 65533) = false := beq_eq_false_iff_ne.2 hE
    by_cases hv : Lib.validRune r = true
    · have hv' : Utf8.valid r = true := by rw [Go.validRune_eq]; exact hv
      obtain ⟨he2, he4, hlast⟩ := encode_facts r hv' h0
      obtain ⟨t, ht⟩ : ∃ t : ByteArray, Utf8.encode r = t := ⟨_, rfl⟩
      rw [ht] at he2 he4 hlast
      have HT : Aside (Utf8.encode r = t) := ht
      clear ht
      go_enter Try.func66, Try.ntmps66
      go_wp2_with (first | (go_at_call 81; refine (Try.utf8_ValidRune _ _).mono ?_; rintro e w' ⟨rfl, rfl⟩; rw [hv]))
      go_step3
      have hr128 : decide (r < 128) = false := n128
      go_wp2
      obtain ⟨m, hm⟩ : ∃ m, t.size = m + 1 := ⟨t.size - 1, by omega⟩
      have hw : wrap64 ((t.size : Int) - 1) = (m : Int) := by unfold wrap64; omega
      rw [HT.out, hw]
      have hm3 : m ≤ 3 := by omega
      have hmt : m < t.size := by omega
      obtain ⟨c, hc⟩ : ∃ c : UInt8, t[m]'hmt = c := ⟨_, rfl⟩
      have hc128 : 128 ≤ c.toNat := by
        have h1 := hlast (by omega)
        have h2 : t[t.size - 1]'(by omega) = t[m]'hmt := by congr 1; omega
        rw [h2, hc] at h1
        exact h1
      have HM : Aside (t.size = m + 1) := hm
      clear hm hw he2 he4 hlast HT
      refine wp_loop_rounds 1 ?_
      rw [rounds_succ]
      by_cases hlt : m < s.size
      · have hd : decide ((m : Int) < (s.size : Int)) = true := decide_eq_true (by omega)
        have hx128 : (s[m]'hlt).toNat < 128 := HA.out m _ (Lib.data_getElem? s m hlt)
        obtain ⟨x, hx⟩ : ∃ x : UInt8, s[m]'hlt = x := ⟨_, rfl⟩
        rw [hx] at hx128
        have hne : ((x.toNat : Int) != (c.toNat : Int)) = true := bne_iff_ne.2 (by omega)
        have hno : Lib.indexByte (s.extract (m + 1) s.size).data.toList c = -1 := by
          refine indexByte_none _ _ (fun b hb hbc => ?_)
          have hb' := mem_extract hb
          obtain ⟨j, hj⟩ := List.mem_iff_getElem?.1 hb'
          have := HA.out j b hj
          rw [hbc] at this
          omega
        have HN := Lib.hid hno
        clear hno
        have HX := Lib.hid hx
        have HC := Lib.hid hc
        go_wp2_with (fail)
        go_step3
        go_wp2_with (fail)
        have px : (m : Int) < (s.size : Int) := by omega
        have pt : (m : Int) < (t.size : Int) := by omega
        go_quiet (fail)
        generalize hWx : World.drewN _ _ = W2
        have HBW : Aside (Below w'.heap.size w' W2) := by
          rw [← hWx]
          exact pw_below_drewN (Below.refl _ _) _
        clear hWx
        go_wp2_with (fail)
        have e1 : IntKind.i64.wrap ((m : Int) + 1) = (m : Int) + 1 := by rw [i64_w]; unfold wrap64; omega
        have e2 : ((m : Int) + 1).toNat = m + 1 := by omega
        have e3 : (0 : Int) ≤ (m : Int) + 1 := by omega
        have e4 : (m : Int) + 1 ≤ (s.size : Int) := by omega
        go_quiet ((go_at_call 80; exact Calls.quiet_of_same (Try.strings_IndexByte _ _ _)))
        generalize hO : Lib.indexByte _ _ = o
        have ho : o = -1 := by
          rw [← hO]
          simpa using HN.out
        clear hO
        subst ho
        go_wp2_with (fail)
        rw [Exit.noGoto_ret]
        simp only [Exit.inBlock, Exit.then]
        rw [Exit.noGoto_ret]
        simp only [Exit.inBlock]
        go_ret
        exact ⟨rfl, pw_below_drewN HBW.out _⟩
      · have hd : decide ((m : Int) < (s.size : Int)) = false := decide_eq_false (by omega)
        go_wp2
        rw [Exit.noGoto_ret]
        go_ret
        exact ⟨rfl, Below.refl _ _⟩
    · have hv' : Lib.validRune r = false := by simpa using hv
      clear hv
      go_enter Try.func66, Try.ntmps66
      go_wp2_with (first | (go_at_call 81; refine (Try.utf8_ValidRune _ _).mono ?_; rintro e w' ⟨rfl, rfl⟩; rw [hv']))
      go_ret
      exact ⟨rfl, Below.refl _ _⟩
theorem below_iterAt {B : Nat} {a w : World} (h : Below B a w) (k : Nat) (hk : B ≤ k) (s : ByteArray) (pos : Nat) : Below B a (w.iterAt k s pos) :=
  h.trans ⟨rfl, rfl, rfl, by simp [World.iterAt], fun i hi => by simp only [World.iterAt]; rw [Array.getElem?_setIfInBounds_ne (by omega)]⟩
theorem NoAny_step (l chars : List UInt8) (i k : Nat) (h : Lib.NoAny l chars i) (hc : ∀ j, i ≤ j → j < i + k → ∀ b, l[j]? = some b → chars.contains b = false) : Lib.NoAny l chars (i + k) := by
  induction k with
  | zero => exact h
  | succ k ih =>
    have h1 := ih (fun j h1 h2 => hc j h1 (by omega))
    rcases Nat.lt_or_ge (i + k) l.length with hl | hl
    · have hx : l[i + k]? = some l[i + k] := List.getElem?_eq_getElem hl
      exact h1.succ hx (hc (i + k) (by omega) (by omega) _ hx)
    · intro j b hj hb
      have hjl := (List.getElem?_eq_some_iff.1 hb).1
      exact h1 j b (by omega) hb
set_option maxHeartbeats 8000000 in
set_option maxRecDepth 1000000 in
/-- s of at most 8 bytes, of whatever kind; chars of two or more ASCII bytes. -/
theorem indexAny_short (s chars : ByteArray) (w : World) (h2 : 2 ≤ chars.size) (h8 : s.size ≤ 8) (hcs : chars.size < 4294967281) (hac : ∀ (j : Nat) b, chars.data.toList[j]? = some b → b.toNat < 128) :
    Calls Try.prog 57 #[.string s, .string chars] w fun e w' => e = .returned (.int .i64 (Lib.indexAny s.data.toList chars.data.toList)) ∧ Below w.heap.size w w' := by
  have HA : Aside (∀ (j : Nat) b, chars.data.toList[j]? = some b → b.toNat < 128) := hac
  clear hac
  have hemp : chars.toList.isEmpty = false := by
    rw [Lib.toList_data]
    cases h : chars.data.toList with
    | nil => have := Lib.size_eq chars; rw [h, List.length_nil] at this; omega
    | cons _ _ => rfl
  have hn1 : ((chars.size : Int) == 1) = false := beq_eq_false_iff_ne.2 (by omega)
  have h8z : decide ((8 : Int) < (s.size : Int)) = false := decide_eq_false (by omega)
  go_enter Try.func57, Try.ntmps57
  go_wp2_with (go_at_call 67; refine (Try.strings_shouldUseASCIISet _ _).mono ?_; rintro e w' ⟨rfl, rfl⟩; rw [h8z])
  have HB0 : Aside (Below w'.heap.size w' (w'.iter s 0)) := (Below.refl _ _).alloc (Nat.le_refl _) _
  have HI0 : Aside ((w'.iter s 0).heap[w'.heap.size]? = some (.stringIter s 0)) := World.iter_heap _ _ _
  generalize w'.iter s 0 = wi at *
  go_loopg [] s.size (fun g wx => ∃ i : Nat, s.size ≤ i + g ∧ i ≤ s.size ∧ Aside (wx.heap[w'.heap.size]? = some (.stringIter s i)) ∧ Aside (Below w'.heap.size w' wx) ∧ Aside (Lib.NoAny s.data.toList chars.data.toList i))
  case atStart => exact ⟨0, by omega, by omega, HI0, HB0, Lib.NoAny.zero _ _⟩
  case round =>
    clear HB0 HI0
    obtain ⟨i, hig, his, HI, HB, HN⟩ := hrel
    by_cases hi : i < s.size
    · obtain ⟨g, rfl⟩ : ∃ g, gk = g + 1 := ⟨gk - 1, by omega⟩
      have hnx := fun ty => Lib.run_next_any_at (P := Try.prog) wr w'.heap.size s i ty HI.out hi
      have HB2 : Aside (Below w'.heap.size w' (wr.iterAt w'.heap.size s (i + (Utf8.decode s i).2))) := below_iterAt HB.out _ (Nat.le_refl _) _ _
      have HI2 : Aside ((wr.iterAt w'.heap.size s (i + (Utf8.decode s i).2)).heap[w'.heap.size]? = some (.stringIter s (i + (Utf8.decode s i).2))) := Lib.iterAt_heap _ _ _ _ _ HI.out
      obtain ⟨W2, hW2⟩ : ∃ W2, wr.iterAt w'.heap.size s (i + (Utf8.decode s i).2) = W2 := ⟨_, rfl⟩
      rw [hW2] at hnx HB2 HI2
      clear hW2
      have hsz : w'.heap.size < W2.heap.size := by
        rcases Nat.lt_or_ge w'.heap.size W2.heap.size with h | h
        · exact h
        · have := HI2.out
          rw [Array.getElem?_eq_none h] at this
          exact absurd this (by simp)
      by_cases hx : 128 ≤ (s.get! i).toNat
      · obtain ⟨d1, d2, d3, d4, d5⟩ := dec_hi s i hi hx
        obtain ⟨c, hc⟩ : ∃ c, (Utf8.decode s i).1 = c := ⟨_, rfl⟩
        obtain ⟨k, hk⟩ : ∃ k, (Utf8.decode s i).2 = k := ⟨_, rfl⟩
        rw [hc] at hnx d3 d4
        rw [hk] at d1 d2 d5 HI2
        clear hc hk hx
        have HN2 : Aside (Lib.NoAny s.data.toList chars.data.toList (i + k)) := NoAny_step _ _ _ _ HN.out (fun j h1 h2 b hb => by
          have hjs : j < s.size := by omega
          rw [get_data s j hjs] at hb
          obtain rfl := Option.some.inj hb
          have hhi := d5 (j - i) (by omega)
          rw [show i + (j - i) = j by omega] at hhi
          rcases hcon : chars.data.toList.contains (s.get! j) with _ | _
          · rfl
          · exfalso
            obtain ⟨q, hq⟩ := List.mem_iff_getElem?.1 (by simpa using hcon : s.get! j ∈ chars.data.toList)
            have := HA.out q _ hq
            omega)
        clear d5 HN
        go_wp2_with (go_at_call 66; refine (indexRune_hi _ _ _ (by omega) (by omega) hcs HA.out).mono ?_; rintro e w3 ⟨rfl, hb3⟩)
        go_roundg g
        case measure => omega
        case rel => exact ⟨i + k, by omega, by omega, (by show w3.heap[_]? = _; rw [hb3.block _ hsz]; exact HI2.out), HB2.out.trans (hb3.mono (by omega)), HN2⟩
      · have h0 : Utf8.decode s i = ((s.get! i).toNat, 1) := by
          unfold Utf8.decode
          simp only [Nat.add_zero]
          rw [if_pos (by omega)]
        rw [h0] at hnx HI2
        obtain ⟨x, hxx⟩ : ∃ x : UInt8, s.get! i = x := ⟨_, rfl⟩
        have Hx : Aside (s.data.toList[i]? = some x) := by rw [← hxx]; exact get_data s i hi
        rw [hxx] at hnx hx
        clear hxx h0
        have hcon := Lib.contains_iff_indexByte chars.data.toList x
        have hback : ((x.toNat : Int)).toNat.toUInt8 = x := by simp
        cases hin : chars.data.toList.contains x
        · rw [hin] at hcon
          have hlt : ¬ ((0 : Int) ≤ Lib.indexByte chars.data.toList x) := of_decide_eq_false hcon.symm
          clear hcon
          go_wp2_with (go_at_call 66; refine (Try.strings_IndexRune_ascii _ _ _ (by omega) (by omega)).mono ?_; rintro e w3 ⟨rfl, hw⟩; rw [hw, hback])
          go_roundg g
          case measure => omega
          case rel => exact ⟨i + 1, by omega, by omega, HI2, HB2, HN.out.succ Hx.out hin⟩
        · rw [hin] at hcon
          have hge : (0 : Int) ≤ Lib.indexByte chars.data.toList x := of_decide_eq_true hcon.symm
          clear hcon
          go_wp2_with (go_at_call 66; refine (Try.strings_IndexRune_ascii _ _ _ (by omega) (by omega)).mono ?_; rintro e w3 ⟨rfl, hw⟩; rw [hw, hback])
          go_ret
          exact ⟨by rw [Lib.indexAny_hit HN.out Hx.out hin]; rfl, HB2.out⟩
    · obtain rfl : i = s.size := by omega
      have hnx := fun ty => Lib.run_next_end_at (P := Try.prog) wr w'.heap.size s s.size ty HI.out (by omega)
      go_wp2
      go_ret
      exact ⟨by rw [Lib.indexAny_none (by rw [← Lib.size_eq]; exact HN.out)]; rfl, HB.out⟩
end ContainsAny
def strings_ContainsAny.f (a0 a1 : ByteArray) : Option Bool := if a0.size < 4294967281 ∧ 2 ≤ a1.size ∧ a1.size < 4294967281 ∧ (a1.data.toList.all fun b => decide (b.toNat < 128)) = true then some (Lib.containsAny a0.data.toList a1.data.toList) else none
set_option maxHeartbeats 2000000 in
theorem strings_ContainsAny.calls (a0 a1 : ByteArray) (r : Bool) (w : World) (hG : Glob w) (h : strings_ContainsAny.f a0 a1 = some r) :
    Calls Try.prog 38 #[.string a0, .string a1] w fun e w' => e = .returned (.bool r) ∧ Below w.heap.size w w' := by
  unfold strings_ContainsAny.f at h
  split at h
  · rename_i hs
    obtain ⟨hs0, hs1, hs2, hs3⟩ := hs
    obtain rfl := Option.some.inj h
    have hac : ∀ (j : Nat) b, a1.data.toList[j]? = some b → b.toNat < 128 := fun j b hb => by
      have := List.all_eq_true.1 hs3 b (List.mem_iff_getElem?.2 ⟨j, hb⟩)
      simpa using this
    clear hs3
    have C : Calls Try.prog 57 #[.string a0, .string a1] w fun e w' => e = .returned (.int .i64 (Lib.indexAny a0.data.toList a1.data.toList)) ∧ Below w.heap.size w w' := by
      rcases Nat.lt_or_ge 8 a0.size with h8 | h8
      · exact (Try.strings_IndexAny_long (fun w => by kernel_rfl) a0 a1 w hs1 h8 hs0 hs2 hac).mono fun e w' hh => ⟨hh.1, by rw [hh.2]; exact ((Below.refl _ _).alloc (Nat.le_refl _) _).alloc (by simp) _⟩
      · exact ContainsAny.indexAny_short a0 a1 w hs1 h8 hs2 hac
    clear hac
    go_enter Try.func38, Try.ntmps38
    go_wp2_with (go_at_call 57; refine C.mono ?_; rintro e w3 ⟨rfl, hb3⟩)
    go_ret
    exact ⟨rfl, hb3⟩
  · exact absurd h (by simp)



end Go.Proofs.Ytmpdpfojiepdkaa.Q
