/- The plain law of ExprMany, about the functions that the walks compute. -/
import Derived.Test.YtmpdpfojiepdkaaBExprMany
import Derived.Test.YtmpdpfojiepdkaaPTold
namespace Go.Proofs.Ytmpdpfojiepdkaa.Pure
open Go Go.RowKit Go.Proofs.Ytmpdpfojiepdkaa.Q Go.Proofs.YtmpdpfojiepdkaaW.PrintWords Go.Proofs.YtmpdpfojiepdkaaW.PrintLast Go.Proofs.YtmpdpfojiepdkaaW.Own Go.Proofs.YtmpdpfojiepdkaaW.PrintMore Go.Proofs.YtmpdpfojiepdkaaW.Px
set_option linter.unusedSimpArgs false
set_option linter.unusedVariables false
/-- Bytes that are in no mark. -/
def mid (b : UInt8) : Bool := b != 36 && b != 123 && b != 125
def okB (l : List UInt8) : Bool := !l.isEmpty && l.all mid
def okP (p : S29) : Bool := okB p.f1.data.toList
def headN : List S29 → Bool
  | [] => true
  | q :: _ => q.f0
def wf : List S29 → Bool
  | [] => true
  | p :: l => okP p && (p.f0 || headN l) && wf l
def endsText (l : List S29) : Bool := match l.getLast? with | some p => !p.f0 | none => false
theorem wf_concat : ∀ (l : List S29) (p : S29), wf (l ++ [p]) = (wf l && okP p && (p.f0 || !endsText l))
  | [], p => by simp [wf, headN, endsText]
  | [q], p => by
    simp only [List.cons_append, List.nil_append, wf, headN, endsText, List.getLast?_singleton, Bool.not_not, Bool.or_true, Bool.and_true]
    cases okP q <;> cases okP p <;> cases q.f0 <;> cases p.f0 <;> rfl
  | q :: r :: l, p => by
    have ih := wf_concat (r :: l) p
    have e : endsText (q :: r :: l) = endsText (r :: l) := by unfold endsText; rw [List.getLast?_cons_cons]
    show (okP q && (q.f0 || r.f0) && wf ((r :: l) ++ [p])) = (okP q && (q.f0 || r.f0) && wf (r :: l) && okP p && (p.f0 || !endsText (q :: r :: l)))
    rw [ih, e]
    simp only [Bool.and_assoc]
theorem okB_spec {l : List UInt8} (h : okB l = true) : l ≠ [] ∧ (∀ x ∈ l, x ≠ 36) ∧ (∀ x ∈ l, x ≠ 125) ∧ goodN l = true := by
  unfold okB at h
  rw [Bool.and_eq_true] at h
  have hm : ∀ x ∈ l, mid x = true := fun x hx => List.all_eq_true.1 h.2 x hx
  refine ⟨?_, ?_, ?_, ?_⟩
  · rintro rfl; exact absurd h.1 (by decide)
  · rintro x hx rfl; exact absurd (hm _ hx) (by decide)
  · rintro x hx rfl; exact absurd (hm _ hx) (by decide)
  · unfold goodN
    rw [h.1, Bool.true_and, List.all_eq_true]
    intro x hx
    have := hm x hx
    unfold mid at this
    rw [Bool.and_eq_true] at this
    exact this.1
theorem okB_append {a b : List UInt8} (ha : okB a = true) (hb : okB b = true) : okB (a ++ b) = true := by
  unfold okB at ha hb ⊢
  rw [Bool.and_eq_true] at ha hb ⊢
  refine ⟨?_, by rw [List.all_append, ha.2, hb.2]; rfl⟩
  cases a with
  | nil => exact absurd ha.1 (by decide)
  | cons _ _ => rfl
theorem wf_mem : ∀ {l : List S29}, wf l = true → ∀ p ∈ l, p.f1.size ≠ 0
  | [], _, p, hp => by cases hp
  | q :: l, h, p, hp => by
    rw [wf, Bool.and_eq_true, Bool.and_eq_true] at h
    rcases List.mem_cons.1 hp with rfl | hp
    · intro hz
      have := (okB_spec h.1.1).1
      exact this (List.eq_nil_of_length_eq_zero (by rw [← ba_size]; exact hz))
    · exact wf_mem h.2 p hp

/-- A text that is put together of right pieces is split into them, whatever stands behind it. -/
theorem split_wf (tail : List UInt8) (fin : List S29 → Option (List S29 × Int))
    (h0 : ∀ (t : List UInt8) (acc : List S29) (j : Nat), (∀ x ∈ t, x ≠ 36) → t.length + tail.length < 4294967281 → acc.length + 2 < 5864062014805 → expr_Split.l0 (j + 2) (tx (t ++ tail)) acc = fin (more acc t)) :
    ∀ (n : Nat) (want acc : List S29) (j : Nat), want.length ≤ n → wf want = true → (bytesOf want).length + tail.length < 4294967281 → acc.length + 2 * want.length + 2 < 5864062014805 →
      expr_Split.l0 (2 * n + 2 + j) (tx (bytesOf want ++ tail)) acc = fin (acc ++ want) := by
  intro n
  induction n with
  | zero =>
    intro want acc j hn hw hs ha
    obtain rfl : want = [] := List.eq_nil_of_length_eq_zero (by omega)
    have := h0 [] acc j (by simp) (by simp [bytesOf] at hs ⊢; exact hs) (by simp at ha; omega)
    rw [show 2 * 0 + 2 + j = j + 2 from by omega]
    simpa [bytesOf, more] using this
  | succ n ih =>
    intro want acc j hn hw hs ha
    have one : ∀ (t m : List UInt8) (l : List S29), (∀ x ∈ t, x ≠ 36) → okB m = true → (t ++ (36 :: 123 :: (m ++ [125]) ++ bytesOf l)).length + tail.length < 4294967281 → l.length ≤ n → wf l = true → acc.length + 2 * l.length + 4 < 5864062014805 →
        expr_Split.l0 (2 * (n + 1) + 2 + j) (tx (t ++ (36 :: 123 :: (m ++ [125]) ++ bytesOf l) ++ tail)) acc = fin ((more acc t ++ [nam m]) ++ l) := by
      intro t m l ht hm hz hl hwl hb
      obtain ⟨hm0, _, hm2, hm3⟩ := okB_spec hm
      have e1 : t ++ (36 :: 123 :: (m ++ [125]) ++ bytesOf l) ++ tail = t ++ ((36 :: [123]) ++ (m ++ ((125 :: []) ++ (bytesOf l ++ tail)))) := by simp
      have c1 := cut_at t (m ++ ((125 :: []) ++ (bytesOf l ++ tail))) [123] 36 ht
      have c2 := cut_at m (bytesOf l ++ tail) [] 125 hm2
      have l1 : (t ++ ((36 :: [123]) ++ (m ++ ((125 :: []) ++ (bytesOf l ++ tail))))).length < 4294967281 := by rw [← e1, List.length_append]; exact hz
      rw [e1, show 2 * (n + 1) + 2 + j = (2 * n + 2 + j) + 2 from by omega, split_step _ _ _ l1 (by omega), c1]
      simp only [if_true]
      rw [c2]
      simp only [true_and]
      rw [if_pos hm3]
      have lm : (more acc t ++ [nam m]).length ≤ acc.length + 2 := by
        unfold more; split
        · simp
        · simp
      have l2 := congrArg List.length e1
      simp only [List.length_append, List.length_cons] at l2 hz
      exact ih l _ j hl hwl (by omega) (by omega)
    cases want with
    | nil =>
      have := h0 [] acc (2 * n + 2 + j) (by simp) (by simp [bytesOf] at hs ⊢; exact hs) (by simp at ha; omega)
      rw [show 2 * (n + 1) + 2 + j = (2 * n + 2 + j) + 2 from by omega]
      simpa [bytesOf, more] using this
    | cons p l =>
      rw [wf, Bool.and_eq_true, Bool.and_eq_true] at hw
      obtain ⟨⟨hp, hq⟩, hl⟩ := hw
      have pe : ∀ q : S29, q.f0 = true → q = nam q.f1.data.toList := by rintro ⟨a, b⟩ h; simp only at h; subst h; unfold nam; rw [tx_data]
      have te : ∀ q : S29, q.f0 = false → q = txt q.f1.data.toList := by rintro ⟨a, b⟩ h; simp only at h; subst h; unfold txt; rw [tx_data]
      simp only [List.length_cons] at hn ha
      by_cases c : p.f0 = true
      · rw [bytesOf, if_pos c] at hs ⊢
        have := one [] p.f1.data.toList l (by simp) hp (by simpa using hs) (by omega) hl (by omega)
        rw [← pe p c] at this
        simpa [more] using this
      · have cf : p.f0 = false := by simpa using c
        obtain ⟨hp0, hp1, _, _⟩ := okB_spec hp
        rw [bytesOf, if_neg c] at hs ⊢
        cases l with
        | nil =>
          have := h0 p.f1.data.toList acc (2 * n + 2 + j) hp1 (by simpa [bytesOf] using hs) (by omega)
          unfold more at this
          rw [if_neg hp0, ← te p cf] at this
          rw [show 2 * (n + 1) + 2 + j = (2 * n + 2 + j) + 2 from by omega]
          simpa [bytesOf] using this
        | cons q l =>
          rw [cf] at hq
          simp only [Bool.false_or] at hq
          rw [wf, Bool.and_eq_true, Bool.and_eq_true] at hl
          replace hq : q.f0 = true := hq
          simp only [List.length_cons] at hn ha
          rw [bytesOf, if_pos hq] at hs ⊢
          have := one p.f1.data.toList q.f1.data.toList l hp1 hl.1.1 (by simpa using hs) (by omega) hl.2 (by omega)
          unfold more at this
          rw [if_neg hp0, ← te p cf, ← pe q hq] at this
          simpa using this
theorem split_whole (want : List S29) (hw : wf want = true) (hs : (bytesOf want).length < 4000000000) (hl : want.length < 1000000) (j : Nat) : expr_Split.f (2 * want.length + 2 + j) (tx (bytesOf want)) = some (want, 0) := by
  have := split_wf [] (fun l => some (l, 0)) (fun t acc j ht hz ha => by
    rw [List.append_nil, split_step _ _ _ (by simpa using hz) ha, cut_none t [123] 36 ht]
    rfl) want.length want [] j (Nat.le_refl _) hw (by simp only [List.length_nil]; omega) (by simp only [List.length_nil]; omega)
  rw [List.append_nil, List.nil_append] at this
  exact this
theorem split_open (want : List S29) (hw : wf want = true) (hs : (bytesOf want).length < 4000000000) (hl : want.length < 1000000) (j : Nat) : expr_Split.f (2 * want.length + 2 + j) (tx (bytesOf want ++ [36, 123, 120])) = some ([], 17) := by
  have := split_wf [36, 123, 120] (fun _ => some ([], 17)) (fun t acc j ht hz ha => by
    rw [split_step _ _ _ (by simpa using hz) ha, show ([36, 123, 120] : List UInt8) = (36 :: [123]) ++ [120] from rfl, cut_at t [120] [123] 36 ht]
    rfl) want.length want [] j (Nat.le_refl _) hw (by simp only [List.length_cons, List.length_nil]; omega) (by simp only [List.length_nil]; omega)
  exact this
def digitsOk (i : Nat) : Bool := match newelhelp_Digits.f 2 (i : Int) with | some t => okB t.data.toList && decide (t.size ≤ 2) | none => false
theorem digits_all : (List.range 40).all digitsOk = true := by kernel_rfl
theorem digits_told (i : Nat) (h : i < 40) : ∃ t, (∀ k, newelhelp_Digits.f (k + 2) (i : Int) = some t) ∧ okB t.data.toList = true ∧ t.size ≤ 2 := by
  have := List.all_eq_true.1 digits_all i (by simpa using h)
  unfold digitsOk at this
  cases ht : newelhelp_Digits.f 2 (i : Int) with
  | none => rw [ht] at this; exact absurd this (by decide)
  | some t =>
    rw [ht] at this
    simp only [Bool.and_eq_true, decide_eq_true_eq] at this
    refine ⟨t, ?_, this.1, this.2⟩
    intro k
    induction k with
    | zero => exact ht
    | succ k ih => exact newelhelp_Digits.mono _ _ _ ih

structure Inv (s : ByteArray) (want : List S29) (i : Nat) : Prop where
  bytes : s.data.toList = bytesOf want
  wf : wf want = true
  size : s.size ≤ 6 * i
  len : want.length ≤ i
theorem at_end (l : List Bool) (s : ByteArray) (want : List S29) (i : Nat) (hi : i ≤ 40) (h : Inv s want i) (k : Nat) : newellaw10_ExprMany.j1 (k + 101) l s want (i : Int) false = some true := by
  obtain ⟨hb, hw, hs, hl⟩ := h
  have hbl : (bytesOf want).length ≤ 240 := by rw [← hb, ← ba_size]; omega
  have h1 : expr_Split.f (k + 100) s = some (want, 0) := by
    have := split_whole want hw (by omega) (by omega) (k + 100 - (2 * want.length + 2))
    rw [show 2 * want.length + 2 + (k + 100 - (2 * want.length + 2)) = k + 100 from by omega, ← hb, tx_data] at this
    exact this
  have h2 : expr_Split.f (k + 100) ((s ++ (⟨#[36]⟩ : ByteArray)) ++ (⟨#[123, 120]⟩ : ByteArray)) = some ([], 17) := by
    have := split_open want hw (by omega) (by omega) (k + 100 - (2 * want.length + 2))
    rw [show 2 * want.length + 2 + (k + 100 - (2 * want.length + 2)) = k + 100 from by omega] at this
    rw [show ((s ++ (⟨#[36]⟩ : ByteArray)) ++ (⟨#[123, 120]⟩ : ByteArray)) = tx (bytesOf want ++ [36, 123, 120]) from ba_ext (by rw [ba_append, ba_append, tx_toList, hb]; simp)]
    exact this
  have z1 : (s ++ (⟨#[36]⟩ : ByteArray)).size = s.size + 1 := by rw [ByteArray.size_append]; rfl
  have q1 : s.size + 1 ≤ 9223372036854775807 := by omega
  have q2 : (s ++ (⟨#[36]⟩ : ByteArray)).size + 2 ≤ 9223372036854775807 := by omega
  rw [newellaw10_ExprMany.j1, if_neg (by decide), h1, Option.bind_some, if_pos q1, if_pos q2, h2, Option.bind_some, awake_ge _ (by omega), Option.bind_some, if_pos rfl, if_pos rfl, plain_refl want _ (by omega) (by omega), Option.bind_some, if_pos rfl, join_told want s (wf_mem hw) hb.symm (by omega), Option.bind_some, if_pos rfl]
  rfl
theorem step_inv (l : List Bool) (s : ByteArray) (want : List S29) (i : Nat) (hi : i < 40) (hl : i < l.length) (h : Inv s want i) (k : Nat)
    (next : ∀ s' want', Inv s' want' (i + 1) → newellaw10_ExprMany.l0 (k + 2) l s' want' ((i + 1 : Nat) : Int) = some true) : newellaw10_ExprMany.j1 (k + 3) l s want (i : Int) true = some true := by
  obtain ⟨hb, hw, hs, hn⟩ := h
  obtain ⟨t, ht, ho, hz⟩ := digits_told i hi
  obtain ⟨n, hnn⟩ : ∃ n : ByteArray, n = (⟨#[110]⟩ : ByteArray) ++ t := ⟨_, rfl⟩
  have nl : n.data.toList = 110 :: t.data.toList := by rw [hnn, ba_append]; rfl
  have nz : n.size ≤ 3 := by rw [hnn, ByteArray.size_append, show (⟨#[110]⟩ : ByteArray).size = 1 from rfl]; omega
  have no : okB n.data.toList = true := by rw [nl]; exact okB_append (a := [110]) (by decide) ho
  have hw1 : wrap64 ((i : Int) + 1) = ((i + 1 : Nat) : Int) := by unfold wrap64; omega
  have z1 : (s ++ (⟨#[36]⟩ : ByteArray)).size = s.size + 1 := by rw [ByteArray.size_append]; rfl
  have z2 : ((s ++ (⟨#[36]⟩ : ByteArray)) ++ (⟨#[123]⟩ : ByteArray)).size = s.size + 2 := by rw [ByteArray.size_append, z1]; rfl
  have z3 : (((s ++ (⟨#[36]⟩ : ByteArray)) ++ (⟨#[123]⟩ : ByteArray)) ++ n).size = s.size + 2 + n.size := by rw [ByteArray.size_append, z2]
  have z4 : (((((s ++ (⟨#[36]⟩ : ByteArray)) ++ (⟨#[123]⟩ : ByteArray)) ++ n)) ++ (⟨#[125]⟩ : ByteArray)).size = s.size + 3 + n.size := by rw [ByteArray.size_append, z3, show (⟨#[125]⟩ : ByteArray).size = 1 from rfl]; omega
  have z5 : (s ++ n).size = s.size + n.size := ByteArray.size_append
  have q1 : 1 + t.size ≤ 9223372036854775807 := by omega
  have q2 : s.size + 1 ≤ 9223372036854775807 := by omega
  have q3 : (s ++ (⟨#[36]⟩ : ByteArray)).size + 1 ≤ 9223372036854775807 := by omega
  have q4 : ((s ++ (⟨#[36]⟩ : ByteArray)) ++ (⟨#[123]⟩ : ByteArray)).size + n.size ≤ 9223372036854775807 := by omega
  have q5 : (((s ++ (⟨#[36]⟩ : ByteArray)) ++ (⟨#[123]⟩ : ByteArray)) ++ n).size + 1 ≤ 9223372036854775807 := by omega
  have q6 : want.length < 5864062014805 := by omega
  have q7 : s.size + n.size ≤ 9223372036854775807 := by omega
  have p0 : (0 : Int) ≤ (i : Int) := by omega
  have p1 : (i : Int) < (l.length : Int) := by omega
  rw [newellaw10_ExprMany.j1, if_pos rfl, ht, Option.bind_some, if_pos q1, if_pos p0, if_pos p1, ← hnn, hw1]
  have okt : okP ⟨false, n⟩ = true := no
  have okn : okP ⟨true, n⟩ = true := no
  by_cases c : rdOf false l (i : Int) = true
  · rw [if_pos c, if_pos q2, if_pos q3, if_pos q4, if_pos q5, if_pos q6]
    refine next _ _ ⟨?_, ?_, ?_, ?_⟩
    · rw [ba_append, ba_append, ba_append, ba_append, hb, bytesOf_append]
      simp [bytesOf]
    · rw [wf_concat, hw, okn]; rfl
    · rw [z4]; omega
    · rw [List.length_append]; simp; omega
  · rw [if_neg c, if_pos q7]
    have fresh : endsText want = false → newellaw10_ExprMany.l0 (k + 2) l (s ++ n) (want ++ [(⟨false, n⟩ : S29)]) ((i + 1 : Nat) : Int) = some true := by
      intro he
      refine next _ _ ⟨?_, ?_, ?_, ?_⟩
      · rw [ba_append, hb, bytesOf_append]
        simp [bytesOf]
      · rw [wf_concat, hw, okt, he]; rfl
      · rw [z5]; omega
      · rw [List.length_append]; simp; omega
    rcases List.eq_nil_or_concat want with rfl | ⟨init, p, hip⟩
    · rw [if_neg (by simp only [List.length_nil]; unfold wrap64; omega), if_pos q6]
      exact fresh rfl
    · rw [List.concat_eq_append] at hip
      subst hip
      have hw2 : wrap64 (((init ++ [p]).length : Int) - 1) = (init.length : Int) := by
        rw [List.length_append]; rw [List.length_append] at hn; simp only [List.length_cons, List.length_nil] at hn ⊢; unfold wrap64; omega
      have hp : rd_T29 (init ++ [p]) (init.length : Int) = p := by unfold rd_T29; simp
      have r0 : (init.length : Int) ≥ 0 := by omega
      have r1 : (init.length : Int) < ((init ++ [p]).length : Int) := by rw [List.length_append]; simp only [List.length_cons, List.length_nil]; omega
      rw [hw2, if_pos r0, if_pos r0, if_pos r1, hp]
      have he : endsText (init ++ [p]) = !p.f0 := by unfold endsText; rw [List.getLast?_concat]
      by_cases d : p.f0 = true
      · rw [if_pos d, if_pos q6]
        exact fresh (by rw [he, d]; rfl)
      · have df : p.f0 = false := by simpa using d
        have hz2 : p.f1.size ≤ s.size := by
          rw [ba_size s, hb, bytesOf_append, List.length_append, bytesOf, if_neg d, ba_size p.f1, List.length_append]; omega
        have q8 : p.f1.size + n.size ≤ 9223372036854775807 := by omega
        rw [if_neg d, if_pos q8, Int.toNat_natCast, show (init ++ [p]).set init.length ⟨p.f0, p.f1 ++ n⟩ = init ++ [⟨p.f0, p.f1 ++ n⟩] from by simp]
        refine next _ _ ⟨?_, ?_, ?_, ?_⟩
        · rw [ba_append, hb, bytesOf_append, bytesOf_append, bytesOf, if_neg d, bytesOf]
          simp [df, ba_append, bytesOf]
        · rw [wf_concat, Bool.and_eq_true, Bool.and_eq_true] at hw ⊢
          exact ⟨⟨hw.1.1, by unfold okP; rw [ba_append]; exact okB_append hw.1.2 no⟩, hw.2⟩
        · rw [z5]; omega
        · rw [List.length_append] at hn ⊢; simp only [List.length_cons, List.length_nil] at hn ⊢; omega
theorem many_loop (l : List Bool) : ∀ (d i : Nat) (s : ByteArray) (want : List S29), i + d = 40 → i ≤ l.length → Inv s want i → ∀ k, newellaw10_ExprMany.l0 (2 * d + 102 + k) l s want (i : Int) = some true := by
  intro d
  induction d with
  | zero =>
    intro i s want h hl hI k
    rw [show 2 * 0 + 102 + k = (k + 101) + 1 from by omega, newellaw10_ExprMany.l0, decide_eq_false (by omega), ite_self]
    exact at_end l s want i (by omega) hI k
  | succ d ih =>
    intro i s want h hl hI k
    rw [show 2 * (d + 1) + 102 + k = (2 * d + 102 + k + 1) + 1 from by omega, newellaw10_ExprMany.l0]
    by_cases c : (i : Int) < (l.length : Int)
    · rw [if_pos c, decide_eq_true (by omega), show 2 * d + 102 + k + 1 = (2 * d + 100 + k) + 3 from by omega]
      refine step_inv l s want i (by omega) (by omega) hI _ (fun s' want' hI' => ?_)
      rw [show 2 * d + 100 + k + 2 = 2 * d + 102 + k from by omega]
      exact ih (i + 1) s' want' (by omega) (by omega) hI' k
    · rw [if_neg c, show 2 * d + 102 + k + 1 = (2 * d + 2 + k) + 101 from by omega]
      exact at_end l s want i (by omega) hI _
theorem ExprMany : newellaw10_ExprMany.Pure := by
  intro l _
  refine ⟨2 * 40 + 102 + 0, ?_⟩
  exact many_loop l 40 0 ⟨#[]⟩ [] rfl (Nat.zero_le _) ⟨rfl, rfl, by decide, by simp⟩ 0
end Go.Proofs.Ytmpdpfojiepdkaa.Pure
