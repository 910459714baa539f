/- Texts put together: what functions of the program compute, and plain words about them. -/
import Derived.Test.YtomikblbfappnaaLawTokenAttrsM3

/- The plain law of TokenAttrs, about the functions that the walks compute. -/
namespace Go.Proofs.Ytomikblbfappnaa.Pure
open Go Go.RowKit Go.Proofs.Ytomikblbfappnaa.Q Go.Proofs.YtomikblbfappnaaW.PrintWords
/-- A small number's digits. -/
def dg (i : Nat) : List UInt8 := if i < 10 then [UInt8.ofNat (48 + i)] else [49, UInt8.ofNat (48 + (i - 10))]
theorem digits_few : (List.range 12).all (fun i => decide (newelhelp_Digits.f 3 (i : Int) = some (Tk.bs (dg i)))) = true := by kernel_rfl
theorem digits_told (k i : Nat) (hi : i < 12) : newelhelp_Digits.f (k + 3) (i : Int) = some (Tk.bs (dg i)) := by
  have h : newelhelp_Digits.f 3 (i : Int) = some (Tk.bs (dg i)) := of_decide_eq_true (List.all_eq_true.1 digits_few i (List.mem_range.2 hi))
  exact at_rounds (newelhelp_Digits.mono _) (by omega) h
def nmA (i : Nat) : List UInt8 := 110 :: dg i
theorem names_few : (List.range 12).all (fun i => (nmA i).all Tk.within && (List.range 12).all (fun j => i == j || nmA i != nmA j) && decide ((dg i).length ≤ 2) && (dg i).all (fun c => c != 34 && c != 38 && c != 60 && Tk.allowed c)) = true := by kernel_rfl
/-- A byte that may stand in the values here. -/
def okV (c : UInt8) : Bool := decide (32 ≤ c.toNat) && c != 60 && c != 38 && c != 34
def blankOk (b : List UInt8) : Prop := b ≠ [] ∧ (∀ c ∈ b, Tk.space c = true) ∧ b.length ≤ 3
theorem space_no : (List.range 256).all (fun n => !Tk.space (UInt8.ofNat n) || (!Tk.within (UInt8.ofNat n) && Tk.allowed (UInt8.ofNat n) && UInt8.ofNat n != 62 && UInt8.ofNat n != 61 && UInt8.ofNat n != 47 && UInt8.ofNat n != 34)) = true := by kernel_rfl
theorem space_facts {c : UInt8} (h : Tk.space c = true) : Tk.within c = false ∧ Tk.allowed c = true ∧ c ≠ 62 ∧ c ≠ 61 ∧ c ≠ 47 ∧ c ≠ 34 := by
  have := List.all_eq_true.1 space_no c.toNat (List.mem_range.2 c.toNat_lt)
  rw [UInt8.ofNat_toNat, h] at this
  simpa [and_assoc] using this
theorem skip_blank (b x : List UInt8) (hb : ∀ c ∈ b, Tk.space c = true) (hx : ∀ c r, x = c :: r → Tk.space c = false) : Tk.skip (b ++ x) = x := by
  unfold Tk.skip
  induction b with
  | nil =>
    cases x with
    | nil => rfl
    | cons c r => rw [List.nil_append, List.dropWhile_cons, hx c r rfl]; rfl
  | cons d b ih =>
    rw [List.cons_append, List.dropWhile_cons, hb d (by simp), if_pos rfl]
    exact ih (fun c hc => hb c (by simp [hc]))
theorem takeWhile_app {p : UInt8 → Bool} (a x : List UInt8) (ha : ∀ c ∈ a, p c = true) (hx : ∀ c r, x = c :: r → p c = false) : (a ++ x).takeWhile p = a := by
  induction a with
  | nil =>
    cases x with
    | nil => rfl
    | cons c r => rw [List.nil_append, List.takeWhile_cons, hx c r rfl]; rfl
  | cons d a ih =>
    rw [List.cons_append, List.takeWhile_cons, ha d (by simp), if_pos rfl, ih (fun c hc => ha c (by simp [hc]))]
theorem head_app (c : UInt8) (a x : List UInt8) (hc : Tk.letter c = true) (ha : ∀ d ∈ a, Tk.within d = true) (hx : ∀ d r, x = d :: r → Tk.within d = false) : Tk.head (c :: (a ++ x)) = c :: a := by
  show (if Tk.letter c = true then c :: (a ++ x).takeWhile Tk.within else []) = c :: a
  rw [if_pos hc, takeWhile_app a x ha hx]
theorem index_no {c : UInt8} {a : List UInt8} (h : ∀ x ∈ a, x ≠ c) : ¬ 0 ≤ Lib.index a [c] := by
  have := upto_no h
  unfold Tk.upto at this
  split at this
  · cases this
  · assumption
theorem entities_id (a : List UInt8) (h : ∀ x ∈ a, x ≠ 38) : Tk.entities a = some a := by
  have := entities_plain a [] h
  rw [List.append_nil, show Tk.entities [] = some [] from by kernel_rfl] at this
  rw [this]; simp
/-- One attribute, with blanks about. -/
theorem attr_one (b nm v r : List UInt8) (hb : blankOk b) (hw : ∀ c ∈ nm, Tk.within c = true) (hl : ∃ c a, nm = c :: a ∧ Tk.letter c = true) (hv : ∀ c ∈ v, c ≠ 34 ∧ c ≠ 38 ∧ c ≠ 60) :
    Tk.attr (nm ++ (b ++ (61 :: (b ++ (34 :: (v ++ (34 :: r))))))) = some (Tk.at_ nm v, r) := by
  obtain ⟨c, a, rfl, hc⟩ := hl
  obtain ⟨b0, b1, rfl⟩ : ∃ b0 b1, b = b0 :: b1 := by
    cases b with
    | nil => exact absurd rfl hb.1
    | cons x y => exact ⟨x, y, rfl⟩
  have hs := hb.2.1
  have hh : Tk.head (c :: a ++ (b0 :: b1 ++ (61 :: (b0 :: b1 ++ (34 :: (v ++ (34 :: r))))))) = c :: a :=
    head_app c a _ hc (fun d hd => hw d (by simp [hd])) (fun d q e => by
      injection e with e _
      subst e
      exact (space_facts (hs b0 (by simp))).1)
  unfold Tk.attr
  rw [hh, if_neg (by simp), List.drop_left]
  rw [skip_blank (b0 :: b1) (61 :: (b0 :: b1 ++ (34 :: (v ++ (34 :: r))))) hs (fun c q e => by injection e with e _; subst e; decide)]
  have e1 : Tk.behind [61] (61 :: (b0 :: b1 ++ (34 :: (v ++ (34 :: r))))) = some (b0 :: b1 ++ (34 :: (v ++ (34 :: r)))) := by unfold Tk.behind; rw [if_pos (by simp [List.isPrefixOf])]; rfl
  rw [e1, Option.bind_some]
  rw [skip_blank (b0 :: b1) (34 :: (v ++ (34 :: r))) hs (fun c q e => by injection e with e _; subst e; decide)]
  have e2 : Tk.value (34 :: (v ++ (34 :: r))) = some (v, r) := by
    unfold Tk.value
    rw [if_pos (by simp [List.isPrefixOf])]
    dsimp only
    have e3 : Tk.behind [34] (34 :: (v ++ (34 :: r))) = some (v ++ (34 :: r)) := by unfold Tk.behind; rw [if_pos (by simp [List.isPrefixOf])]; rfl
    rw [e3, Option.bind_some, upto_split (fun x hx => (hv x hx).1), Option.bind_some]
    dsimp only
    rw [if_neg (index_no fun x hx => (hv x hx).2.2), entities_id v (fun x hx => (hv x hx).2.1)]
    rfl
  rw [e2]
  rfl

/-- One attribute's text, what it is told as, and all of them. -/
def attT (b v : List UInt8) (i : Nat) : List UInt8 := b ++ (nmA i ++ (b ++ (61 :: (b ++ (34 :: ((v ++ dg i) ++ [34]))))))
def U (b v : List UInt8) : Nat → List UInt8
  | 0 => []
  | n + 1 => U b v n ++ attT b v n
def A (v : List UInt8) : Nat → List S39
  | 0 => []
  | n + 1 => A v n ++ [Tk.at_ (nmA n) (v ++ dg n)]
theorem names_fact {i : Nat} (hi : i < 12) : (∀ c ∈ nmA i, Tk.within c = true) ∧ (∀ j, j < 12 → i ≠ j → nmA i ≠ nmA j) ∧ (dg i).length ≤ 2 ∧ (∀ c ∈ dg i, c ≠ 34 ∧ c ≠ 38 ∧ c ≠ 60 ∧ Tk.allowed c = true) := by
  have h := List.all_eq_true.1 names_few i (List.mem_range.2 hi)
  simp only [Bool.and_eq_true, decide_eq_true_eq] at h
  obtain ⟨⟨⟨h1, h2⟩, h3⟩, h4⟩ := h
  refine ⟨fun c hc => List.all_eq_true.1 h1 c hc, fun j hj hne => ?_, h3, fun c hc => ?_⟩
  · have := List.all_eq_true.1 h2 j (List.mem_range.2 hj)
    simp only [Bool.or_eq_true, beq_iff_eq, bne_iff_ne] at this
    exact this.resolve_left hne
  · have := List.all_eq_true.1 h4 c hc
    simp only [Bool.and_eq_true, bne_iff_ne] at this
    exact ⟨this.1.1.1, this.1.1.2, this.1.2, this.2⟩
theorem A_names (v : List UInt8) : ∀ (n : Nat) (x : S39), x ∈ A v n → ∃ j, j < n ∧ x.f0 = Tk.bs (nmA j)
  | 0, x, h => by simp [A] at h
  | n + 1, x, h => by
    rcases List.mem_append.1 (show x ∈ A v n ++ [Tk.at_ (nmA n) (v ++ dg n)] from h) with h | h
    · obtain ⟨j, hj, e⟩ := A_names v n x h
      exact ⟨j, by omega, e⟩
    · rw [List.mem_singleton] at h
      exact ⟨n, by omega, by rw [h]; rfl⟩
theorem A_any (v : List UInt8) (n : Nat) (hn : n < 12) : (A v n).any (fun x => x.f0.toList == (Tk.bs (nmA n)).toList) = false := by
  rw [Bool.eq_false_iff]
  intro h
  obtain ⟨x, hx, he⟩ := List.any_eq_true.1 h
  obtain ⟨j, hj, e⟩ := A_names v n x hx
  rw [e, bs_toList, bs_toList, beq_iff_eq] at he
  exact (names_fact hn).2.1 j (by omega) (by omega) he.symm
def vOk (v : List UInt8) : Prop := (∀ c ∈ v, c ≠ 34 ∧ c ≠ 38 ∧ c ≠ 60 ∧ Tk.allowed c = true) ∧ v.length ≤ 40
theorem attrs_step (b v r : List UInt8) (K n : Nat) (nm : List UInt8) (hb : blankOk b) (hv : vOk v) (hn : n < 12) : Tk.attrs (K + 1) nm (A v n) (attT b v n ++ r) = Tk.attrs K nm (A v (n + 1)) r := by
  obtain ⟨h1, _, _, h4⟩ := names_fact hn
  have hat := attr_one b (nmA n) (v ++ dg n) r hb h1 ⟨110, dg n, rfl, by decide⟩ (fun c hc => by
    rcases List.mem_append.1 hc with hc | hc
    · exact ⟨(hv.1 c hc).1, (hv.1 c hc).2.1, (hv.1 c hc).2.2.1⟩
    · exact ⟨(h4 c hc).1, (h4 c hc).2.1, (h4 c hc).2.2.1⟩)
  have e : attT b v n ++ r = b ++ (nmA n ++ (b ++ (61 :: (b ++ (34 :: ((v ++ dg n) ++ (34 :: r))))))) := by
    unfold attT
    simp
  have hsk : Tk.skip (attT b v n ++ r) = nmA n ++ (b ++ (61 :: (b ++ (34 :: ((v ++ dg n) ++ (34 :: r)))))) := by
    rw [e]
    exact skip_blank b _ hb.2.1 (fun c q h => by
      have : c = 110 := by unfold nmA at h; injection h with h _; exact h.symm
      subst this; decide)
  have hl : ¬ (Tk.skip (attT b v n ++ r)).length = (attT b v n ++ r).length := by
    rw [hsk, e]
    generalize nmA n ++ _ = X
    rw [List.length_append]
    have : b.length ≠ 0 := fun h => hb.1 (List.eq_nil_of_length_eq_zero h)
    omega
  have n1 : Tk.behind [62] (Tk.skip (attT b v n ++ r)) = none := by
    rw [hsk]; unfold Tk.behind nmA; rw [if_neg (by simp [List.isPrefixOf])]
  have n2 : Tk.behind [47, 62] (Tk.skip (attT b v n ++ r)) = none := by
    rw [hsk]; unfold Tk.behind nmA; rw [if_neg (by simp [List.isPrefixOf])]
  rw [Tk.attrs]
  simp only [n1, n2]
  rw [if_neg hl, hsk, hat, Option.bind_some]
  dsimp only
  rw [show (Tk.at_ (nmA n) (v ++ dg n)).f0 = Tk.bs (nmA n) from rfl, A_any v n hn, if_neg (by decide)]
  rfl
theorem attrs_all (b v : List UInt8) (nm : List UInt8) (hb : blankOk b) (hv : vOk v) : ∀ (n K : Nat) (r : List UInt8), n ≤ 12 → Tk.attrs (K + n) nm [] (U b v n ++ r) = Tk.attrs K nm (A v n) r
  | 0, K, r, _ => by rw [U, List.nil_append]; rfl
  | n + 1, K, r, hn => by
    rw [U, List.append_assoc, show K + (n + 1) = (K + 1) + n by omega, attrs_all b v nm hb hv n (K + 1) _ (by omega), attrs_step b v r K n nm hb hv (by omega)]
theorem U_len (b v : List UInt8) (hb : blankOk b) (hv : vOk v) : ∀ n, n ≤ 12 → n ≤ (U b v n).length ∧ (U b v n).length ≤ 60 * n
  | 0, _ => ⟨Nat.zero_le _, Nat.le_refl _⟩
  | n + 1, hn => by
    have ih := U_len b v hb hv n (by omega)
    have h3 := (names_fact (show n < 12 by omega)).2.2.1
    have hb3 := hb.2.2
    have hv3 := hv.2
    have : (attT b v n).length = b.length + (1 + (dg n).length) + b.length + 1 + b.length + 1 + (v.length + (dg n).length) + 1 := by
      unfold attT nmA
      simp only [List.length_append, List.length_cons, List.length_nil]
      omega
    rw [U, List.length_append, this]
    omega
theorem U_allowed (b v : List UInt8) (hb : blankOk b) (hv : vOk v) : ∀ n, n ≤ 12 → ∀ c ∈ U b v n, Tk.allowed c = true
  | 0, _, c, h => by simp [U] at h
  | n + 1, hn, c, h => by
    have hnf := names_fact (show n < 12 by omega)
    rcases List.mem_append.1 (show c ∈ U b v n ++ attT b v n from h) with h | h
    · exact U_allowed b v hb hv n (by omega) c h
    · unfold attT nmA at h
      simp only [List.mem_append, List.mem_cons, List.mem_nil_iff, or_false] at h
      have hbl : ∀ c ∈ b, Tk.allowed c = true := fun c hc => (space_facts (hb.2.1 c hc)).2.1
      have hdg : ∀ c ∈ dg n, Tk.allowed c = true := fun c hc => (hnf.2.2.2 c hc).2.2.2
      rcases h with h | (h | h) | h | h | h | h | (h | h) | h
      · exact hbl c h
      · subst h; decide
      · exact hdg c h
      · exact hbl c h
      · subst h; decide
      · exact hbl c h
      · subst h; decide
      · exact (hv.1 c h).2.2.2
      · exact hdg c h
      · subst h; decide
/-- What a file is told as that is one beginning. -/
theorem split_open (x : List UInt8) (hns : ∀ c r, x = c :: r → Tk.within c = false) (hlen : x.length ≤ 19000) (hall : ∀ c ∈ x, Tk.allowed c = true) :
    Tk.split (60 :: 101 :: x) = match Tk.attrs (x.length + 2) [101] [] x with
      | some (t, r) => (match Tk.pieces (x.length + 2) false r with | some l => (t :: l, 0) | none => ([], 5))
      | none => ([], 5) := by
  have hh : Tk.head (101 :: x) = [101] := by
    have := head_app 101 [] x (by decide) (fun d hd => absurd hd (by simp)) hns
    simpa using this
  have hn : Tk.next true (60 :: 101 :: x) = Tk.attrs (x.length + 2) [101] [] x := by
    have b1 : Tk.behind [60, 33, 45, 45] (60 :: 101 :: x) = none := by unfold Tk.behind; rw [if_neg (by simp [List.isPrefixOf])]
    have b2 : Tk.behind [60, 33, 91, 67, 68, 65, 84, 65, 91] (60 :: 101 :: x) = none := by unfold Tk.behind; rw [if_neg (by simp [List.isPrefixOf])]
    have b3 : Tk.behind [60, 63] (60 :: 101 :: x) = none := by unfold Tk.behind; rw [if_neg (by simp [List.isPrefixOf])]
    have b4 : Tk.behind [60, 47] (60 :: 101 :: x) = none := by unfold Tk.behind; rw [if_neg (by simp [List.isPrefixOf])]
    have b5 : Tk.behind [60] (60 :: 101 :: x) = some (101 :: x) := by unfold Tk.behind; rw [if_pos (by simp [List.isPrefixOf])]; rfl
    unfold Tk.next
    simp only [b1, b2, b3, b4, b5]
    unfold Tk.opening
    rw [hh, if_neg (by simp)]
    rfl
  unfold Tk.split
  rw [if_neg (by simp only [List.length_cons]; omega)]
  have hno : (60 :: 101 :: x).any (fun c => !Tk.allowed c) = false := by
    rw [Bool.eq_false_iff]
    intro h
    obtain ⟨c, hc, h⟩ := List.any_eq_true.1 h
    rcases List.mem_cons.1 hc with rfl | hc
    · exact absurd h (by decide)
    rcases List.mem_cons.1 hc with rfl | hc
    · exact absurd h (by decide)
    rw [hall c hc] at h
    exact absurd h (by decide)
  rw [hno, if_neg (by decide)]
  rw [show (60 :: 101 :: x).length + 1 = (x.length + 2) + 1 by simp, Tk.pieces, if_neg (by simp), hn]
  cases Tk.attrs (x.length + 2) [101] [] x with
  | none => rfl
  | some p =>
    obtain ⟨t, r⟩ := p
    rw [Option.bind_some]
    dsimp only
    cases Tk.pieces (x.length + 2) false r with
    | none => rfl
    | some l => rfl
theorem first_blank {b x : List UInt8} (hb : blankOk b) : ∀ c r, b ++ x = c :: r → Tk.within c = false := by
  intro c r h
  cases b with
  | nil => exact absurd rfl hb.1
  | cons b0 b1 =>
    injection h with h _
    exact (space_facts (hb.2.1 c (by rw [h]; simp))).1
theorem U_blank {b v x : List UInt8} (hb : blankOk b) (hv : vOk v) : ∀ n, ∀ c r, U b v n ++ (b ++ x) = c :: r → Tk.within c = false
  | 0, c, r, h => first_blank hb c r h
  | n + 1, c, r, h => by
    rw [U, List.append_assoc] at h
    unfold attT at h
    rw [List.append_assoc b] at h
    exact U_blank (x := _) hb hv n c r h
theorem told_one (b v : List UInt8) (n : Nat) (hn : n < 12) (hb : blankOk b) (hv : vOk v) : Tk.split (60 :: 101 :: (U b v n ++ (b ++ [47, 62]))) = ([Tk.tk 1 [101] [] (A v n) true], 0) := by
  have hl := U_len b v hb hv n (by omega)
  have hb3 := hb.2.2
  rw [split_open _ (U_blank hb hv n) (by simp only [List.length_append, List.length_cons, List.length_nil]; omega) (fun c hc => by
    rcases List.mem_append.1 hc with hc | hc
    · exact U_allowed b v hb hv n (by omega) c hc
    rcases List.mem_append.1 hc with hc | hc
    · exact (space_facts (hb.2.1 c hc)).2.1
    · exact (by decide : ∀ c ∈ ([47, 62] : List UInt8), Tk.allowed c = true) c hc)]
  have e : Tk.attrs ((U b v n ++ (b ++ [47, 62])).length + 2) [101] [] (U b v n ++ (b ++ [47, 62])) = some (Tk.tk 1 [101] [] (A v n) true, []) := by
    obtain ⟨K, hK⟩ : ∃ K, (U b v n ++ (b ++ [47, 62])).length + 2 = (K + 1) + n := ⟨(U b v n ++ (b ++ [47, 62])).length + 1 - n, by simp only [List.length_append, List.length_cons, List.length_nil]; omega⟩
    rw [hK, attrs_all b v [101] hb hv n (K + 1) _ (by omega), Tk.attrs]
    have hsk : Tk.skip (b ++ [47, 62]) = [47, 62] := skip_blank b _ hb.2.1 (fun c q h => by injection h with h _; subst h; decide)
    simp only [hsk]
    rfl
  rw [e]
  rfl
theorem told_twice (b v : List UInt8) (n : Nat) (hn : n < 12) (hb : blankOk b) (hv : vOk v) : Tk.split (60 :: 101 :: (U b v n ++ (b ++ [110, 48, 61, 39, 39, 32, 110, 48, 61, 39, 39, 47, 62]))) = ([], 5) := by
  have hl := U_len b v hb hv n (by omega)
  have hb3 := hb.2.2
  rw [split_open _ (U_blank hb hv n) (by simp only [List.length_append, List.length_cons, List.length_nil]; omega) (fun c hc => by
    rcases List.mem_append.1 hc with hc | hc
    · exact U_allowed b v hb hv n (by omega) c hc
    rcases List.mem_append.1 hc with hc | hc
    · exact (space_facts (hb.2.1 c hc)).2.1
    · exact (by decide : ∀ c ∈ ([110, 48, 61, 39, 39, 32, 110, 48, 61, 39, 39, 47, 62] : List UInt8), Tk.allowed c = true) c hc)]
  have e : Tk.attrs ((U b v n ++ (b ++ [110, 48, 61, 39, 39, 32, 110, 48, 61, 39, 39, 47, 62])).length + 2) [101] [] (U b v n ++ (b ++ [110, 48, 61, 39, 39, 32, 110, 48, 61, 39, 39, 47, 62])) = none := by
    obtain ⟨K, hK⟩ : ∃ K, (U b v n ++ (b ++ [110, 48, 61, 39, 39, 32, 110, 48, 61, 39, 39, 47, 62])).length + 2 = (K + 2) + n := ⟨(U b v n ++ (b ++ [110, 48, 61, 39, 39, 32, 110, 48, 61, 39, 39, 47, 62])).length - n, by simp only [List.length_append, List.length_cons, List.length_nil]; omega⟩
    rw [hK, attrs_all b v [101] hb hv n (K + 2) _ (by omega), Tk.attrs]
    have hsk : Tk.skip (b ++ [110, 48, 61, 39, 39, 32, 110, 48, 61, 39, 39, 47, 62]) = [110, 48, 61, 39, 39, 32, 110, 48, 61, 39, 39, 47, 62] := skip_blank b _ hb.2.1 (fun c q h => by injection h with h _; subst h; decide)
    simp only [hsk]
    have n1 : Tk.behind [62] [110, 48, 61, 39, 39, 32, 110, 48, 61, 39, 39, 47, 62] = none := by kernel_rfl
    have n2 : Tk.behind [47, 62] [110, 48, 61, 39, 39, 32, 110, 48, 61, 39, 39, 47, 62] = none := by kernel_rfl
    have n3 : Tk.attr [110, 48, 61, 39, 39, 32, 110, 48, 61, 39, 39, 47, 62] = some (Tk.at_ [110, 48] [], [32, 110, 48, 61, 39, 39, 47, 62]) := by kernel_rfl
    simp only [n1, n2, n3, Option.bind_some]
    split
    · rfl
    · cases n with
      | zero =>
        rw [A, List.any_nil, if_neg (by decide), List.nil_append, Tk.attrs]
        have m0 : Tk.skip [32, 110, 48, 61, 39, 39, 47, 62] = [110, 48, 61, 39, 39, 47, 62] := by kernel_rfl
        have m1 : Tk.behind [62] [110, 48, 61, 39, 39, 47, 62] = none := by kernel_rfl
        have m2 : Tk.behind [47, 62] [110, 48, 61, 39, 39, 47, 62] = none := by kernel_rfl
        have m3 : Tk.attr [110, 48, 61, 39, 39, 47, 62] = some (Tk.at_ [110, 48] [], [47, 62]) := by kernel_rfl
        simp only [m0, m1, m2, m3, Option.bind_some]
        split
        · rfl
        · rw [if_pos (by kernel_rfl)]
      | succ n =>
        have : (A v (n + 1)).any (fun x => x.f0.toList == (Tk.at_ [110, 48] []).f0.toList) = true := by
          have hm : ∀ n, Tk.at_ (nmA 0) (v ++ dg 0) ∈ A v (n + 1) := by
            intro n
            induction n with
            | zero => simp [A]
            | succ n ih =>
              rw [A]
              exact List.mem_append_left _ ih
          exact List.any_eq_true.2 ⟨_, hm n, by kernel_rfl⟩
        rw [if_pos this]
  rw [e]

theorem awake02 : newellaw02_awake.f = some true := by kernel_rfl
theorem rdA (xs : List S39) (i : Nat) (h : i < xs.length) : rd_T39 xs (i : Int) = xs[i] := by
  simp [rd_T39, List.getD, h]
theorem same_loop (l : List S39) (hl : l.length ≤ 1000) : ∀ (d i k : Nat), i + d = l.length → d < k → api_Attr_35.l0 k l l (i : Int) = some true := by
  intro d
  induction d with
  | zero =>
    intro i k hi hk
    obtain ⟨k, rfl⟩ : ∃ m, k = m + 1 := ⟨k - 1, by omega⟩
    rw [api_Attr_35.l0, if_neg (by omega)]
  | succ d ih =>
    intro i k hi hk
    obtain ⟨k, rfl⟩ : ∃ m, k = m + 1 := ⟨k - 1, by omega⟩
    rw [api_Attr_35.l0, if_pos (by omega), if_pos (by omega), if_pos (by omega)]
    have h1 : api_Attr_1.f (rd_T39 l (i : Int)).f0 (rd_T39 l (i : Int)).f1 (rd_T39 l (i : Int)).f0 (rd_T39 l (i : Int)).f1 = some true := by
      unfold api_Attr_1.f; simp
    have hw : wrap64 ((i : Int) + 1) = ((i + 1 : Nat) : Int) := by unfold wrap64; omega
    rw [h1, Option.bind_some, if_pos rfl, hw]
    exact ih (i + 1) k (by omega) (by omega)
theorem same_self (l : List S39) (hl : l.length ≤ 1000) (k : Nat) (hk : l.length < k) : api_Attr_21.f k l l = some true := by
  unfold api_Attr_21.f api_Attr_35.f
  rw [if_pos rfl]
  rw [show (0 : Int) = ((0 : Nat) : Int) from rfl, same_loop l hl l.length 0 k (by omega) hk]
  rfl
theorem A_len (v : List UInt8) : ∀ n, (A v n).length = n
  | 0 => rfl
  | n + 1 => by rw [A, List.length_append, A_len v n]; rfl
theorem bs_ext {a b : ByteArray} (h : a.data.toList = b.data.toList) : a = b := by rw [← bs_data a, ← bs_data b, h]
theorem lit_bs (l : List UInt8) : (⟨l.toArray⟩ : ByteArray) = Tk.bs l := rfl
theorem split_told (x : List UInt8) (r : List S32 × Int) (hl : x.length ≤ 100000) (h : Tk.split x = r) : token_Split.f (Tk.bs x) = some r := by
  unfold token_Split.f
  rw [if_pos (by rw [bs_size]; omega)]
  show some (Tk.split x) = _
  rw [h]
/-- The last loop: the attributes are put together, and told. -/
theorem attrs_loop (b v : List UInt8) (n : Nat) (hn : n < 12) (hb : blankOk b) (hv : vOk v) : ∀ (d i k : Nat), i + d = n → d + 20 ≤ k → newellaw02_TokenAttrs.l1 k (n : Int) (Tk.bs b) (Tk.bs v) (Tk.bs (60 :: 101 :: U b v i)) (A v i) (i : Int) = some true := by
  intro d
  have hb3 := hb.2.2
  have hv3 := hv.2
  have z1 : (⟨#[47, 62]⟩ : ByteArray) = Tk.bs [47, 62] := rfl
  have z2 : (⟨#[110, 48, 61, 39, 39, 32, 110, 48, 61, 39, 39, 47, 62]⟩ : ByteArray) = Tk.bs [110, 48, 61, 39, 39, 32, 110, 48, 61, 39, 39, 47, 62] := rfl
  have z3 : (⟨#[110]⟩ : ByteArray) = Tk.bs [110] := rfl
  have z4 : (⟨#[61]⟩ : ByteArray) = Tk.bs [61] := rfl
  have z5 : (⟨#[34]⟩ : ByteArray) = Tk.bs [34] := rfl
  induction d with
  | zero =>
    intro i k hi hk
    obtain rfl : i = n := by omega
    obtain ⟨k, rfl⟩ : ∃ m, k = m + 1 := ⟨k - 1, by omega⟩
    have hU := U_len b v hb hv i (by omega)
    have e1 := told_one b v i hn hb hv
    have e2 := told_twice b v i hn hb hv
    have f1 := split_told _ _ (by simp only [List.length_cons, List.length_append, List.length_nil]; omega) e1
    have f2 := split_told _ _ (by simp only [List.length_cons, List.length_append, List.length_nil]; omega) e2
    rw [newellaw02_TokenAttrs.l1, if_neg (by omega)]
    rw [bs_append, z1, z2, bs_append, bs_append]
    rw [if_pos (by rw [bs_size, bs_size]; simp only [List.length_cons]; omega), if_pos (by rw [bs_size]; simp only [List.length_cons, List.length_append]; omega)]
    have g1 : 60 :: 101 :: U b v i ++ b ++ [47, 62] = 60 :: 101 :: (U b v i ++ (b ++ [47, 62])) := by simp
    have g2 : 60 :: 101 :: U b v i ++ b ++ [110, 48, 61, 39, 39, 32, 110, 48, 61, 39, 39, 47, 62] = 60 :: 101 :: (U b v i ++ (b ++ [110, 48, 61, 39, 39, 32, 110, 48, 61, 39, 39, 47, 62])) := by simp
    rw [g1, g2, f1, Option.bind_some, if_pos (by rw [bs_size]; simp only [List.length_cons, List.length_append]; omega), f2, Option.bind_some, awake02, Option.bind_some, if_pos rfl, if_pos rfl, if_pos (by rfl), if_pos (by simp)]
    have hr : rd_T32 ([Tk.tk 1 [101] [] (A v i) true], (0 : Int)).1 0 = Tk.tk 1 [101] [] (A v i) true := rfl
    rw [hr, if_pos (show (Tk.tk 1 [101] [] (A v i) true).f4 = true from rfl)]
    rw [show (Tk.tk 1 [101] [] (A v i) true).f3 = A v i from rfl, same_self (A v i) (by rw [A_len]; omega) k (by rw [A_len]; omega), Option.bind_some, if_pos rfl]
    rfl
  | succ d ih =>
    intro i k hi hk
    obtain ⟨k, rfl⟩ : ∃ m, k = m + 1 := ⟨k - 1, by omega⟩
    have hU := U_len b v hb hv i (by omega)
    have hU1 := U_len b v hb hv (i + 1) (by omega)
    have hdl := (names_fact (show i < 12 by omega)).2.2.1
    have hdt : newelhelp_Digits.f k (i : Int) = some (Tk.bs (dg i)) := by
      obtain ⟨j, rfl⟩ : ∃ j, k = j + 3 := ⟨k - 3, by omega⟩
      exact digits_told j i (by omega)
    have hw : wrap64 ((i : Int) + 1) = ((i + 1 : Nat) : Int) := by unfold wrap64; omega
    rw [newellaw02_TokenAttrs.l1, if_pos (by omega), hdt, Option.bind_some, Option.bind_some, z3, z4, z5]
    simp only [bs_append]
    have hx : (60 :: 101 :: U b v i ++ b ++ ([110] ++ dg i) ++ b ++ [61] ++ b ++ [34] ++ (v ++ dg i) ++ [34]) = 60 :: 101 :: U b v (i + 1) := by
      rw [U]
      unfold attT nmA
      simp
    rw [hx, hw]
    have s1 : ∀ l : List UInt8, (Tk.bs l).size = l.length := bs_size
    simp only [s1, List.length_append, List.length_cons, List.length_nil]
    rw [if_pos (by omega), if_pos (by omega), if_pos (by omega), if_pos (by omega), if_pos (by omega), if_pos (by omega), if_pos (by omega), if_pos (by omega), if_pos (by omega), if_pos (by omega), if_pos (by rw [A_len]; omega)]
    exact ih (i + 1) k (by omega) (by omega)
theorem okV_facts : (List.range 256).all (fun n => !(decide (32 ≤ n) && n != 60 && n != 38 && n != 34) || (UInt8.ofNat n != 34 && UInt8.ofNat n != 38 && UInt8.ofNat n != 60 && Tk.allowed (UInt8.ofNat n))) = true := by kernel_rfl
theorem okV_fact {c : UInt8} (h1 : 32 ≤ c.toNat) (h2 : c.toNat ≠ 60) (h3 : c.toNat ≠ 38) (h4 : c.toNat ≠ 34) : c ≠ 34 ∧ c ≠ 38 ∧ c ≠ 60 ∧ Tk.allowed c = true := by
  have := List.all_eq_true.1 okV_facts c.toNat (List.mem_range.2 c.toNat_lt)
  rw [UInt8.ofNat_toNat, decide_eq_true h1, show (c.toNat != 60) = true from bne_iff_ne.2 h2, show (c.toNat != 38) = true from bne_iff_ne.2 h3, show (c.toNat != 34) = true from bne_iff_ne.2 h4] at this
  simpa [and_assoc] using this
/-- The first loop: the value's signs. -/
theorem value_loop (b s : List UInt8) (n : Nat) (hn : n < 12) (hb : blankOk b) (hs : s.length ≤ 140737488351232) : ∀ (d i : Nat) (v : List UInt8) (k : Nat), i + d = min s.length 40 → v.length ≤ i → (∀ c ∈ v, c ≠ 34 ∧ c ≠ 38 ∧ c ≠ 60 ∧ Tk.allowed c = true) → 2 * d + 40 ≤ k →
    newellaw02_TokenAttrs.l0 k (n : Int) (Tk.bs s) (Tk.bs b) (Tk.bs v) (i : Int) = some true := by
  intro d
  have hsz := bs_size s
  have last : ∀ (v : List UInt8) (k : Nat), v.length ≤ 40 → (∀ c ∈ v, c ≠ 34 ∧ c ≠ 38 ∧ c ≠ 60 ∧ Tk.allowed c = true) → 35 ≤ k → newellaw02_TokenAttrs.l1 k (n : Int) (Tk.bs b) (Tk.bs v) (⟨#[60, 101]⟩ : ByteArray) ([] : List S39) 0 = some true := by
    intro v k hv hc hk
    exact attrs_loop b v n hn hb ⟨hc, hv⟩ n 0 k (by omega) (by omega)
  induction d with
  | zero =>
    intro i v k hi hv hc hk
    obtain ⟨k, rfl⟩ : ∃ m, k = m + 2 := ⟨k - 2, by omega⟩
    rw [newellaw02_TokenAttrs.l0, hsz]
    by_cases h : i < s.length
    · rw [if_pos (by omega), decide_eq_false (by omega), newellaw02_TokenAttrs.j1, if_neg (by decide)]
      exact last v k (by omega) hc (by omega)
    · rw [if_neg (by omega), newellaw02_TokenAttrs.j1, if_neg (by decide)]
      exact last v k (by omega) hc (by omega)
  | succ d ih =>
    intro i v k hi hv hc hk
    obtain ⟨k, rfl⟩ : ∃ m, k = m + 2 := ⟨k - 2, by omega⟩
    have hlt : i < s.length := by omega
    have hw : wrap64 ((i : Int) + 1) = ((i + 1 : Nat) : Int) := by unfold wrap64; omega
    have hbt := bs_bt s i hlt
    rw [newellaw02_TokenAttrs.l0, hsz, if_pos (by omega), decide_eq_true (by omega), newellaw02_TokenAttrs.j1, if_pos (by rfl), hsz, if_pos (by omega), if_pos (by omega), hbt, hw]
    have go := fun v hv hc => ih (i + 1) v k (by omega) hv hc (by omega)
    by_cases h1 : 32 ≤ (s[i]).toNat
    · rw [if_pos (by omega)]
      by_cases h2 : (s[i]).toNat = 60
      · rw [if_pos (by omega)]
        exact go v (by omega) hc
      rw [if_neg (by omega)]
      by_cases h3 : (s[i]).toNat = 38
      · rw [if_pos (by omega)]
        exact go v (by omega) hc
      rw [if_neg (by omega)]
      by_cases h4 : (s[i]).toNat = 34
      · rw [if_pos (by omega)]
        exact go v (by omega) hc
      rw [if_neg (by omega), if_pos (by omega), if_pos (by omega)]
      have hex : (Tk.bs s).extract ((i : Int)).toNat (((i + 1 : Nat) : Int)).toNat = Tk.bs [s[i]] := by
        refine bs_ext ?_
        rw [Lib.extract_data, Int.toNat_natCast, Int.toNat_natCast]
        show (s.drop i).take (i + 1 - i) = [s[i]]
        rw [List.drop_eq_getElem_cons hlt, show i + 1 - i = 1 by omega]
        rfl
      rw [hex, bs_append, if_pos (by rw [bs_size, bs_size]; simp only [List.length_cons, List.length_nil]; omega)]
      refine go (v ++ [s[i]]) (by rw [List.length_append]; simp only [List.length_cons, List.length_nil]; omega) (fun c hcm => ?_)
      rcases List.mem_append.1 hcm with hcm | hcm
      · exact hc c hcm
      · rw [List.mem_singleton] at hcm
        subst hcm
        exact okV_fact h1 h2 h3 h4
    · rw [if_neg (by omega)]
      exact go v (by omega) hc
theorem blank_few (j : Nat) (hj : j < 3) : ∃ b, rdOf ByteArray.empty [(⟨#[32]⟩ : ByteArray), (⟨#[10]⟩ : ByteArray), (⟨#[9, 32, 13]⟩ : ByteArray)] (j : Int) = Tk.bs b ∧ blankOk b := by
  match j, hj with
  | 0, _ => exact ⟨[32], rfl, by decide, by decide, by decide⟩
  | 1, _ => exact ⟨[10], rfl, by decide, by decide, by decide⟩
  | 2, _ => exact ⟨[9, 32, 13], rfl, by decide, by decide, by decide⟩
theorem tmod_few (x : Int) (m : Nat) (hm : 0 < m) (hm2 : m < 1000) : ∃ n : Nat, n < m ∧ wrap64 (Int.tmod (IntKind.u64.wrap x) m) = (n : Int) := by
  have h0 : 0 ≤ IntKind.u64.wrap x := by rw [IntKind.wrap_u64]; omega
  have h1 := Int.tmod_nonneg (m : Int) h0
  have h2 := Int.tmod_lt_of_pos (IntKind.u64.wrap x) (show (0 : Int) < (m : Int) by omega)
  obtain ⟨n, hn⟩ := Int.eq_ofNat_of_zero_le h1
  exact ⟨n, by omega, by rw [hn]; unfold wrap64; omega⟩
theorem TokenAttrs : newellaw02_TokenAttrs.Pure := by
  intro a0 a1 a2 _ _ hs
  obtain ⟨n, hn, e0⟩ := tmod_few a0 12 (by decide) (by decide)
  obtain ⟨j, hj, e1⟩ := tmod_few a1 3 (by decide) (by decide)
  obtain ⟨b, hb, hbk⟩ := blank_few j hj
  refine ⟨2 * min a2.data.toList.length 40 + 40, ?_⟩
  unfold newellaw02_TokenAttrs.f
  rw [Option.bind_some]
  rw [show ((12 : Nat) : Int) = 12 from rfl] at e0
  rw [show ((3 : Nat) : Int) = 3 from rfl] at e1
  rw [e0, e1, hb]
  clear e0 e1
  rw [if_pos (by omega), if_pos (by simp only [List.length_cons, List.length_nil]; omega)]
  have hs2 : a2.data.toList.length ≤ 140737488351232 := by rw [← Lib.size_eq]; omega
  have := value_loop b a2.data.toList n hn hbk hs2 (min a2.data.toList.length 40) 0 [] (2 * min a2.data.toList.length 40 + 40) (by omega) (Nat.le_refl 0) (fun c h => absurd h (by simp)) (by omega)
  rw [bs_data] at this
  exact this
end Go.Proofs.Ytomikblbfappnaa.Pure
