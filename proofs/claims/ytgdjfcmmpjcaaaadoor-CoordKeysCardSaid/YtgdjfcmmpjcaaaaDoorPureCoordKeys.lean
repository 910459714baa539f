/- The plain law of CoordKeys, about the functions that the walks compute. -/
import Derived.Test.YtgdjfcmmpjcaaaaDoorBCoordKeys
import Derived.Test.YtgdjfcmmpjcaaaaDoorPCoord
namespace Go.Proofs.YtgdjfcmmpjcaaaaDoor.Pure
open Go Go.RowKit Go.Proofs.YtgdjfcmmpjcaaaaDoor.Q Go.Proofs.YtgdjfcmmpjcaaaaDoorW.PrintWords Go.Proofs.YtgdjfcmmpjcaaaaDoorW.PrintLast Go.Proofs.YtgdjfcmmpjcaaaaDoorW.Own Go.Proofs.YtgdjfcmmpjcaaaaDoorW.PrintMore Go.Proofs.YtgdjfcmmpjcaaaaDoorW.Px
set_option linter.unusedSimpArgs false
set_option linter.unusedVariables false
theorem colon_cut : ∀ {a a' b b' : List UInt8}, (∀ x ∈ a, x ≠ 58) → (∀ x ∈ a', x ≠ 58) → a ++ 58 :: b = a' ++ 58 :: b' → a = a' ∧ b = b'
  | [], [], b, b', _, _, h => ⟨rfl, by simpa using h⟩
  | [], c :: l, b, b', _, h', h => by
    have : c = 58 := by have := List.head_eq_of_cons_eq h; exact this.symm
    exact absurd this (h' c (List.mem_cons_self ..))
  | c :: l, [], b, b', h0, _, h => by
    have : c = 58 := List.head_eq_of_cons_eq h
    exact absurd this (h0 c (List.mem_cons_self ..))
  | c :: l, d :: m, b, b', h0, h', h => by
    have e1 : c = d := List.head_eq_of_cons_eq h
    have e2 : l ++ 58 :: b = m ++ 58 :: b' := List.tail_eq_of_cons_eq h
    obtain ⟨e3, e4⟩ := colon_cut (fun x hx => h0 x (List.mem_cons_of_mem _ hx)) (fun x hx => h' x (List.mem_cons_of_mem _ hx)) e2
    exact ⟨by rw [e1, e3], e4⟩
theorem may8_colon : may8 58 = false := by decide
theorem all_colon {l : List UInt8} (h : l.all may8 = true) : ∀ x ∈ l, x ≠ 58 := by
  rintro x hx rfl
  have := List.all_eq_true.1 h _ hx
  rw [may8_colon] at this
  exact absurd this (by decide)
theorem id_parts {l : List UInt8} (h : idOk l = true) : l.length ≤ 500 ∧ l.all may8 = true := by
  unfold idOk at h
  rw [Bool.and_eq_true, Bool.and_eq_true, decide_eq_true_eq] at h
  exact ⟨h.1.2, h.2⟩
def depOk (g a t c : List UInt8) : Bool := idOk g && idOk a && (t.isEmpty || idOk t) && (c.isEmpty || idOk c)
theorem dep_told (g a v t c s : ByteArray) (o : Bool) (x : List S183) (k : Nat) (hk : 502 ≤ k) :
    newellaw09_CoordKeys_1.f k g a v t c s o x = some (depOk g.data.toList a.data.toList t.data.toList c.data.toList) := by
  unfold newellaw09_CoordKeys_1.f depOk
  rw [id_told g k hk, id_told a k hk, id_told t k hk, id_told c k hk]
  simp only [Option.bind_some, ba_toList]
  have e : ∀ l : List UInt8, l.isEmpty = decide (l = []) := fun l => by cases l <;> rfl
  rw [e, e]
  cases idOk g.data.toList <;> cases idOk a.data.toList <;> cases idOk t.data.toList <;> cases idOk c.data.toList <;> by_cases h1 : t.data.toList = [] <;> by_cases h2 : c.data.toList = [] <;> simp [h1, h2]
theorem dep_parts {g a t c : List UInt8} (h : depOk g a t c = true) : (g.length ≤ 500 ∧ g.all may8 = true) ∧ (a.length ≤ 500 ∧ a.all may8 = true) ∧ (t.length ≤ 500 ∧ t.all may8 = true) ∧ (c.length ≤ 500 ∧ c.all may8 = true) := by
  unfold depOk at h
  rw [Bool.and_eq_true, Bool.and_eq_true, Bool.and_eq_true] at h
  have f : ∀ l : List UInt8, (l.isEmpty || idOk l) = true → l.length ≤ 500 ∧ l.all may8 = true := fun l hl => by
    cases l with
    | nil => exact ⟨by simp, rfl⟩
    | cons x l => exact id_parts (by simpa using hl)
  exact ⟨id_parts h.1.1.1, id_parts h.1.1.2, f t h.1.2, f c h.2⟩
theorem orJar_all {t : List UInt8} (h : t.all may8 = true) : (orJar t).all may8 = true := by
  unfold orJar; split
  · decide
  · exact h
theorem key_eq {g a t c g' a' t' c' : List UInt8} (h : depOk g a t c = true) (h' : depOk g' a' t' c' = true) :
    (keyOf g a t c = keyOf g' a' t' c') ↔ (g = g' ∧ a = a' ∧ orJar t = orJar t' ∧ c = c') := by
  obtain ⟨⟨_, h1⟩, ⟨_, h2⟩, ⟨_, h3⟩, _⟩ := dep_parts h
  obtain ⟨⟨_, k1⟩, ⟨_, k2⟩, ⟨_, k3⟩, _⟩ := dep_parts h'
  constructor
  · intro e
    unfold keyOf at e
    obtain ⟨e1, e⟩ := colon_cut (all_colon h1) (all_colon k1) e
    obtain ⟨e2, e⟩ := colon_cut (all_colon h2) (all_colon k2) e
    obtain ⟨e3, e4⟩ := colon_cut (all_colon (orJar_all h3)) (all_colon (orJar_all k3)) e
    exact ⟨e1, e2, e3, e4⟩
  · rintro ⟨rfl, rfl, e, rfl⟩
    unfold keyOf
    rw [e]
theorem CoordKeys : newellaw09_CoordKeys.Pure := by
  intro g a v t c s o x g' a' v' t' c' s' o' x' _ _ _ _ _ _ _ _ _ _ _ _ _ _
  refine ⟨999 + 1, ?_⟩
  unfold newellaw09_CoordKeys.f
  rw [dep_told _ _ _ _ _ _ _ _ _ (by decide), Option.bind_some]
  have sleep : ∀ (x19 : Bool), x19 = true → newellaw09_CoordKeys.j0 (999 + 1) x19 g a v t c s o x g' a' v' t' c' s' o' x' = some true := by
    rintro _ rfl
    rw [newellaw09_CoordKeys.j0, if_pos rfl, awake_ge _ (by decide)]; rfl
  by_cases h : depOk g.data.toList a.data.toList t.data.toList c.data.toList = true
  · rw [if_pos h, dep_told _ _ _ _ _ _ _ _ _ (by decide), Option.bind_some]
    by_cases h' : depOk g'.data.toList a'.data.toList t'.data.toList c'.data.toList = true
    · obtain ⟨⟨h1, _⟩, ⟨h2, _⟩, ⟨h3, _⟩, ⟨h4, _⟩⟩ := dep_parts h
      obtain ⟨⟨k1, _⟩, ⟨k2, _⟩, ⟨k3, _⟩, ⟨k4, _⟩⟩ := dep_parts h'
      rw [← ba_size] at h1 h2 h3 h4 k1 k2 k3 k4
      have key1 : ∀ (v s : ByteArray) o x, coord_Key.f 996 g a v t c s o x = some (tx (keyOf g.data.toList a.data.toList t.data.toList c.data.toList)) := fun v s o x => key_told g a v t c s o x 994 (by omega) (by omega) (by omega) (by omega)
      have key2 : ∀ (v s : ByteArray) o x, coord_Key.f 996 g' a' v t' c' s o x = some (tx (keyOf g'.data.toList a'.data.toList t'.data.toList c'.data.toList)) := fun v s o x => key_told g' a' v t' c' s o x 994 (by omega) (by omega) (by omega) (by omega)
      have fin : ∀ b, b = decide (keyOf g.data.toList a.data.toList t.data.toList c.data.toList = keyOf g'.data.toList a'.data.toList t'.data.toList c'.data.toList) →
          newellaw09_CoordKeys.j3 (996 + 1) b g a v t c s o x g' a' v' t' c' s' o' x' g a v' t c s' o' x' = some true := by
        intro b hb
        rw [newellaw09_CoordKeys.j3, awake_ge _ (by decide), Option.bind_some, if_pos rfl, key1, Option.bind_some, key2, Option.bind_some, if_pos, key1, Option.bind_some, Option.bind_some]
        · rw [beq_self_eq_true]
        · rw [hb, ba_toList, ba_toList, tx_toList, tx_toList]
          have e : ∀ x y : List UInt8, ((x == y) == decide (x = y)) = true := fun x y => by by_cases e : x = y <;> simp [e]
          exact e _ _
      have two : ∀ x6 x7 : ByteArray, x6.data.toList = orJar t.data.toList → x7.data.toList = orJar t'.data.toList →
          newellaw09_CoordKeys.j2 (997 + 1) x6 x7 g a v t c s o x g' a' v' t' c' s' o' x' = some true := by
        intro x6 x7 e6 e7
        have ke := key_eq h h'
        rw [newellaw09_CoordKeys.j2]
        simp only [ba_toList]
        rw [e6, e7]
        by_cases d1 : g.data.toList = g'.data.toList
        · rw [if_pos d1]
          by_cases d2 : a.data.toList = a'.data.toList
          · rw [if_pos d2]
            by_cases d3 : orJar t.data.toList = orJar t'.data.toList
            · rw [if_pos d3]
              refine fin _ ?_
              rw [Bool.eq_iff_iff, beq_iff_eq, decide_eq_true_eq, ke]
              exact ⟨fun e => ⟨d1, d2, d3, e⟩, fun e => e.2.2.2⟩
            · rw [if_neg d3]
              exact fin _ (decide_eq_false (fun e => d3 (ke.1 e).2.2.1)).symm
          · rw [if_neg d2]
            exact fin _ (decide_eq_false (fun e => d2 (ke.1 e).2.1)).symm
        · rw [if_neg d1]
          exact fin _ (decide_eq_false (fun e => d1 (ke.1 e).1)).symm
      rw [h', newellaw09_CoordKeys.j0, if_neg (by decide)]
      have jar : (⟨#[106, 97, 114]⟩ : ByteArray).data.toList = [106, 97, 114] := rfl
      have oj : ∀ l : List UInt8, l = [] → ([106, 97, 114] : List UInt8) = orJar l := fun l hl => by unfold orJar; rw [if_pos hl]
      have ok : ∀ l : List UInt8, l ≠ [] → l = orJar l := fun l hl => by unfold orJar; rw [if_neg hl]
      have one : ∀ x6 : ByteArray, x6.data.toList = orJar t.data.toList → newellaw09_CoordKeys.j1 (998 + 1) x6 t' g a v t c s o x g' a' v' t' c' s' o' x' = some true := by
        intro x6 e6
        rw [newellaw09_CoordKeys.j1, ba_toList]
        by_cases d : t'.data.toList = []
        · rw [if_pos d]; exact two _ _ e6 (oj _ d)
        · rw [if_neg d]; exact two _ _ e6 (ok _ d)
      rw [ba_toList]
      by_cases d : t.data.toList = []
      · rw [if_pos d]; exact one _ (oj _ d)
      · rw [if_neg d]; exact one _ (ok _ d)
    · exact sleep _ (by simpa using h')
  · rw [if_neg h]; exact sleep _ rfl
end Go.Proofs.YtgdjfcmmpjcaaaaDoor.Pure
