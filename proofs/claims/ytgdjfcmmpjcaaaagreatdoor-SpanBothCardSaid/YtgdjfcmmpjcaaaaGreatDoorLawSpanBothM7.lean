/- Texts put together: what functions of the program compute, and plain words about them. -/
import Derived.Test.YtgdjfcmmpjcaaaaGreatDoorLawSpanBothM4
import Derived.Test.YtgdjfcmmpjcaaaaGreatDoorLawSpanBothM6
import Derived.Test.YtgdjfcmmpjcaaaaGreatDoorLawSpanBothM5
import Derived.Test.YtgdjfcmmpjcaaaaGreatDoorLawSpanBothM3
import Derived.Test.YtgdjfcmmpjcaaaaGreatDoorLawSpanBothM2
namespace Go.Proofs.YtgdjfcmmpjcaaaaGreatDoor.Pure
open Go Go.RowKit Go.Proofs.YtgdjfcmmpjcaaaaGreatDoor.Q Go.Proofs.YtgdjfcmmpjcaaaaGreatDoorW.PrintWords Go.Proofs.YtgdjfcmmpjcaaaaGreatDoorW.PrintLast Go.Proofs.YtgdjfcmmpjcaaaaGreatDoorW.Own Go.Proofs.YtgdjfcmmpjcaaaaGreatDoorW.PrintMore Go.Proofs.YtgdjfcmmpjcaaaaGreatDoorW.Px
set_option linter.unusedSimpArgs false
set_option linter.unusedVariables false
theorem ref_parts_loop (v : List UInt8) (hv : v.length ≤ 1000000) : ∀ (d i k : Nat) (r : List Pt × Pt), i + d = v.length → r.1.length ≤ i → r.2.tx.length ≤ i →
    newelref05_parts.l0 (k + d + 1) (ts v) ((allP r).map p98) (i : Int) = some ((allP (runP r (v.drop i))).map p98) := by
  intro d
  induction d with
  | zero =>
    intro i k r h _ _
    rw [newelref05_parts.l0, if_neg (by rw [ts_size]; omega), List.drop_eq_nil_of_le (by omega)]
    rfl
  | succ d ih =>
    intro i k r h h1 h2
    have hi : i < v.length := by omega
    have q0 : (i : Int) < ((ts v).size : Int) := by rw [ts_size]; omega
    have hl := all_len p98 r
    have hx : wrap64 ((((allP r).map p98).length : Int) - 1) = (r.1.length : Int) := by rw [hl]; exact last_of _ (by omega)
    have q1 : (0 : Int) ≤ (r.1.length : Int) := by omega
    have q2 : (r.1.length : Int) < (((allP r).map p98).length : Int) := by rw [hl]; omega
    have q3 : (0 : Int) ≤ (i : Int) := by omega
    have q4 : ((allP r).map p98).length < 5864062014805 := by rw [hl]; omega
    have q5 : (i : Int) ≤ ((i + 1 : Nat) : Int) := by omega
    have q6 : ((i + 1 : Nat) : Int) ≤ ((ts v).size : Int) := by rw [ts_size]; omega
    have hn := next_of i (by omega)
    have hr : rd_T91 ((allP r).map p98) (r.1.length : Int) = p98 r.2 := all_getD p98 r _
    have hb := bt_nat v i hi
    have step : ∀ r', stepP r v[i] = r' → r'.1.length ≤ i + 1 → r'.2.tx.length ≤ i + 1 → newelref05_parts.l0 (k + d + 1) (ts v) ((allP r').map p98) ((i + 1 : Nat) : Int) = some ((allP (runP r (v.drop i))).map p98) := by
      intro r' e a b
      rw [ih (i + 1) k r' (by omega) a b, runP_drop r v i hi, e]
    rw [show k + (d + 1) + 1 = (k + d + 1) + 1 from by omega, newelref05_parts.l0, if_pos q0, hx, if_pos q1, if_pos q2, if_pos q3, hr, hb, hn]
    generalize hc : v[i] = c at *
    by_cases c1 : c = 46
    · rw [if_pos (by rw [c1]; rfl), if_pos q4, all_add p98 r ⟨[], c == 45, false⟩ _ (by rw [c1]; rfl)]
      exact step _ (stepP_sep r c (Or.inl c1)) (by simp; omega) (by simp)
    · rw [if_neg (by rw [show (46 : Int) = ((46 : Nat) : Int) from rfl, beq_toNat c 46 (by omega)]; exact c1)]
      by_cases c2 : c = 45
      · rw [if_pos (by rw [c2]; rfl), if_pos q4, all_add p98 r ⟨[], c == 45, false⟩ _ (by rw [c2]; rfl)]
        exact step _ (stepP_sep r c (Or.inr c2)) (by simp; omega) (by simp)
      · rw [if_neg (by rw [show (45 : Int) = ((45 : Nat) : Int) from rfl, beq_toNat c 45 (by omega)]; exact c2)]
        have nc : ¬ (c = 46 ∨ c = 45) := by rintro (h | h); exact c1 h; exact c2 h
        have e1 : (ts v).extract ((i : Nat) : Int).toNat ((i + 1 : Nat) : Int).toNat = ts [c] := by rw [byte_at v i hi, hc]
        have q7 : (p98 r.2).f0.size + (ts [c]).size ≤ 9223372036854775807 := by show (ts r.2.tx).size + (ts [c]).size ≤ _; rw [ts_size, ts_size]; simp; omega
        have same : likeP r.2.tx c = true → (if (p98 r.2).f0.size + ((ts v).extract ((i : Nat) : Int).toNat ((i + 1 : Nat) : Int).toNat).size ≤ 9223372036854775807 then (newelref05_parts.l0 (k + d + 1) (ts v) (((allP r).map p98).set ((r.1.length : Int)).toNat (⟨(p98 r.2).f0 ++ ((ts v).extract ((i : Nat) : Int).toNat ((i + 1 : Nat) : Int).toNat), (p98 r.2).f1, (p98 r.2).f2⟩ : S91)) ((i + 1 : Nat) : Int)) else none) = some ((allP (runP r (v.drop i))).map p98) := by
          intro lk
          rw [e1, if_pos q7, all_put p98 r ⟨r.2.tx ++ [c], r.2.da, r.2.nu⟩ _ (by unfold p98; rw [ts_append])]
          exact step _ (stepP_like r c nc lk) (by simp; omega) (by simp; omega)
        by_cases z : r.2.tx = []
        · have z' : (p98 r.2).f0.toList = ([] : List UInt8) := by show (ts r.2.tx).toList = []; rw [ts_toList]; exact z
          rw [if_pos z', if_pos q5, if_pos q6]
          exact same (by rw [z]; rfl)
        · have z' : ¬ (p98 r.2).f0.toList = ([] : List UInt8) := by show ¬ (ts r.2.tx).toList = []; rw [ts_toList]; exact z
          have zl : 0 < r.2.tx.length := List.length_pos_iff.2 z
          obtain ⟨n, hn'⟩ : ∃ n, r.2.tx.length = n + 1 := ⟨r.2.tx.length - 1, by omega⟩
          have hs : ((p98 r.2).f0.size : Int) = ((n + 1 : Nat) : Int) := by show ((ts r.2.tx).size : Int) = _; rw [ts_size, hn']
          have ht : bt (p98 r.2).f0 ((n : Nat) : Int) = (((r.2.tx.getLast z).toNat : Nat) : Int) := by
            show bt (ts r.2.tx) _ = _
            rw [bt_nat _ n (by omega), List.getLast_eq_getElem]
            congr 3
            omega
          rw [if_neg z', hs, last_of n (by omega), if_pos (by omega), if_pos (by omega), ht, digit_ref, Option.bind_some, digit_ref, Option.bind_some]
          by_cases e : isD (r.2.tx.getLast z) = isD c
          · rw [if_neg (by rw [e]; simp), if_pos q5, if_pos q6]
            exact same (by rw [like_last _ _ z, e]; simp)
          · rw [if_pos (by simpa using e), Option.bind_some, Option.bind_some]
            have ea : ((allP r).map p98).set ((r.1.length : Int)).toNat (⟨(p98 r.2).f0, (p98 r.2).f1, isD c⟩ : S91) = (allP (r.1, ⟨r.2.tx, r.2.da, isD c⟩)).map p98 := all_put p98 r _ _ rfl
            rw [ea]
            have la := all_len p98 (r.1, ⟨r.2.tx, r.2.da, isD c⟩)
            have q8 : ((allP (r.1, ⟨r.2.tx, r.2.da, isD c⟩)).map p98).length < 5864062014805 := by rw [la]; simp; omega
            rw [if_pos q8, Option.bind_some, all_add p98 (r.1, ⟨r.2.tx, r.2.da, isD c⟩) ⟨[], true, false⟩ (⟨(⟨#[]⟩ : ByteArray), true, false⟩ : S91) rfl]
            generalize hR : ((r.1 ++ [(⟨r.2.tx, r.2.da, isD c⟩ : Pt)], (⟨[], true, false⟩ : Pt)) : List Pt × Pt) = R
            have R1 : R.1 = r.1 ++ [(⟨r.2.tx, r.2.da, isD c⟩ : Pt)] := by rw [← hR]
            have R2 : R.2 = ⟨[], true, false⟩ := by rw [← hR]
            have Rl : R.1.length = r.1.length + 1 := by rw [R1]; simp
            have lR := all_len p98 R
            have hxR : wrap64 ((((allP R).map p98).length : Int) - 1) = (R.1.length : Int) := by rw [lR]; exact last_of _ (by omega)
            have hrR : rd_T91 ((allP R).map p98) (R.1.length : Int) = p98 R.2 := all_getD p98 R _
            rw [hxR, if_pos (by omega), if_pos (by rw [lR]; omega), if_pos q5, if_pos q6, hrR, e1]
            have q9 : (p98 R.2).f0.size + (ts [c]).size ≤ 9223372036854775807 := by rw [R2]; show (ts []).size + (ts [c]).size ≤ _; rw [ts_size, ts_size]; simp
            rw [if_pos q9, all_put p98 R ⟨[c], true, false⟩ _ (by rw [R2]; unfold p98; rw [ts_append]; rfl)]
            exact step (R.1, ⟨[c], true, false⟩) (by rw [stepP_new r c nc (by rw [like_last _ _ z]; simpa using e), R1]) (by simp; omega) (by simp)
theorem ref_parts_told (v : List UInt8) (hv : v.length ≤ 1000000) (k : Nat) (hk : v.length + 1 ≤ k) : newelref05_parts.f k (ts v) = some ((partsL v).map p98) := by
  have := ref_parts_loop v hv v.length 0 (k - v.length - 1) p0 (by omega) (by simp [p0]) (by simp [p0])
  rw [show k - v.length - 1 + v.length + 1 = k from by omega] at this
  exact this
theorem number_loop (da nu : Bool) (o : ByteArray) : ∀ (t : List UInt8) (k : Nat), newelref05_number.l0 (k + t.length + 2) (ts t) o da nu = some (pr (numL t da)) := by
  have e : ∀ (t : List UInt8) (k : Nat), newelref05_number.j1 (k + 1) (ts t) o da nu = if t = [] then some (pr (6, [])) else if da = true then some (pr (9, t)) else some (pr (10, t)) := by
    intro t k
    rw [newelref05_number.j1, ts_toList]; rfl
  intro t
  induction t with
  | nil => intro k; rw [show k + ([] : List UInt8).length + 2 = k + 1 + 1 from rfl, newelref05_number.l0, if_neg (by decide), e, if_pos rfl]; rfl
  | cons c t ih =>
    intro k
    have hb : bt (ts (c :: t)) 0 = (c.toNat : Int) := bt_nat (c :: t) 0 (by simp)
    have hz : ((ts (c :: t)).size : Int) > 0 := by rw [ts_size, List.length_cons]; omega
    rw [show k + (c :: t).length + 2 = (k + t.length + 2) + 1 from by simp; omega, newelref05_number.l0, if_pos hz, if_pos hz, hb]
    by_cases h : c = 48
    · rw [if_pos (by rw [h]; rfl), if_pos (by omega)]
      have : (ts (c :: t)).extract 1 (ts (c :: t)).size = ts t := by
        apply ba_ext
        rw [ba_extract, ts_list, ts_list, ts_size, List.take_length]; rfl
      rw [this, ih]
      have hd : (c :: t).dropWhile (· == 48) = t.dropWhile (· == 48) := by rw [List.dropWhile_cons, if_pos (by rw [h]; rfl)]
      unfold numL
      rw [hd]
    · rw [if_neg (by rw [show (48 : Int) = ((48 : Nat) : Int) from rfl, beq_toNat c 48 (by omega)]; exact h), e, if_neg (List.cons_ne_nil c t)]
      unfold numL
      have hd : (c :: t).dropWhile (· == 48) = c :: t := by rw [List.dropWhile_cons, if_neg (by simpa using h)]
      rw [hd, if_neg (List.cons_ne_nil c t)]
      by_cases d : da = true
      · rw [if_pos d, if_pos d]
      · rw [if_neg d, if_neg d]
theorem ref_word_told (p : Pt) (k : Nat) (hk : p.tx.length + 10 ≤ k) : newelref05_word.f k (p98 p).f0 (p98 p).f1 (p98 p).f2 = some (pr (wordL p)) := by
  obtain ⟨t, da, nu⟩ := p
  obtain ⟨j, rfl⟩ : ∃ j, k = j + 1 + 1 + 1 + 1 := ⟨k - 4, by omega⟩
  show newelref05_word.f (j + 1 + 1 + 1 + 1) (ts t) da nu = _
  have nums : newelref05_word.j0 (j + 1 + 1 + 1 + 1) true (ts t) da nu = some (pr (numL t da)) := by
    have := number_loop da nu (ts t) t (j + 1 + 1 + 1 - (t.length + 2))
    rw [show j + 1 + 1 + 1 - (t.length + 2) + t.length + 2 = j + 1 + 1 + 1 from by dsimp only at hk; omega] at this
    rw [newelref05_word.j0, if_pos rfl]
    unfold newelref05_number.f
    rw [this]; rfl
  have j3 : ∀ (i : Nat) (n : Int), newelref05_word.j3 (i + 1) n (ts t) da nu = some (pr (if nu = true ∧ t = [97] then (1, []) else if nu = true ∧ t = [98] then (2, []) else if nu = true ∧ t = [109] then (3, []) else if n = 8 then (n, t) else (n, []))) := by
    intro i n
    rw [newelref05_word.j3, ts_toList]
    by_cases hn : nu = true
    · rw [if_pos hn]
      simp only [hn, true_and]
      by_cases h1 : t = [97]
      · rw [if_pos h1, if_pos h1]; rfl
      · rw [if_neg h1, if_neg h1]
        by_cases h2 : t = [98]
        · rw [if_pos h2, if_pos h2]; rfl
        · rw [if_neg h2, if_neg h2]
          by_cases h3 : t = [109]
          · rw [if_pos h3, if_pos h3]; rfl
          · rw [if_neg h3, if_neg h3]
            by_cases h8 : n = 8
            · rw [if_pos h8, if_pos h8]; rfl
            · rw [if_neg h8, if_neg h8]; rfl
    · have na : ∀ c, ¬ (nu = true ∧ t = c) := fun c h => hn h.1
      rw [if_neg hn, if_neg (na [97]), if_neg (na [98]), if_neg (na [109])]
      by_cases h8 : n = 8
      · rw [if_pos h8, if_pos h8]; rfl
      · rw [if_neg h8, if_neg h8]; rfl
  have lets : newelref05_word.j0 (j + 1 + 1 + 1 + 1) false (ts t) da nu = some (pr (letL t nu)) := by
    by_cases hx : nu = true ∧ (t = [97] ∨ t = [98] ∨ t = [109])
    · obtain ⟨hn, hx⟩ := hx
      subst hn
      rw [newelref05_word.j0, ts_toList, if_neg (by simp)]
      rcases hx with rfl | rfl | rfl
      · rw [if_neg (by decide), if_neg (by decide), if_neg (by decide), if_neg (by decide), newelref05_word.j1, ts_toList, if_neg (by decide), if_neg (by decide), if_neg (by decide), if_neg (by decide), newelref05_word.j2, ts_toList, if_neg (by decide), if_neg (by decide), j3]; rfl
      · rw [if_neg (by decide), if_neg (by decide), if_neg (by decide), if_neg (by decide), newelref05_word.j1, ts_toList, if_neg (by decide), if_neg (by decide), if_neg (by decide), if_neg (by decide), newelref05_word.j2, ts_toList, if_neg (by decide), if_neg (by decide), j3]; rfl
      · rw [if_neg (by decide), if_neg (by decide), if_neg (by decide), if_neg (by decide), newelref05_word.j1, ts_toList, if_neg (by decide), if_neg (by decide), if_neg (by decide), if_neg (by decide), newelref05_word.j2, ts_toList, if_neg (by decide), if_neg (by decide), j3]; rfl
    · have ka : ∀ c, (c = [97] ∨ c = [98] ∨ c = [109]) → (nu = true ∧ t = c) = False := by
        intro c hc
        apply eq_false
        rintro ⟨h1, h2⟩
        exact hx ⟨h1, h2 ▸ hc⟩
      simp only [ka [97] (by simp), ka [98] (by simp), ka [109] (by simp), if_false] at j3
      unfold letL
      rw [kindL_plain t nu ka, newelref05_word.j0, ts_toList, if_neg (by simp)]
      by_cases h1 : t = tA
      · rw [if_pos h1, if_pos h1, j3]; rfl
      · rw [if_neg h1, if_neg h1]
        by_cases h2 : t = tB
        · rw [if_pos h2, if_pos h2, j3]; rfl
        · rw [if_neg h2, if_neg h2]
          by_cases h3 : t = tM
          · rw [if_pos h3, if_pos h3, j3]; rfl
          · rw [if_neg h3, if_neg h3]
            have j2 : ∀ b, (¬ b = true → ¬ (t = tGa ∨ t = tFi ∨ t = tRe)) → (b = true → (t = tGa ∨ t = tFi ∨ t = tRe)) → newelref05_word.j2 (j + 1 + 1) 8 (ts t) b (ts t) da nu = some (pr (if (if t = tGa ∨ t = tFi ∨ t = tRe then (6 : Int) else if t = tSp then 7 else 8) = 8 then (8, t) else ((if t = tGa ∨ t = tFi ∨ t = tRe then (6 : Int) else if t = tSp then 7 else 8), []))) := by
              intro b hb1 hb2
              rw [newelref05_word.j2, ts_toList]
              by_cases hb : b = true
              · rw [if_pos hb, if_pos (hb2 hb), j3]; rfl
              · rw [if_neg hb, if_neg (hb1 hb)]
                by_cases h7 : t = tSp
                · rw [if_pos h7, if_pos h7, j3]; rfl
                · rw [if_neg h7, if_neg h7, j3]
            have j1 : ∀ b, (¬ b = true → ¬ (t = tRc ∨ t = tCr)) → (b = true → (t = tRc ∨ t = tCr)) → newelref05_word.j1 (j + 1 + 1 + 1) 8 (ts t) b (ts t) da nu = some (pr (if (if t = tRc ∨ t = tCr then (4 : Int) else if t = tS then 5 else if t = tGa ∨ t = tFi ∨ t = tRe then (6 : Int) else if t = tSp then 7 else 8) = 8 then (8, t) else ((if t = tRc ∨ t = tCr then (4 : Int) else if t = tS then 5 else if t = tGa ∨ t = tFi ∨ t = tRe then (6 : Int) else if t = tSp then 7 else 8), []))) := by
              intro b hb1 hb2
              rw [newelref05_word.j1, ts_toList]
              by_cases hb : b = true
              · rw [if_pos hb, if_pos (hb2 hb), j3]; rfl
              · rw [if_neg hb, if_neg (hb1 hb)]
                by_cases h5 : t = tS
                · rw [if_pos h5, if_pos h5, j3]; rfl
                · rw [if_neg h5, if_neg h5]
                  by_cases h6 : t = tGa
                  · rw [if_pos h6]; exact j2 _ (fun h => absurd (by rw [show t = [103, 97] from h6]; rfl) h) (fun _ => Or.inl h6)
                  · rw [if_neg h6]
                    by_cases h8 : t = tFi
                    · rw [if_pos h8]; exact j2 _ (fun h => absurd (by rw [show t = [102, 105, 110, 97, 108] from h8]; rfl) h) (fun _ => Or.inr (Or.inl h8))
                    · rw [if_neg h8]
                      refine j2 _ ?_ ?_
                      · rintro h (g | g | g)
                        · exact h6 g
                        · exact h8 g
                        · exact h (by rw [show t = [114, 101, 108, 101, 97, 115, 101] from g]; rfl)
                      · intro h; exact Or.inr (Or.inr (beq_iff_eq.1 h))
            by_cases h4 : t = tRc
            · rw [if_pos h4]; exact j1 _ (fun h => absurd (by rw [show t = [114, 99] from h4]; rfl) h) (fun _ => Or.inl h4)
            · rw [if_neg h4]
              refine j1 _ ?_ ?_
              · rintro h (g | g)
                · exact h4 g
                · exact h (by rw [show t = [99, 114] from g]; rfl)
              · intro h; exact Or.inr (beq_iff_eq.1 h)
  unfold newelref05_word.f wordL
  rw [ts_toList]
  cases t with
  | nil => rw [if_pos rfl, nums]; rfl
  | cons c t =>
    have hb : bt (ts (c :: t)) 0 = (c.toNat : Int) := bt_nat (c :: t) 0 (by simp)
    rw [if_neg (by simp), if_pos (by rw [ts_size, List.length_cons]; omega), hb, digit_ref, Option.bind_some]
    show _ = some (pr (if isD c = true then numL (c :: t) da else letL (c :: t) nu))
    by_cases d : isD c = true
    · rw [if_pos d, d]; exact nums
    · rw [if_neg d, Bool.eq_false_iff.2 d]; exact lets
theorem lower_loop (v : List UInt8) (hv : v.length ≤ 1000000) : ∀ (d i k : Nat), i + d = v.length → newelref01_Lower.l0 (k + d + 1) (ts v) ((v.take i).map fun c => toN (lowB c)) (i : Int) = some (ts (v.map lowB)) := by
  intro d
  induction d with
  | zero =>
    intro i k h
    rw [newelref01_Lower.l0, if_neg (by rw [ts_size]; omega), List.take_of_length_le (by omega), ← nums_ts, List.map_map]
    rfl
  | succ d ih =>
    intro i k h
    have hi : i < v.length := by omega
    have q0 : (i : Int) < ((ts v).size : Int) := by rw [ts_size]; omega
    have q1 : (0 : Int) ≤ (i : Int) := by omega
    have q2 : ((v.take i).map fun c => toN (lowB c)).length < 140737488355328 := by rw [List.length_map, List.length_take]; omega
    have hb := bt_nat v i hi
    have hn := next_of i (by omega)
    have step : newelref01_Lower.l0 (k + d + 1) (ts v) (((v.take i).map fun c => toN (lowB c)) ++ [toN (lowB v[i])]) ((i + 1 : Nat) : Int) = some (ts (v.map lowB)) := by
      have := ih (i + 1) k (by omega)
      rw [List.take_succ_eq_append_getElem hi, List.map_append] at this
      exact this
    have ln := low_num v[i]
    have lt := (v[i]).toNat_lt
    rw [show k + (d + 1) + 1 = (k + d + 1) + 1 from by omega, newelref01_Lower.l0, if_pos q0, if_pos q1, hb, hn]
    by_cases a : ((v[i].toNat : Nat) : Int) ≥ 65
    · rw [if_pos a]
      by_cases b : ((v[i].toNat : Nat) : Int) ≤ 90
      · rw [if_pos b, if_pos q2]
        rw [if_pos ⟨a, b⟩] at ln
        rw [show (((v[i].toNat : Nat) : Int) + 32) % 256 = ((v[i].toNat : Nat) : Int) + 32 from by omega, ln]
        exact step
      · rw [if_neg b, if_pos q2]
        rw [if_neg (fun h => b h.2)] at ln
        rw [ln]; exact step
    · rw [if_neg a, if_pos q2]
      rw [if_neg (fun h => a h.1)] at ln
      rw [ln]; exact step
theorem ref_lower_told (v : List UInt8) (hv : v.length ≤ 1000000) (k : Nat) (hk : v.length + 1 ≤ k) : newelref01_Lower.f k (ts v) = some (ts (v.map lowB)) := by
  have := lower_loop v hv v.length 0 (k - v.length - 1) (by omega)
  rw [show k - v.length - 1 + v.length + 1 = k from by omega] at this
  exact this
theorem ref_split_loop (l : List Pt) (M : Nat) (hM : ∀ p ∈ l, p.tx.length ≤ M) (hl : l.length ≤ 1000000) : ∀ (n : Nat) (out : List Wl) (k : Nat), n ≤ l.length → out.length + n ≤ 1000000 → M + 10 ≤ k →
    newelref05_Split.l0 (k + n + 1) (l.map p98) (out.map w38) ((n : Int) - 1) = some ((((l.take n).map wordL).foldr pushL out).map w38) := by
  intro n
  induction n with
  | zero =>
    intro out k _ _ _
    rw [newelref05_Split.l0, if_neg (by omega)]
    rfl
  | succ n ih =>
    intro out k h hs hk
    have hn : n < l.length := by omega
    have hx : (((n + 1 : Nat) : Int) - 1) = (n : Int) := by omega
    have hy : wrap64 ((n : Int) - 1) = (n : Int) - 1 := by unfold wrap64; omega
    have hm : (l.map p98).length = l.length := by simp
    have hr : rd_T91 (l.map p98) (n : Int) = p98 l[n] := by
      unfold rd_T91
      rw [Int.toNat_natCast, List.getD_eq_getElem?_getD, List.getElem?_map, List.getElem?_eq_getElem hn]
      rfl
    have fold : (((l.take (n + 1)).map wordL).foldr pushL out) = ((l.take n).map wordL).foldr pushL (pushL (wordL l[n]) out) := by
      rw [List.take_succ_eq_append_getElem hn, List.map_append, List.foldr_append]; rfl
    have hlen : (out.map w38).length = out.length := by simp
    have add : ¬ ((wordL l[n]).1 = 6 ∧ aheadL out = false) → ((some (([(⟨(pr (wordL l[n])).1, (pr (wordL l[n])).2⟩ : S85)] : List (S85)) : List (S85))).bind fun y => (if y.length + (out.map w38).length < 5864062014805 then (newelref05_Split.l0 (k + n + 1) (l.map p98) (y ++ out.map w38) ((n : Int) - 1)) else (none))) = some ((((l.take (n + 1)).map wordL).foldr pushL out).map w38) := by
      intro hp
      rw [Option.bind_some, if_pos (by rw [hlen]; simp; omega)]
      have := ih (wordL l[n] :: out) k (by omega) (by simp; omega) hk
      rw [fold, push_add _ _ hp, ← this]
      rfl
    have skip : (wordL l[n]).1 = 6 → aheadL out = false → newelref05_Split.l0 (k + n + 1) (l.map p98) (out.map w38) ((n : Int) - 1) = some ((((l.take (n + 1)).map wordL).foldr pushL out).map w38) := by
      intro h1 h2
      rw [ih out k (by omega) (by omega) hk, fold, push_skip _ _ h1 h2]
    rw [show k + (n + 1) + 1 = (k + n + 1) + 1 from by omega, newelref05_Split.l0, hx, if_pos (by omega), if_pos (by omega), if_pos (by rw [hm]; omega), hr, ref_word_told l[n] _ (by have := hM l[n] (List.getElem_mem hn); omega), Option.bind_some, hy]
    cases out with
    | nil =>
      rw [if_neg (by simp)]
      by_cases h6 : (pr (wordL l[n])).1 = 6
      · rw [if_pos h6]; exact skip h6 rfl
      · rw [if_neg h6]; exact add (fun h => h6 h.1)
    | cons o os =>
      have ho : ((o :: os).map w38).length = os.length + 1 := by simp
      have hz : rd_T85 ((o :: os).map w38) 0 = w38 o := rfl
      rw [if_pos (by rw [ho]; omega), if_pos (by rw [ho]; omega), hz]
      by_cases a6 : (w38 o).f0 = 6
      · rw [if_pos a6]
        have := add (fun h => ((ahead_cons o os).1 h.2).1 a6)
        by_cases h6 : (pr (wordL l[n])).1 = 6
        · rw [if_pos h6]; exact this
        · rw [if_neg h6]; exact this
      · rw [if_neg a6]
        by_cases h6 : (pr (wordL l[n])).1 = 6
        · rw [if_pos h6]
          by_cases a10 : (w38 o).f0 = 10
          · rw [if_pos a10]; exact add (fun h => ((ahead_cons o os).1 h.2).2 a10)
          · rw [if_neg a10]; exact skip h6 ((ahead_cons o os).2 ⟨a6, a10⟩)
        · rw [if_neg h6]; exact add (fun h => h6 h.1)
theorem ref_split_told (v : List UInt8) (hv : v.length ≤ 100000) (k : Nat) (hk : 3 * v.length + 40 ≤ k) : newelref05_Split.f k (ts v) = some ((splitL v).map w38) := by
  have hB := partsL_B (v.map lowB)
  rw [List.length_map] at hB
  unfold newelref05_Split.f
  rw [ref_lower_told v (by omega) k (by omega), Option.bind_some, ref_parts_told _ (by rw [List.length_map]; omega) k (by rw [List.length_map]; omega), Option.bind_some]
  have := ref_split_loop (partsL (v.map lowB)) v.length hB.1 (by omega) (partsL (v.map lowB)).length [] (k - (partsL (v.map lowB)).length - 1) (Nat.le_refl _) (by simp; omega) (by omega)
  rw [show k - (partsL (v.map lowB)).length - 1 + (partsL (v.map lowB)).length + 1 = k from by omega, List.take_length] at this
  rw [List.length_map, show wrap64 (((partsL (v.map lowB)).length : Int) - 1) = ((partsL (v.map lowB)).length : Int) - 1 from by unfold wrap64; omega]
  exact this
theorem ref_right_loop (v : List UInt8) (hv : v.length ≤ 1000000) : ∀ (d i k : Nat), i + d = v.length → newelref05_Right.l0 (k + d + 1) (ts v) (i : Int) = some (decide (1 ≤ v.length) && decide (v.length ≤ 100) && (v.drop i).all sign8) := by
  intro d
  induction d with
  | zero =>
    intro i k h
    rw [newelref05_Right.l0, if_neg (by rw [ts_size]; omega), List.drop_eq_nil_of_le (by omega), ts_size, List.all_nil, Bool.and_true]
    by_cases a : 1 ≤ v.length
    · rw [if_pos (by omega), decide_eq_true a, Bool.true_and]
      by_cases b : v.length ≤ 100
      · rw [decide_eq_true b, decide_eq_true (by omega)]
      · rw [decide_eq_false b, decide_eq_false (by omega)]
    · rw [if_neg (by omega), decide_eq_false a, Bool.false_and]
  | succ d ih =>
    intro i k h
    have hi : i < v.length := by omega
    rw [show k + (d + 1) + 1 = (k + d + 1) + 1 from by omega, newelref05_Right.l0, if_pos (by rw [ts_size]; omega), if_pos (by omega), bt_nat v i hi, next_of i (by omega), List.drop_eq_getElem_cons hi, List.all_cons]
    have un : sign8 v[i] = (decide (33 ≤ ((v[i].toNat : Nat) : Int)) && decide (((v[i].toNat : Nat) : Int) ≤ 126) && ((v[i].toNat : Nat) : Int) != 91 && ((v[i].toNat : Nat) : Int) != 93 && ((v[i].toNat : Nat) : Int) != 40 && ((v[i].toNat : Nat) : Int) != 41 && ((v[i].toNat : Nat) : Int) != 44) := rfl
    generalize ((v[i].toNat : Nat) : Int) = n at *
    have bad : sign8 v[i] = false → (some false : Option Bool) = some (decide (1 ≤ v.length) && decide (v.length ≤ 100) && (sign8 v[i] && (v.drop (i + 1)).all sign8)) := by
      intro e; rw [e, Bool.false_and, Bool.and_false]
    by_cases c0 : n < 33
    · rw [if_pos c0]; exact bad (by rw [un, decide_eq_false (by omega)]; rfl)
    rw [if_neg c0]
    by_cases c1 : n > 126
    · rw [if_pos c1]; exact bad (by rw [un, decide_eq_false (show ¬ n ≤ 126 by omega), Bool.and_false]; rfl)
    rw [if_neg c1]
    by_cases c2 : n = 91
    · rw [if_pos c2]; exact bad (by rw [un, c2]; rfl)
    rw [if_neg c2]
    by_cases c3 : n = 93
    · rw [if_pos c3]; exact bad (by rw [un, c3]; rfl)
    rw [if_neg c3]
    by_cases c4 : n = 40
    · rw [if_pos c4]; exact bad (by rw [un, c4]; rfl)
    rw [if_neg c4]
    by_cases c5 : n = 41
    · rw [if_pos c5]; exact bad (by rw [un, c5]; rfl)
    rw [if_neg c5]
    by_cases c6 : n = 44
    · rw [if_pos c6]; exact bad (by rw [un, c6]; rfl)
    rw [if_neg c6, ih (i + 1) k (by omega)]
    have good : sign8 v[i] = true := by
      rw [un, decide_eq_true (by omega), decide_eq_true (by omega), bne_iff_ne.2 c2, bne_iff_ne.2 c3, bne_iff_ne.2 c4, bne_iff_ne.2 c5, bne_iff_ne.2 c6]; rfl
    rw [good, Bool.true_and]
theorem ref_right_told (v : List UInt8) (hv : v.length ≤ 1000000) (k : Nat) (hk : v.length + 1 ≤ k) : newelref05_Right.f k (ts v) = some (rightB v) := by
  have := ref_right_loop v hv v.length 0 (k - v.length - 1) (by omega)
  rw [show k - v.length - 1 + v.length + 1 = k from by omega] at this
  exact this
end Go.Proofs.YtgdjfcmmpjcaaaaGreatDoor.Pure
namespace Go.Proofs.YtgdjfcmmpjcaaaaGreatDoor.Pure
open Go Go.RowKit Go.Proofs.YtgdjfcmmpjcaaaaGreatDoor.Q Go.Proofs.YtgdjfcmmpjcaaaaGreatDoorW.PrintWords Go.Proofs.YtgdjfcmmpjcaaaaGreatDoorW.PrintLast Go.Proofs.YtgdjfcmmpjcaaaaGreatDoorW.Own Go.Proofs.YtgdjfcmmpjcaaaaGreatDoorW.PrintMore Go.Proofs.YtgdjfcmmpjcaaaaGreatDoorW.Px
set_option linter.unusedSimpArgs false
set_option linter.unusedVariables false
theorem ref_text_cmp (a b : List UInt8) : newelref05_text.f (ts a) (ts b) = some (cmpB a b) := by
  unfold newelref05_text.f cmpB
  rw [ts_toList, ts_toList]
  by_cases p : Op.bytesLess a b = true
  · rw [if_pos p, if_pos p]
  · rw [if_neg p, if_neg p]
    by_cases q : Op.bytesLess b a = true
    · rw [if_pos q, if_pos q]
    · rw [if_neg q, if_neg q]
theorem ref_one_cmp (x y : Wl) : Tot (fun k => newelref05_one.f k x.1 (ts x.2) y.1 (ts y.2)) (fun r => r = cmpW x y) := by
  have len : Tot (fun k => newelref05_one.j0 k true x.1 (ts x.2) y.1 (ts y.2)) (fun r => r = if cmpI x.2.length y.2.length = 0 then cmpB x.2 y.2 else cmpI x.2.length y.2.length) := by
    refine tot_succ ?_ (fun k => by rw [newelref05_one.j0])
    rw [ref_text_cmp, ts_size, ts_size]
    simp only [Option.bind_some]
    unfold cmpI
    refine tot_guard (by trivial) (tot_if (fun e => tot_some ?_) (fun e => tot_if (fun l => tot_some ?_) (fun l => tot_some ?_)))
    · rw [if_neg (show ¬ (x.2.length : Int) < y.2.length by omega), if_neg (show ¬ (x.2.length : Int) > y.2.length by omega), if_pos rfl]
    · rw [if_pos l, if_neg (by decide)]
    · rw [if_neg l, if_pos (show (x.2.length : Int) > y.2.length by omega), if_neg (by decide)]
  unfold newelref05_one.f cmpW
  rw [ref_text_cmp]
  simp only [Option.bind_some]
  refine tot_if (fun p => tot_some (by rw [if_pos p])) (fun p => tot_if (fun q => tot_some (by rw [if_neg p, if_pos q])) (fun q => tot_if (fun e => tot_some (by rw [if_neg p, if_neg q, if_pos e])) (fun e => ?_)))
  rw [if_neg p, if_neg q, if_neg e]
  refine tot_if (fun g => ?_) (fun g => ?_)
  · rw [if_pos (Or.inl g)]; exact len
  · by_cases h : x.1 = 10
    · rw [show (x.1 == 10) = true from beq_iff_eq.2 h, if_pos (Or.inr h)]; exact len
    · rw [show (x.1 == 10) = false from beq_eq_false_iff_ne.2 h, if_neg (by rintro (z | z) <;> omega)]
      refine tot_succ ?_ (fun k => by rw [newelref05_one.j0])
      exact tot_if (fun b => by cases b) (fun _ => tot_some rfl)
theorem hd_drop (l : List Wl) (i : Nat) (h : i < l.length) : hdW (l.drop i) = l[i] := by rw [List.drop_eq_getElem_cons h]; rfl
theorem hd_none (l : List Wl) (i : Nat) (h : ¬ i < l.length) : hdW (l.drop i) = (6, []) := by rw [List.drop_eq_nil_of_le (by omega)]; rfl
theorem rd_word (l : List Wl) (i : Nat) (h : i < l.length) : rd_T85 (l.map w38) (i : Int) = w38 l[i] := by
  unfold rd_T85
  rw [Int.toNat_natCast, List.getD_eq_getElem?_getD, List.getElem?_map, List.getElem?_eq_getElem h]; rfl
theorem ref_words_cmp (x y : List Wl) (hx : x.length ≤ 100100) (hy : y.length ≤ 100100) : ∀ (d i : Nat), i ≤ 100100 → x.length ≤ i + d → y.length ≤ i + d →
    Tot (fun k => newelref05_Words.l0 k (x.map w38) (y.map w38) (i : Int)) (fun r => r = cmpN d (x.drop i) (y.drop i)) := by
  have j2 : ∀ (i : Nat) (a : Wl) (T : Int), i ≤ 100100 → Tot (fun k => newelref05_Words.l0 k (x.map w38) (y.map w38) ((i + 1 : Nat) : Int)) (fun r => r = T) →
      Tot (fun k => newelref05_Words.j2 k (x.map w38) (y.map w38) (i : Int) a.1 (ts a.2) 6 (⟨#[]⟩ : ByteArray)) (fun r => r = if cmpW a (hdW (y.drop i)) = 0 then T else cmpW a (hdW (y.drop i))) := by
    intro i a T hi next
    refine tot_succ ?_ (fun k => by rw [newelref05_Words.j2])
    rw [List.length_map, next_of i (by omega)]
    refine tot_if (fun h => tot_guard (by omega) ?_) (fun h => ?_)
    · rw [rd_word y i (by omega), hd_drop y i (by omega)]
      refine tot_bind (ref_one_cmp a y[i]) (fun r hr => ?_)
      subst hr
      exact tot_if (fun z => by rw [if_pos z]; exact next) (fun z => tot_some (by rw [if_neg z]))
    · rw [hd_none y i (by omega)]
      refine tot_bind (ref_one_cmp a (6, [])) (fun r hr => ?_)
      subst hr
      exact tot_if (fun z => by rw [if_pos z]; exact next) (fun z => tot_some (by rw [if_neg z]))
  have j1 : ∀ (i : Nat) (T : Int), i ≤ 100100 → Tot (fun k => newelref05_Words.l0 k (x.map w38) (y.map w38) ((i + 1 : Nat) : Int)) (fun r => r = T) →
      Tot (fun k => newelref05_Words.j1 k (x.map w38) (y.map w38) (i : Int) true) (fun r => r = if cmpW (hdW (x.drop i)) (hdW (y.drop i)) = 0 then T else cmpW (hdW (x.drop i)) (hdW (y.drop i))) := by
    intro i T hi next
    refine tot_succ ?_ (fun k => by rw [newelref05_Words.j1])
    rw [List.length_map]
    refine tot_guard rfl (tot_if (fun h => tot_guard (by omega) ?_) (fun h => ?_))
    · rw [rd_word x i (by omega), hd_drop x i (by omega)]
      exact j2 i x[i] T hi next
    · rw [hd_none x i (by omega)]
      exact j2 i (6, []) T hi next
  have over : ∀ (i n : Nat), x.length ≤ i → y.length ≤ i → Tot (fun k => newelref05_Words.l0 k (x.map w38) (y.map w38) (i : Int)) (fun r => r = cmpN n (x.drop i) (y.drop i)) := by
    intro i n h1 h2
    refine tot_succ ?_ (fun k => by rw [newelref05_Words.l0])
    rw [List.length_map, List.length_map]
    refine tot_if (fun h => by omega) (fun h => ?_)
    rw [decide_eq_false (by omega)]
    refine tot_succ ?_ (fun k => by rw [newelref05_Words.j1])
    refine tot_if (fun b => by cases b) (fun _ => tot_some ?_)
    rw [List.drop_eq_nil_of_le h1, List.drop_eq_nil_of_le h2, cmpN_nil]
  intro d
  induction d with
  | zero => intro i hi h1 h2; exact over i 0 (by omega) (by omega)
  | succ d ih =>
    intro i hi h1 h2
    by_cases e : i < x.length ∨ i < y.length
    · have next := ih (i + 1) (by omega) (by omega) (by omega)
      have q := j1 i _ hi next
      rw [← tail_drop, ← tail_drop] at q
      refine tot_succ ?_ (fun k => by rw [newelref05_Words.l0])
      rw [List.length_map, List.length_map]
      refine tot_if (fun h => tot_imp q (fun r hr => hr)) (fun h => ?_)
      rw [decide_eq_true (by omega)]
      exact tot_imp q (fun r hr => hr)
    · exact over i (d + 1) (by omega) (by omega)
theorem ref_compare_cmp (a b : List UInt8) (ha : a.length ≤ 100000) (hb : b.length ≤ 100000) : Tot (fun k => newelref05_Compare.f k (ts a) (ts b)) (fun r => r = cmpV a b) := by
  have sa := splitL_len a
  have sb := splitL_len b
  unfold newelref05_Compare.f newelref05_Words.f
  refine tot_bind (tot_ge 400000 (fun k hk => ref_split_told a ha k (by omega))) (fun x hx => ?_)
  subst hx
  refine tot_bind (tot_ge 400000 (fun k hk => ref_split_told b hb k (by omega))) (fun y hy => ?_)
  subst hy
  refine tot_bind (ref_words_cmp (splitL a) (splitL b) (by omega) (by omega) 100100 0 (by omega) (by omega) (by omega)) (fun r hr => tot_some ?_)
  rw [hr, List.drop_zero, List.drop_zero]
  rfl
theorem ref_right_cmp (v : List UInt8) (hv : v.length ≤ 100000) : Tot (fun k => newelref05_Right.f k (ts v)) (fun r => r = rightB v) := tot_ge 200000 (fun k hk => ref_right_told v (by omega) k (by omega))
theorem right_nil : rightB [] = false := by decide
theorem ref_may_cmp (lo hi : List UInt8) (il ih : Bool) (hl : lo.length ≤ 100000) (hh : hi.length ≤ 100000) : Tot (fun k => newelref05_May.f k (ts lo) (ts hi) il ih) (fun r => r = mayB lo hi il ih) := by
  have j : ∀ b : Bool, Tot (fun k => newelref05_May.j0 k b (ts lo) (ts hi) il ih) (fun r => r = if b = true then false else if lo = [] then true else if hi = [] then true else if cmpV lo hi < 0 then true else if cmpV lo hi = 0 then (if il = true then ih else false) else false) := by
    intro b
    refine tot_succ ?_ (fun k => by rw [newelref05_May.j0])
    rw [ts_toList, ts_toList]
    refine tot_if (fun h => tot_some (by rw [if_pos h])) (fun h => tot_if (fun e => tot_some (by rw [if_neg h, if_pos e])) (fun e => tot_if (fun g => tot_some (by rw [if_neg h, if_neg e, if_pos g])) (fun g => tot_bind (ref_compare_cmp lo hi hl hh) (fun c hc => ?_))))
    subst hc
    rw [if_neg h, if_neg e, if_neg g]
    refine tot_if (fun a => tot_some (by rw [if_pos a])) (fun a => tot_if (fun z => tot_if (fun y => tot_some (by rw [if_neg a, if_pos z, if_pos y])) (fun y => tot_some (by rw [if_neg a, if_pos z, if_neg y]))) (fun z => tot_some (by rw [if_neg a, if_neg z])))
  have fin : ∀ b : Bool, b = !(boundB lo il && boundB hi ih) → Tot (fun k => newelref05_May.j0 k b (ts lo) (ts hi) il ih) (fun r => r = mayB lo hi il ih) := by
    intro b hb
    refine tot_imp (j b) (fun r hr => ?_)
    rw [hr, hb]
    unfold mayB
    cases boundB lo il <;> cases boundB hi ih <;> simp
  have bb : ∀ (v : List UInt8) (i : Bool), boundB v i = if v = [] then !i else rightB v := by
    intro v i
    unfold boundB
    by_cases e : v = []
    · rw [e, right_nil]; simp
    · simp [e]
  unfold newelref05_May.f
  rw [ts_toList, ts_toList]
  refine tot_if (fun e => ?_) (fun e => ?_)
  · have b1 : boundB lo il = !il := by rw [bb, if_pos e]
    refine tot_if (fun g => ?_) (fun g => ?_)
    · have b2 : boundB hi ih = !ih := by rw [bb, if_pos g]
      refine tot_if (fun a => fin _ (by rw [b1, b2, a]; simp)) (fun a => fin _ (by rw [b1, b2, Bool.eq_false_iff.2 a]; simp))
    · have b2 : boundB hi ih = rightB hi := by rw [bb, if_neg g]
      refine tot_bind (ref_right_cmp hi hh) (fun r hr => ?_)
      subst hr
      refine tot_if (fun a => tot_if (fun c => fin _ (by rw [b1, b2, a, c]; simp)) (fun c => fin _ (by rw [b1, b2, a, Bool.eq_false_iff.2 c]; simp))) (fun a => fin _ (by rw [b1, b2, Bool.eq_false_iff.2 a]; simp))
  · have b1 : boundB lo il = rightB lo := by rw [bb, if_neg e]
    refine tot_bind (ref_right_cmp lo hl) (fun r hr => ?_)
    subst hr
    refine tot_if (fun a => ?_) (fun a => fin _ (by rw [b1, Bool.eq_false_iff.2 a]; simp))
    refine tot_if (fun g => ?_) (fun g => ?_)
    · have b2 : boundB hi ih = !ih := by rw [bb, if_pos g]
      exact fin _ (by rw [b1, b2, a]; simp)
    · have b2 : boundB hi ih = rightB hi := by rw [bb, if_neg g]
      refine tot_bind (ref_right_cmp hi hh) (fun r hr => ?_)
      subst hr
      refine tot_if (fun c => fin _ (by rw [b1, b2, a, c]; simp)) (fun c => fin _ (by rw [b1, b2, a, Bool.eq_false_iff.2 c]; simp))
theorem ref_behind_cmp (a ah bl b : List UInt8) (p aih bil s : Bool) (hb : ah.length ≤ 100000) (hc : bl.length ≤ 100000) : Tot (fun k => newelref05_behind.f k (ts a) (ts ah) p aih (ts bl) (ts b) bil s) (fun r => r = behindB ah bl aih bil) := by
  unfold newelref05_behind.f behindB
  rw [ts_toList, ts_toList]
  refine tot_if (fun e => tot_some (by rw [if_pos e])) (fun e => tot_if (fun g => tot_some (by rw [if_neg e, if_pos g])) (fun g => tot_bind (ref_compare_cmp ah bl hb hc) (fun c hc => ?_)))
  subst hc
  rw [if_neg e, if_neg g]
  refine tot_if (fun a => tot_some (by rw [if_pos a])) (fun a => tot_if (fun z => tot_if (fun y => tot_some (by rw [if_neg a, if_pos z, if_pos y])) (fun y => tot_some (by rw [if_neg a, if_pos z, if_neg y]; rfl))) (fun z => tot_some (by rw [if_neg a, if_neg z])))
end Go.Proofs.YtgdjfcmmpjcaaaaGreatDoor.Pure
namespace Go.Proofs.YtgdjfcmmpjcaaaaGreatDoor.Pure
open Go Go.RowKit Go.Proofs.YtgdjfcmmpjcaaaaGreatDoor.Q Go.Proofs.YtgdjfcmmpjcaaaaGreatDoorW.PrintWords Go.Proofs.YtgdjfcmmpjcaaaaGreatDoorW.PrintLast Go.Proofs.YtgdjfcmmpjcaaaaGreatDoorW.Own Go.Proofs.YtgdjfcmmpjcaaaaGreatDoorW.PrintMore Go.Proofs.YtgdjfcmmpjcaaaaGreatDoorW.Px
set_option linter.unusedSimpArgs false
set_option linter.unusedVariables false
theorem cut_head {s sub : List UInt8} {c : UInt8} {j : Nat} (h : Lib.occAt s (c :: sub) j = true) : s[j]? = some c := by
  unfold Lib.occAt at h
  obtain ⟨t, ht⟩ := List.isPrefixOf_iff_prefix.1 h
  have : (s.drop j)[0]? = some c := by rw [← ht]; rfl
  simpa using this
theorem cut_there (t r sub : List UInt8) (c : UInt8) (h : ∀ x ∈ t, x ≠ c) : Lib.cut (t ++ ((c :: sub) ++ r)) (c :: sub) = (t, r, true) := by
  have e : Lib.index (t ++ ((c :: sub) ++ r)) (c :: sub) = (t.length : Int) := by
    refine Lib.index_first (by simp) ?_ ?_
    · unfold Lib.occAt
      rw [List.drop_left]
      exact List.isPrefixOf_iff_prefix.2 ⟨r, rfl⟩
    · intro j hj
      rw [Bool.eq_false_iff]
      intro ho
      have := cut_head ho
      rw [List.getElem?_append_left hj] at this
      exact h c (List.mem_of_getElem? this) rfl
  unfold Lib.cut
  rw [e, if_pos (by omega), Int.toNat_natCast, List.take_left, show t.length + (c :: sub).length = (t ++ (c :: sub)).length by simp, ← List.append_assoc, List.drop_left]
theorem cut_away (t sub : List UInt8) (c : UInt8) (h : ∀ x ∈ t, x ≠ c) : Lib.cut t (c :: sub) = (t, [], false) := by
  have e : Lib.index t (c :: sub) = -1 := by
    refine Lib.index_none ?_
    intro j hj
    rw [Bool.eq_false_iff]
    intro ho
    exact h c (List.mem_of_getElem? (cut_head ho)) rfl
  unfold Lib.cut
  rw [e]; rfl
def isOp (o : UInt8) : Bool := o == 91 || o == 40
def clB (c : UInt8) : Bool := c == 93 || c == 41
def trimS (l : List UInt8) : List UInt8 := Lib.trimB l 32
def inn (t : List UInt8) : List UInt8 := t.takeWhile (fun c => !clB c)
def outt (t : List UInt8) : List UInt8 := t.dropWhile (fun c => !clB c)
def spanS (o c : UInt8) (w : List UInt8) : Option S30 :=
  if (Lib.cut w [44]).2.2 = true then some ⟨ts (trimS (Lib.cut w [44]).1), ts (trimS (Lib.cut w [44]).2.1), o == 91, c == 93⟩
  else if o = 91 ∧ c = 93 then some ⟨ts (trimS w), ts (trimS w), true, true⟩ else none
def oneS : List UInt8 → Option (S30 × List UInt8)
  | [] => none
  | o :: t => if isOp o = true then (match outt t with
    | [] => none
    | c :: rest => match spanS o c (inn t) with
      | none => none
      | some s => if mayS s = true then some (s, rest) else none) else none
theorem oneS_cons (o : UInt8) (t : List UInt8) : oneS (o :: t) = if isOp o = true then (match outt t with
    | [] => none
    | c :: rest => match spanS o c (inn t) with
      | none => none
      | some s => if mayS s = true then some (s, rest) else none) else none := rfl
def badS (acc : List S30) (s : S30) : Bool := if acc.length ≥ 20 then true else match acc.getLast? with
  | none => false
  | some p => !behindB (hi8 p) (lo8 s) p.f3 s.f2
def parseF : Nat → List UInt8 → List S30 → List S30 × Int
  | 0, _, _ => ([], 12)
  | n + 1, x, acc => match oneS x with
    | none => ([], 12)
    | some (s, rest) => if badS acc s = true then ([], 12) else match rest with
      | [] => (acc ++ [s], 0)
      | c :: y => if c = 44 then parseF n y (acc ++ [s]) else ([], 12)
theorem inn_out (t : List UInt8) : inn t ++ outt t = t := List.takeWhile_append_dropWhile
theorem trim_le (l : List UInt8) : (trimS l).length ≤ l.length := by
  have g : ∀ l : List UInt8, (l.dropWhile (· == 32)).length ≤ l.length := fun l => (List.dropWhile_sublist _).length_le
  unfold trimS Lib.trimB Lib.trimLeftB Lib.trimRightB
  have a := g (l.reverse.dropWhile (· == 32)).reverse
  have b := g l.reverse
  rw [List.length_reverse] at a b
  omega
theorem cut_le (w : List UInt8) : (Lib.cut w [44]).1.length ≤ w.length ∧ (Lib.cut w [44]).2.1.length ≤ w.length := by
  unfold Lib.cut
  split
  · exact ⟨by simp only [List.length_take]; omega, by simp only [List.length_drop]; omega⟩
  · exact ⟨Nat.le_refl _, Nat.zero_le _⟩
theorem spanS_le (o c : UInt8) (w : List UInt8) (s : S30) (h : spanS o c w = some s) : (lo8 s).length ≤ w.length ∧ (hi8 s).length ≤ w.length := by
  have q := cut_le w
  unfold spanS at h
  split at h
  · obtain rfl := Option.some.inj h
    exact ⟨Nat.le_trans (by show (trimS _).length ≤ _; exact trim_le _) q.1, Nat.le_trans (by show (trimS _).length ≤ _; exact trim_le _) q.2⟩
  · split at h
    · obtain rfl := Option.some.inj h
      exact ⟨by show (trimS _).length ≤ _; exact trim_le _, by show (trimS _).length ≤ _; exact trim_le _⟩
    · cases h
theorem oneS_le (x : List UInt8) (s : S30) (rest : List UInt8) (h : oneS x = some (s, rest)) : rest.length + 2 ≤ x.length ∧ (lo8 s).length ≤ x.length ∧ (hi8 s).length ≤ x.length ∧ mayS s = true := by
  cases x with
  | nil => cases h
  | cons o t =>
    rw [oneS_cons] at h
    by_cases io : isOp o = true
    · rw [if_pos io] at h
      have e := inn_out t
      cases ho : outt t with
      | nil => rw [ho] at h; cases h
      | cons c r =>
        rw [ho] at h e
        dsimp only at h
        cases hs : spanS o c (inn t) with
        | none => rw [hs] at h; cases h
        | some s' =>
          rw [hs] at h
          dsimp only at h
          by_cases m : mayS s' = true
          · rw [if_pos m] at h
            have z := Option.some.inj h
            injection z with z1 z2
            subst z1
            subst z2
            have l := spanS_le o c _ _ hs
            have el : (inn t).length + (r.length + 1) = t.length := by
              have := congrArg List.length e
              rw [List.length_append, List.length_cons] at this
              exact this
            rw [List.length_cons]
            exact ⟨by omega, by omega, by omega, m⟩
          · rw [if_neg m] at h; cases h
    · rw [if_neg io] at h; cases h
theorem op_open (o : UInt8) (h : isOp o = true) : o = 91 ∨ o = 40 := by
  unfold isOp at h
  simpa using h
theorem op_not (o : UInt8) (h : isOp o = true) : clB o = false := by
  rcases op_open o h with rfl | rfl <;> rfl
theorem beq_byte (o : UInt8) (n : Nat) (h : n < 256) : (((o.toNat : Nat) : Int) == (n : Int)) = (o == UInt8.ofNat n) := by
  rw [Bool.eq_iff_iff, beq_iff_eq, beq_iff_eq]
  exact beq_toNat o n h
theorem last_at (l : List S30) (m : Nat) (h : l.length = m + 1) : l.getLast? = some (l[m]'(by omega)) := by
  rw [List.getLast?_eq_getElem?, show l.length - 1 = m by omega, List.getElem?_eq_getElem (by omega)]
theorem byte_is (c : UInt8) (z : Int) (m : UInt8) (h : 0 ≤ z ∧ z < 256) (hm : UInt8.ofNat z.toNat = m) : ((c.toNat : Int) = z) ↔ c = m := by
  obtain ⟨n, rfl⟩ : ∃ n : Nat, z = (n : Int) := ⟨z.toNat, by omega⟩
  rw [Int.toNat_natCast] at hm
  rw [← hm]; exact beq_toNat c n (by omega)
def leftS (l : List UInt8) : List UInt8 := Lib.trimLeftB l 32
def rightS (l : List UInt8) : List UInt8 := Lib.trimRightB l 32
theorem rightS_cons (x : UInt8) (l : List UInt8) : rightS (x :: l) = if rightS l = [] ∧ x = 32 then [] else x :: rightS l := by
  unfold rightS Lib.trimRightB
  rw [List.reverse_cons, List.dropWhile_append]
  by_cases e : l.reverse.dropWhile (· == 32) = []
  · rw [e]
    by_cases h : x = 32
    · subst h; simp
    · simp [h]
  · have : (l.reverse.dropWhile (· == 32)).isEmpty = false := by cases q : l.reverse.dropWhile (· == 32) with
      | nil => exact absurd q e
      | cons a b => rfl
    rw [this, if_neg (by decide), if_neg (fun q => e (by simpa using q.1)), List.reverse_append]
    rfl
theorem trim_turn : ∀ l : List UInt8, leftS (rightS l) = rightS (leftS l)
  | [] => rfl
  | x :: l => by
    have ih := trim_turn l
    have lc : ∀ (y : UInt8) (m : List UInt8), leftS (y :: m) = if y = 32 then leftS m else y :: m := by
      intro y m
      unfold leftS Lib.trimLeftB
      rw [List.dropWhile_cons]
      by_cases h : y = 32
      · subst h; simp
      · simp [h]
    rw [rightS_cons, lc x l]
    by_cases h : x = 32
    · rw [if_pos h]
      by_cases e : rightS l = []
      · rw [if_pos ⟨e, h⟩, ← ih, e]
      · rw [if_neg (fun q => e q.1), lc, if_pos h, ih]
    · rw [if_neg h, if_neg (fun q => h q.2), lc, if_neg h, rightS_cons, if_neg (fun q => h q.2)]
theorem rightS_snoc (l : List UInt8) (b : UInt8) : rightS (l ++ [b]) = if b = 32 then rightS l else l ++ [b] := by
  unfold rightS Lib.trimRightB
  rw [List.reverse_append, List.reverse_singleton, List.singleton_append, List.dropWhile_cons]
  by_cases h : b = 32
  · subst h; simp
  · simp [h]
theorem ref_blank1 : ∀ (n : Nat) (l : List UInt8), l.length = n → l.length ≤ 100000 → Tot (fun k => newelref05_blank.l1 k (ts l)) (fun r => r = ts (rightS l)) := by
  intro n
  induction n with
  | zero =>
    intro l h _
    obtain rfl := List.eq_nil_of_length_eq_zero h
    refine tot_succ ?_ (fun k => by rw [newelref05_blank.l1])
    exact tot_if (fun g => by rw [ts_size] at g; simp at g) (fun _ => tot_some rfl)
  | succ n ih =>
    intro l h hl
    have hne : l ≠ [] := fun e => by rw [e] at h; cases h
    obtain ⟨m, b, rfl⟩ : ∃ m b, l = m ++ [b] := ⟨l.dropLast, l.getLast hne, (List.dropLast_concat_getLast hne).symm⟩
    have hm : m.length = n := by rw [List.length_append] at h; simpa using h
    have sz : (ts (m ++ [b])).size = n + 1 := by rw [ts_size]; exact h
    refine tot_succ ?_ (fun k => by rw [newelref05_blank.l1])
    have e : wrap64 (((n + 1 : Nat) : Int) - 1) = (n : Int) := last_of n (by omega)
    have bb : bt (ts (m ++ [b])) (n : Int) = ((b.toNat : Nat) : Int) := by
      rw [bt_nat (m ++ [b]) n (by rw [h]; omega)]
      congr 2
      rw [List.getElem_append_right (by omega)]
      simp [hm]
    rw [sz, e, bb]
    refine tot_guard (by omega) (tot_guard (by omega) (tot_guard (by omega) ?_))
    have ex : (ts (m ++ [b])).extract 0 ((n : Nat) : Int).toNat = ts m := by
      apply ba_ext
      rw [ba_extract, ts_list, ts_list, Int.toNat_natCast, List.drop_zero, List.take_left' hm]
    rw [ex, rightS_snoc]
    refine tot_if (fun g => tot_guard (by omega) ?_) (fun g => tot_some ?_)
    · rw [if_pos ((byte_is b 32 32 (by omega) rfl).1 g)]
      exact ih m hm (by omega)
    · rw [if_neg (fun q => g ((byte_is b 32 32 (by omega) rfl).2 q))]
theorem ref_blank_cmp (l : List UInt8) (hl : l.length ≤ 100000) : Tot (fun k => newelref05_blank.f k (ts l)) (fun r => r = ts (trimS l)) := by
  have loop : ∀ l : List UInt8, l.length ≤ 100000 → Tot (fun k => newelref05_blank.l0 k (ts l)) (fun r => r = ts (rightS (leftS l))) := by
    intro l
    induction l with
    | nil =>
      intro _
      refine tot_succ ?_ (fun k => by rw [newelref05_blank.l0])
      refine tot_if (fun g => by rw [ts_size] at g; simp at g) (fun _ => tot_succ ?_ (fun k => by rw [newelref05_blank.j1]))
      exact ref_blank1 0 [] rfl (by simp)
    | cons c l ih =>
      intro h
      have h2 : l.length + 1 ≤ 100000 := h
      have sz : (ts (c :: l)).size = l.length + 1 := by rw [ts_size]; rfl
      refine tot_succ ?_ (fun k => by rw [newelref05_blank.l0])
      have bb : bt (ts (c :: l)) 0 = ((c.toNat : Nat) : Int) := bt_nat (c :: l) 0 (by simp)
      have ex : (ts (c :: l)).extract 1 (ts (c :: l)).size = ts l := by
        apply ba_ext
        rw [ba_extract, ts_list, ts_list, ts_size, List.take_length]; rfl
      rw [bb, ex, sz]
      refine tot_guard (by omega) (tot_guard (by omega) (tot_if (fun g => tot_guard (by omega) ?_) (fun g => tot_succ ?_ (fun k => by rw [newelref05_blank.j1]))))
      · have e : leftS (c :: l) = leftS l := by
          unfold leftS Lib.trimLeftB
          rw [List.dropWhile_cons, (byte_is c 32 32 (by omega) rfl).1 g]; rfl
        rw [e]
        exact ih (by omega)
      · have e : leftS (c :: l) = c :: l := by
          unfold leftS Lib.trimLeftB
          rw [List.dropWhile_cons, if_neg (by
            intro q
            exact g ((byte_is c 32 32 (by omega) rfl).2 (beq_iff_eq.1 q)))]
        rw [e]
        exact ref_blank1 _ (c :: l) rfl h
  unfold newelref05_blank.f
  refine tot_imp (loop l hl) (fun r hr => ?_)
  rw [hr, ← trim_turn]; rfl
def comI (l : List UInt8) : Nat := (l.takeWhile (· != 44)).length
theorem com_split (l : List UInt8) : (comI l < l.length ∧ l = l.take (comI l) ++ 44 :: l.drop (comI l + 1) ∧ ∀ x ∈ l.take (comI l), x ≠ 44) ∨ (comI l = l.length ∧ ∀ x ∈ l, x ≠ 44) := by
  induction l with
  | nil => exact Or.inr ⟨rfl, fun _ h => by cases h⟩
  | cons c l ih =>
    by_cases h : c = 44
    · subst h
      refine Or.inl ⟨?_, ?_, ?_⟩
      · show ([] : List UInt8).length < _; simp
      · show _ = List.take 0 _ ++ 44 :: List.drop 1 _; rfl
      · intro x hx; cases hx
    · have e : comI (c :: l) = comI l + 1 := by
        unfold comI
        rw [List.takeWhile_cons, show (c != 44) = true by simpa using h]; rfl
      rw [e]
      rcases ih with ⟨h1, h2, h3⟩ | ⟨h1, h2⟩
      · refine Or.inl ⟨by rw [List.length_cons]; omega, ?_, ?_⟩
        · rw [List.take_succ_cons, List.drop_succ_cons, List.cons_append, ← h2]
        · intro x hx
          rw [List.take_succ_cons] at hx
          rcases List.mem_cons.1 hx with q | q
          · rw [q]; exact h
          · exact h3 x q
      · refine Or.inr ⟨by rw [List.length_cons, h1], fun x hx => ?_⟩
        rcases List.mem_cons.1 hx with q | q
        · rw [q]; exact h
        · exact h2 x q
def SpanR (q : Option S30) (r : ByteArray × ByteArray × Bool × Bool × Bool) : Prop := match q with
  | none => r.2.2.2.2 = false
  | some s => (r = (s.f0, s.f1, s.f2, s.f3, true)) ∨ (r.2.2.2.2 = false ∧ mayS s = false)
theorem ref_span_cmp (o c : UInt8) (w : List UInt8) (hw : w.length ≤ 100000) : Tot (fun k => newelref05_span.f k (ts w) ((o.toNat : Nat) : Int) ((c.toNat : Nat) : Int)) (SpanR (spanS o c w)) := by
  have sz : (ts w).size = w.length := ts_size w
  have eo : ((((o.toNat : Nat) : Int) == 91)) = (o == 91) := beq_byte o 91 (by omega)
  have ec : ((((c.toNat : Nat) : Int) == 93)) = (c == 93) := beq_byte c 93 (by omega)
  have over : ∀ (d i a : Nat), i + d = w.length → a < w.length → Tot (fun k => newelref05_span.l0 k (ts w) ((o.toNat : Nat) : Int) ((c.toNat : Nat) : Int) (a : Int) (w.length : Int)) (SpanR (spanS o c w)) → Tot (fun k => newelref05_span.l0 k (ts w) ((o.toNat : Nat) : Int) ((c.toNat : Nat) : Int) (a : Int) (i : Int)) (SpanR (spanS o c w)) := by
    intro d
    induction d with
    | zero => intro i a h ha t; obtain rfl : i = w.length := by omega
              exact t
    | succ d ih =>
      intro i a h ha t
      refine tot_succ ?_ (fun k => by rw [newelref05_span.l0])
      rw [sz, next_of i (by omega)]
      have nx := ih (i + 1) a (by omega) ha t
      exact tot_if (fun _ => tot_guard (by omega) (tot_if (fun _ => tot_if (fun g => by omega) (fun _ => nx)) (fun _ => nx))) (fun g => by omega)
  have first : ∀ (d i : Nat), i + d = w.length → Tot (fun k => newelref05_span.l0 k (ts w) ((o.toNat : Nat) : Int) ((c.toNat : Nat) : Int) (if comI (w.drop i) < (w.drop i).length then ((i + comI (w.drop i) : Nat) : Int) else -1) (w.length : Int)) (SpanR (spanS o c w)) → Tot (fun k => newelref05_span.l0 k (ts w) ((o.toNat : Nat) : Int) ((c.toNat : Nat) : Int) (-1) (i : Int)) (SpanR (spanS o c w)) := by
    intro d
    induction d with
    | zero =>
      intro i h t
      obtain rfl : i = w.length := by omega
      rw [List.drop_eq_nil_of_le (Nat.le_refl _), if_neg (by simp)] at t
      exact t
    | succ d ih =>
      intro i h t
      have hi : i < w.length := by omega
      rw [List.drop_eq_getElem_cons hi] at t
      refine tot_succ ?_ (fun k => by rw [newelref05_span.l0])
      rw [sz, next_of i (by omega), bt_nat w i hi]
      refine tot_if (fun _ => tot_guard (by omega) (tot_if (fun g => tot_guard (by decide) ?_) (fun g => ?_))) (fun g => by omega)
      · have g2 := (byte_is w[i] 44 44 (by omega) rfl).1 g
        have e : comI (w[i] :: w.drop (i + 1)) = 0 := by
          unfold comI
          rw [List.takeWhile_cons, g2]; rfl
        rw [e, if_pos (show 0 < (w[i] :: w.drop (i + 1)).length from Nat.succ_pos _)] at t
        exact over d (i + 1) i (by omega) hi t
      · have g2 : ¬ w[i] = 44 := fun q => g ((byte_is w[i] 44 44 (by omega) rfl).2 q)
        have e : comI (w[i] :: w.drop (i + 1)) = comI (w.drop (i + 1)) + 1 := by
          unfold comI
          rw [List.takeWhile_cons, show (w[i] != 44) = true by simpa using g2]; rfl
        refine ih (i + 1) (by omega) ?_
        rw [e, List.length_cons] at t
        by_cases q : comI (w.drop (i + 1)) < (w.drop (i + 1)).length
        · rw [if_pos q]
          rw [if_pos (by omega), show i + (comI (w.drop (i + 1)) + 1) = i + 1 + comI (w.drop (i + 1)) by omega] at t
          exact t
        · rw [if_neg q]
          rw [if_neg (by omega)] at t
          exact t
  unfold newelref05_span.f
  refine first w.length 0 (by omega) ?_
  rw [List.drop_zero, Nat.zero_add]
  refine tot_succ ?_ (fun k => by rw [newelref05_span.l0])
  rw [sz, eo, ec]
  refine tot_if (fun g => by omega) (fun _ => ?_)
  rcases com_split w with ⟨h1, h2, h3⟩ | ⟨h1, h2⟩
  · rw [if_pos h1]
    have cw : Lib.cut w [44] = (w.take (comI w), w.drop (comI w + 1), true) := by
      conv => lhs; rw [h2]
      exact cut_there (w.take (comI w)) (w.drop (comI w + 1)) [] 44 h3
    have sp : spanS o c w = some ⟨ts (trimS (w.take (comI w))), ts (trimS (w.drop (comI w + 1))), o == 91, c == 93⟩ := by
      unfold spanS
      rw [cw, if_pos rfl]
    rw [sp]
    have x1 : (ts w).extract 0 ((comI w : Nat) : Int).toNat = ts (w.take (comI w)) := by
      apply ba_ext
      rw [ba_extract, ts_list, ts_list, Int.toNat_natCast, List.drop_zero]
    have x2 : (ts w).extract (((comI w + 1 : Nat) : Int)).toNat w.length = ts (w.drop (comI w + 1)) := by
      apply ba_ext
      rw [ba_extract, ts_list, ts_list, Int.toNat_natCast, List.take_length]
    rw [x1, next_of _ (by omega), x2]
    refine tot_if (fun g => by omega) (fun _ => tot_guard (by omega) (tot_guard (by omega) ?_))
    refine tot_bind (ref_blank_cmp _ (by rw [List.length_take]; omega)) (fun r hr => ?_)
    subst hr
    refine tot_guard (by omega) (tot_guard (by omega) ?_)
    refine tot_bind (ref_blank_cmp _ (by rw [List.length_drop]; omega)) (fun r hr => ?_)
    subst hr
    exact tot_some (Or.inl rfl)
  · rw [if_neg (by omega)]
    have cw : Lib.cut w [44] = (w, [], false) := cut_away w [] 44 h2
    have sp : spanS o c w = if o = 91 ∧ c = 93 then some ⟨ts (trimS w), ts (trimS w), true, true⟩ else none := by
      unfold spanS
      rw [cw, if_neg (show ¬ ((w, ([] : List UInt8), false).2.2 = true) from Bool.false_ne_true)]
    rw [sp]
    refine tot_guard (by decide) (tot_bind (ref_blank_cmp w hw) (fun r hr => ?_))
    subst hr
    rw [ts_toList]
    by_cases e1 : o = 91
    · have n1 : (((o.toNat : Nat) : Int) = 91) := (byte_is o 91 91 (by omega) rfl).2 e1
      by_cases e2 : c = 93
      · rw [if_pos (show o = 91 ∧ c = 93 from ⟨e1, e2⟩), e2]
        refine tot_if (fun g => tot_some (Or.inr ⟨rfl, ?_⟩)) (fun g => tot_guard n1 (tot_some (Or.inl rfl)))
        rw [g]
        unfold mayS mayB boundB lo8
        rfl
      · rw [if_neg (show ¬ (o = 91 ∧ c = 93) from fun q => e2 q.2), show (c == 93) = false from beq_eq_false_iff_ne.2 e2]
        exact tot_if (fun _ => tot_some rfl) (fun _ => tot_if (fun _ => tot_some rfl) (fun _ => tot_some rfl))
    · have n1 : ¬ (((o.toNat : Nat) : Int) = 91) := fun q => e1 ((byte_is o 91 91 (by omega) rfl).1 q)
      rw [if_neg (show ¬ (o = 91 ∧ c = 93) from fun q => e1 q.1)]
      exact tot_if (fun _ => tot_some rfl) (fun _ => tot_if (fun g => absurd g n1) (fun _ => tot_some rfl))
theorem ref_is_nil : newelref05_Is.f (ts []) = some false := by kernel_rfl
theorem ref_is_op (o : UInt8) (l : List UInt8) : newelref05_Is.f (ts (o :: l)) = some (isOp o) := by
  unfold newelref05_Is.f isOp
  have sz : (ts (o :: l)).size = l.length + 1 := by rw [ts_size]; rfl
  have bb : bt (ts (o :: l)) 0 = ((o.toNat : Nat) : Int) := bt_nat (o :: l) 0 (by simp)
  rw [sz, bb, if_pos (by omega), if_pos (by omega), show ((((o.toNat : Nat) : Int) == 40)) = (o == 40) from beq_byte o 40 (by omega)]
  by_cases h : o = 91
  · rw [if_pos ((byte_is o 91 91 (by omega) rfl).2 h), h]; rfl
  · rw [if_neg (fun q => h ((byte_is o 91 91 (by omega) rfl).1 q)), show (o == 91) = false from beq_eq_false_iff_ne.2 h, Bool.false_or]
theorem ref_parse_cmp : ∀ (n : Nat) (x : List UInt8) (acc : List S30), x.length ≤ n → x.length ≤ 50000 → Mid acc → acc.length + x.length ≤ 100000 → Tot (fun k => newelref05_Parse.l0 k (ts x) acc) (fun r => r = parseF n x acc) := by
  have key : ∀ (n : Nat) (x : List UInt8) (acc : List S30), x.length ≤ n + 1 → x.length ≤ 50000 → Mid acc → acc.length + x.length ≤ 100000 →
      (∀ (y : List UInt8) (acc : List S30), y.length ≤ n → y.length + 2 ≤ x.length → Mid acc → acc.length + y.length ≤ 100000 → Tot (fun k => newelref05_Parse.l0 k (ts y) acc) (fun r => r = parseF n y acc)) →
      Tot (fun k => newelref05_Parse.l0 k (ts x) acc) (fun r => r = parseF (n + 1) x acc) := by
    intro n x acc hn hx hm hl ih
    have sz : (ts x).size = x.length := ts_size x
    have l1 : ∀ (P : List S30 × Int → Prop) (d i : Nat), i + d = x.length → Tot (fun k => newelref05_Parse.j2 k (ts x) acc ((i + (inn (x.drop i)).length : Nat) : Int)) P → Tot (fun k => newelref05_Parse.l1 k (ts x) acc (i : Int)) P := by
      intro P d
      induction d with
      | zero =>
        intro i h t
        obtain rfl : i = x.length := by omega
        rw [List.drop_eq_nil_of_le (Nat.le_refl _)] at t
        refine tot_succ ?_ (fun k => by rw [newelref05_Parse.l1])
        rw [sz]
        exact tot_if (fun g => by omega) (fun _ => t)
      | succ d ihd =>
        intro i h t
        have hi : i < x.length := by omega
        rw [List.drop_eq_getElem_cons hi] at t
        refine tot_succ ?_ (fun k => by rw [newelref05_Parse.l1])
        rw [sz, bt_nat x i hi, next_of i (by omega)]
        have cl : clB x[i] = true → inn (x[i] :: x.drop (i + 1)) = [] := by
          intro q
          unfold inn
          rw [List.takeWhile_cons, q]; rfl
        refine tot_if (fun _ => tot_guard (by omega) (tot_if (fun g => ?_) (fun g => tot_if (fun g2 => ?_) (fun g2 => ?_)))) (fun g => by omega)
        · rw [cl (by rw [(byte_is x[i] 93 93 (by omega) rfl).1 g]; rfl)] at t
          exact t
        · rw [cl (by rw [(byte_is x[i] 41 41 (by omega) rfl).1 g2]; rfl)] at t
          exact t
        · refine ihd (i + 1) (by omega) ?_
          have nc : clB x[i] = false := by
            unfold clB
            rw [show (x[i] == 93) = false from beq_eq_false_iff_ne.2 (fun q => g ((byte_is x[i] 93 93 (by omega) rfl).2 q)), show (x[i] == 41) = false from beq_eq_false_iff_ne.2 (fun q => g2 ((byte_is x[i] 41 41 (by omega) rfl).2 q))]; rfl
          have e : (inn (x[i] :: x.drop (i + 1))).length = (inn (x.drop (i + 1))).length + 1 := by
            unfold inn
            rw [List.takeWhile_cons, nc]; rfl
          rw [e, show i + ((inn (x.drop (i + 1))).length + 1) = i + 1 + (inn (x.drop (i + 1))).length by omega] at t
          exact t
    refine tot_succ ?_ (fun k => by rw [newelref05_Parse.l0])
    refine l1 _ x.length 0 (by omega) ?_
    rw [List.drop_zero, Nat.zero_add]
    have no : ∀ (i : Int), Tot (fun k => newelref05_Parse.j3 k (ts x) acc i true) (fun r => r = (([] : List S30), (12 : Int))) := by
      intro i
      refine tot_succ ?_ (fun k => by rw [newelref05_Parse.j3])
      exact tot_guard rfl (tot_some rfl)
    have no4 : ∀ (i : Int) (a b : ByteArray) (p q : Bool), Tot (fun k => newelref05_Parse.j4 k (ts x) acc i true a b p q) (fun r => r = (([] : List S30), (12 : Int))) := by
      intro i a b p q
      refine tot_succ ?_ (fun k => by rw [newelref05_Parse.j4])
      exact tot_guard rfl (tot_some rfl)
    have sp0 : oneS x = none → parseF (n + 1) x acc = ([], 12) := by
      intro ho
      conv => lhs; unfold parseF
      rw [ho]
    refine tot_succ ?_ (fun k => by rw [newelref05_Parse.j2])
    cases x with
    | nil =>
      rw [ref_is_nil, sp0 rfl]
      simp only [Option.bind_some]
      exact tot_if (fun h => by cases h) (fun _ => no _)
    | cons o t =>
      have hx2 : t.length + 1 ≤ 50000 := hx
      have hn2 : t.length + 1 ≤ n + 1 := hn
      have hl2 : acc.length + (t.length + 1) ≤ 100000 := hl
      rw [ref_is_op]
      simp only [Option.bind_some]
      refine tot_if (fun io => ?_) (fun io => ?_)
      · have ne := op_not o io
        have ei : (inn (o :: t)).length = (inn t).length + 1 := by
          unfold inn
          rw [List.takeWhile_cons, ne]; rfl
        rw [ei, sz, List.length_cons]
        have e := inn_out t
        obtain ⟨w, hw⟩ : ∃ w, inn t = w := ⟨_, rfl⟩
        rw [hw] at e ⊢
        cases ho : outt t with
        | nil =>
          rw [ho, List.append_nil] at e
          have on : oneS (o :: t) = none := by rw [oneS_cons, if_pos io, ho]
          rw [sp0 on, e, show ((((t.length + 1 : Nat) : Int)) == ((t.length + 1 : Nat) : Int)) = true from beq_self_eq_true _]
          exact no _
        | cons c rest =>
          rw [ho] at e
          have el : w.length + (rest.length + 1) = t.length := by
            have := congrArg List.length e
            rw [List.length_append, List.length_cons] at this
            exact this
          have gc : (o :: t)[w.length + 1]'(by rw [List.length_cons]; omega) = c := by
            rw [List.getElem_cons_succ]
            have : t[w.length]? = some c := by
              conv => lhs; rw [← e]
              rw [List.getElem?_append_right (Nat.le_refl _), Nat.sub_self]; rfl
            rw [List.getElem?_eq_getElem (by omega)] at this
            exact Option.some.inj this
          have b0 : bt (ts (o :: t)) 0 = ((o.toNat : Nat) : Int) := bt_nat (o :: t) 0 (by simp)
          have bc : bt (ts (o :: t)) ((w.length + 1 : Nat) : Int) = ((c.toNat : Nat) : Int) := by
            rw [bt_nat (o :: t) _ (by rw [List.length_cons]; omega), gc]
          have ex : (ts (o :: t)).extract 1 (((w.length + 1 : Nat) : Int)).toNat = ts w := by
            apply ba_ext
            rw [ba_extract, ts_list, ts_list, Int.toNat_natCast, List.take_succ_cons, List.drop_succ_cons, List.drop_zero]
            conv => lhs; rw [← e]
            rw [List.take_left']
            rfl
          have ex2 : (ts (o :: t)).extract (((w.length + 1 + 1 : Nat) : Int)).toNat (ts (o :: t)).size = ts rest := by
            apply ba_ext
            rw [ba_extract, ts_list, ts_list, Int.toNat_natCast, ts_size, List.take_length, List.drop_succ_cons]
            conv => lhs; rw [← e]
            rw [List.drop_append, List.drop_eq_nil_of_le (by omega), show w.length + 1 - w.length = 1 by omega]
            rfl
          rw [show ((((w.length + 1 : Nat) : Int)) == ((t.length + 1 : Nat) : Int)) = false from beq_eq_false_iff_ne.2 (by omega)]
          refine tot_succ ?_ (fun k => by rw [newelref05_Parse.j3])
          have szo : (ts (o :: t)).size = t.length + 1 := by rw [ts_size]; rfl
          rw [ex, b0, bc, szo]
          refine tot_if (fun h => by cases h) (fun _ => tot_guard (by omega) (tot_guard (by omega) (tot_guard (by omega) (tot_guard (by omega) (tot_guard (by omega) ?_)))))
          refine tot_bind (ref_span_cmp o c w (by omega)) (fun r hr => ?_)
          have one : oneS (o :: t) = match spanS o c w with
            | none => none
            | some s => if mayS s = true then some (s, rest) else none := by
            rw [oneS_cons, if_pos io, ho, hw]
            try rfl
          cases hs : spanS o c w with
          | none =>
            rw [hs] at hr one
            have hr2 : r.2.2.2.2 = false := hr
            rw [sp0 one, hr2]
            exact tot_if (fun h => by cases h) (fun _ => no4 _ _ _ _ _)
          | some s =>
            rw [hs] at hr one
            have one' : oneS (o :: t) = if mayS s = true then some (s, rest) else none := one
            have sle := spanS_le o c w s hs
            rcases hr with hr | ⟨hr, hmay⟩
            · subst hr
              dsimp only
              refine tot_guard rfl ?_
              obtain ⟨s0, s1, s2, s3⟩ := s
              obtain ⟨a0, rfl⟩ : ∃ l, s0 = ts l := ⟨_, (ts_data s0).symm⟩
              obtain ⟨a1, rfl⟩ : ∃ l, s1 = ts l := ⟨_, (ts_data s1).symm⟩
              dsimp only at sle ⊢
              refine tot_bind (ref_may_cmp a0 a1 s2 s3 (Nat.le_trans sle.1 (by omega)) (Nat.le_trans sle.2 (by omega))) (fun r hr => ?_)
              have hm1 : mayS ⟨ts a0, ts a1, s2, s3⟩ = r := hr.symm
              rw [hm1] at one'
              refine tot_if (fun h => ?_) (fun h => ?_)
              · rw [if_pos h] at one'
                have le := oneS_le _ _ _ one'
                have sp : parseF (n + 1) (o :: t) acc = if badS acc ⟨ts a0, ts a1, s2, s3⟩ = true then ([], 12) else match rest with
                  | [] => (acc ++ [⟨ts a0, ts a1, s2, s3⟩], 0)
                  | c :: y => if c = 44 then parseF n y (acc ++ [⟨ts a0, ts a1, s2, s3⟩]) else ([], 12) := by
                  conv => lhs; unfold parseF
                  rw [one']
                  try rfl
                have hm2 : Mid (acc ++ [⟨ts a0, ts a1, s2, s3⟩]) := by
                  intro y hy
                  rcases List.mem_append.1 hy with q | q
                  · exact hm y q
                  · obtain rfl := List.mem_singleton.1 q
                    exact ⟨by rw [ts_size]; exact Nat.le_trans sle.1 (by omega), by rw [ts_size]; exact Nat.le_trans sle.2 (by omega)⟩
                have j4 : ∀ b : Bool, b = badS acc ⟨ts a0, ts a1, s2, s3⟩ → Tot (fun k => newelref05_Parse.j4 k (ts (o :: t)) acc ((w.length + 1 : Nat) : Int) b (ts a0) (ts a1) s2 s3) (fun r => r = parseF (n + 1) (o :: t) acc) := by
                  intro b hb
                  rw [sp, ← hb]
                  cases b with
                  | true => rw [if_pos rfl]; exact no4 _ _ _ _ _
                  | false =>
                    rw [if_neg (by decide)]
                    refine tot_succ ?_ (fun k => by rw [newelref05_Parse.j4])
                    rw [next_of _ (by omega), ex2, szo, ts_toList]
                    simp only [Option.bind_some]
                    refine tot_if (fun h => by cases h) (fun _ => tot_guard (by omega) (tot_guard (by omega) (tot_guard (by omega) ?_)))
                    cases rest with
                    | nil => exact tot_guard rfl (tot_some rfl)
                    | cons c2 y =>
                      have l2 := le.1
                      rw [List.length_cons, List.length_cons] at l2
                      have sz2 : (ts (c2 :: y)).size = y.length + 1 := by rw [ts_size]; rfl
                      have b2 : bt (ts (c2 :: y)) 0 = ((c2.toNat : Nat) : Int) := bt_nat (c2 :: y) 0 (by simp)
                      have ex3 : (ts (c2 :: y)).extract 1 (y.length + 1) = ts y := by
                        apply ba_ext
                        rw [ba_extract, ts_list, ts_list, List.take_of_length_le (by simp)]; rfl
                      rw [sz2, b2, ex3]
                      dsimp only
                      refine tot_if (fun h => by cases h) (fun _ => tot_guard (by omega) (tot_if (fun g => tot_guard (by omega) ?_) (fun g => tot_some ?_)))
                      · rw [if_pos ((byte_is c2 44 44 (by omega) rfl).1 g)]
                        exact ih y _ (by omega) (by rw [List.length_cons]; omega) hm2 (by rw [List.length_append]; show acc.length + 1 + y.length ≤ _; omega)
                      · rw [if_neg (fun q => g ((byte_is c2 44 44 (by omega) rfl).2 q))]
                refine tot_if (fun g => ?_) (fun g => ?_)
                · obtain ⟨m, em⟩ : ∃ m, acc.length = m + 1 := ⟨acc.length - 1, by omega⟩
                  have wr : wrap64 ((acc.length : Int) - 1) = (m : Int) := by rw [em]; exact last_of m (by omega)
                  rw [wr]
                  refine tot_guard (by omega) (tot_guard (by omega) ?_)
                  rw [rd_span acc m (by omega)]
                  have bd : badS acc ⟨ts a0, ts a1, s2, s3⟩ = if acc.length ≥ 20 then true else !behindB (hi8 acc[m]) a0 acc[m].f3 s2 := by
                    unfold badS
                    rw [last_at acc m em]
                    try rfl
                  have mm := hm acc[m] (List.getElem_mem _)
                  obtain ⟨p, hp⟩ : ∃ p, p = acc[m] := ⟨_, rfl⟩
                  rw [← hp] at bd mm ⊢
                  clear hp
                  obtain ⟨p0, p1, p2, p3⟩ := p
                  obtain ⟨b0, rfl⟩ : ∃ l, p0 = ts l := ⟨_, (ts_data p0).symm⟩
                  obtain ⟨b1, rfl⟩ : ∃ l, p1 = ts l := ⟨_, (ts_data p1).symm⟩
                  dsimp only at bd mm ⊢
                  rw [ts_size, ts_size] at mm
                  refine tot_bind (ref_behind_cmp b0 b1 a0 a1 p2 p3 s2 s3 mm.2 (Nat.le_trans sle.1 (by omega))) (fun r hr => ?_)
                  subst hr
                  refine tot_if (fun h => j4 _ ?_) (fun h => j4 _ ?_)
                  · rw [bd]
                    by_cases q : acc.length ≥ 20
                    · rw [if_pos q, decide_eq_true (by omega)]
                    · rw [if_neg q, decide_eq_false (by omega)]
                      have h' : behindB b1 a0 p3 s2 = true := h
                      show false = !behindB (ts b1).data.toList a0 p3 s2
                      rw [ts_list, h']; rfl
                  · rw [bd]
                    by_cases q : acc.length ≥ 20
                    · rw [if_pos q]
                    · rw [if_neg q]
                      have h' : behindB b1 a0 p3 s2 = false := Bool.eq_false_iff.2 h
                      show true = !behindB (ts b1).data.toList a0 p3 s2
                      rw [ts_list, h']; rfl
                · refine j4 _ ?_
                  have : acc = [] := List.eq_nil_of_length_eq_zero (by omega)
                  subst this
                  rfl
              · rw [if_neg h] at one'
                rw [sp0 one']
                exact no4 _ _ _ _ _
            · rw [hmay, if_neg (by decide)] at one'
              rw [sp0 one', hr]
              exact tot_if (fun h => by cases h) (fun _ => no4 _ _ _ _ _)
      · have on : oneS (o :: t) = none := by rw [oneS_cons, if_neg io]
        rw [sp0 on]
        exact no _
  intro n
  induction n with
  | zero =>
    intro x acc hn hx hm hl
    obtain rfl := List.eq_nil_of_length_eq_zero (Nat.le_zero.1 hn)
    exact tot_imp (key 0 [] acc (by simp) (by simp) hm hl (fun y acc _ h => by simp at h)) (fun r hr => hr)
  | succ n ih =>
    intro x acc hn hx hm hl
    exact key n x acc hn hx hm hl (fun y acc h1 h2 h3 h4 => ih y acc h1 (by omega) h3 h4)
theorem ref_texts_total (l : List S30) (hs : Short l) (hl : l.length ≤ 20) : Tot (fun k => newelref05_Text.f k l) (fun r => r.size ≤ 50000) := by
  have j3 : ∀ (i : Nat) (s : ByteArray) (b : Bool) (lo hi : ByteArray) (il ih : Bool), i ≤ 20 → s.size ≤ 2004 * i + 1002 → hi.size ≤ 1000 → (∀ s2 : ByteArray, s2.size ≤ 2004 * (i + 1) → Tot (fun k => newelref05_Text.l0 k l s2 (wrap64 ((i : Int) + 1))) (fun r => r.size ≤ 50000)) → Tot (fun k => newelref05_Text.j3 k l s (i : Int) b lo hi il ih) (fun r => r.size ≤ 50000) := by
    intro i s b lo hi il ih h0 h1 h2 next
    have o44 : (⟨#[44]⟩ : ByteArray).size = 1 := rfl
    have o93 : (⟨#[93]⟩ : ByteArray).size = 1 := rfl
    have o41 : (⟨#[41]⟩ : ByteArray).size = 1 := rfl
    refine tot_succ ?_ (fun k => by rw [newelref05_Text.j3])
    refine tot_if (fun _ => tot_guard (by omega) (tot_guard (by rw [ByteArray.size_append]; omega) (tot_if (fun _ => tot_guard ?_ (next _ ?_)) (fun _ => tot_guard ?_ (next _ ?_))))) (fun _ => tot_if (fun _ => tot_guard ?_ (next _ ?_)) (fun _ => tot_guard ?_ (next _ ?_))) <;> ((try simp only [ByteArray.size_append, o44, o93, o41]); omega)
  have j2 : ∀ (i : Nat) (s : ByteArray) (lo hi : ByteArray) (il ih : Bool), i ≤ 20 → s.size ≤ 2004 * i + 2 → lo.size ≤ 1000 → hi.size ≤ 1000 → (∀ s2 : ByteArray, s2.size ≤ 2004 * (i + 1) → Tot (fun k => newelref05_Text.l0 k l s2 (wrap64 ((i : Int) + 1))) (fun r => r.size ≤ 50000)) → Tot (fun k => newelref05_Text.j2 k l s (i : Int) lo hi il ih) (fun r => r.size ≤ 50000) := by
    intro i s lo hi il ih h0 h1 h2 h3 next
    have z : (s ++ lo).size ≤ 2004 * i + 1002 := by rw [ByteArray.size_append]; omega
    refine tot_succ ?_ (fun k => by rw [newelref05_Text.j2])
    exact tot_guard (by omega) (tot_if (fun _ => tot_if (fun _ => j3 i _ _ _ _ _ _ h0 z h3 next) (fun _ => j3 i _ _ _ _ _ _ h0 z h3 next)) (fun _ => j3 i _ _ _ _ _ _ h0 z h3 next))
  have j1 : ∀ (i : Nat) (s : ByteArray) (lo hi : ByteArray) (il ih : Bool), i ≤ 20 → s.size ≤ 2004 * i + 1 → lo.size ≤ 1000 → hi.size ≤ 1000 → (∀ s2 : ByteArray, s2.size ≤ 2004 * (i + 1) → Tot (fun k => newelref05_Text.l0 k l s2 (wrap64 ((i : Int) + 1))) (fun r => r.size ≤ 50000)) → Tot (fun k => newelref05_Text.j1 k l s (i : Int) lo hi il ih) (fun r => r.size ≤ 50000) := by
    intro i s lo hi il ih h0 h1 h2 h3 next
    have o91 : (⟨#[91]⟩ : ByteArray).size = 1 := rfl
    have o40 : (⟨#[40]⟩ : ByteArray).size = 1 := rfl
    refine tot_succ ?_ (fun k => by rw [newelref05_Text.j1])
    exact tot_if (fun _ => tot_guard (by omega) (j2 i _ _ _ _ _ h0 (by rw [ByteArray.size_append]; omega) h2 h3 next)) (fun _ => tot_guard (by omega) (j2 i _ _ _ _ _ h0 (by rw [ByteArray.size_append]; omega) h2 h3 next))
  have loop : ∀ (d i : Nat) (s : ByteArray), i + d = l.length → s.size ≤ 2004 * i → Tot (fun k => newelref05_Text.l0 k l s (i : Int)) (fun r => r.size ≤ 50000) := by
    intro d
    induction d with
    | zero =>
      intro i s h hz
      refine tot_succ ?_ (fun k => by rw [newelref05_Text.l0])
      exact tot_if (fun g => by omega) (fun _ => tot_some (by omega))
    | succ d ih =>
      intro i s h hz
      have o44 : (⟨#[44]⟩ : ByteArray).size = 1 := rfl
      have hi : i < l.length := by omega
      have sh := hs l[i] (List.getElem_mem hi)
      have next : ∀ s2 : ByteArray, s2.size ≤ 2004 * (i + 1) → Tot (fun k => newelref05_Text.l0 k l s2 (wrap64 ((i : Int) + 1))) (fun r => r.size ≤ 50000) := by
        intro s2 h2
        rw [next_of i (by omega)]
        exact ih (i + 1) s2 (by omega) h2
      refine tot_succ ?_ (fun k => by rw [newelref05_Text.l0])
      rw [rd_span l i hi]
      exact tot_if (fun _ => tot_guard (by omega) (tot_if (fun _ => tot_guard (by omega) (j1 i _ _ _ _ _ (by omega) (by rw [ByteArray.size_append]; omega) sh.1 sh.2 next)) (fun _ => j1 i _ _ _ _ _ (by omega) (by omega) sh.1 sh.2 next))) (fun g => by omega)
  unfold newelref05_Text.f
  exact loop l.length 0 _ (by omega) (by show 0 ≤ _; omega)
theorem plain_total (x y : List S30) (hy : y.length ≤ 100000) : Tot (fun k => api_Span_15.f k x y) (fun _ => True) := by
  have loop : ∀ (d i : Nat), x.length = y.length → i + d = x.length → Tot (fun k => api_Span_32.l0 k x y (i : Int)) (fun _ => True) := by
    intro d
    induction d with
    | zero =>
      intro i hl h
      refine tot_succ ?_ (fun k => by rw [api_Span_32.l0])
      exact tot_if (fun g => by omega) (fun _ => tot_some trivial)
    | succ d ih =>
      intro i hl h
      refine tot_succ ?_ (fun k => by rw [api_Span_32.l0])
      refine tot_guard (by omega) (tot_guard (by omega) (tot_guard (by omega) (tot_bind (Q := fun _ => True) (tot_const rfl trivial) (fun _ _ => tot_if (fun _ => ?_) (fun _ => tot_some trivial)))))
      rw [next_of i (by omega)]
      exact ih (i + 1) hl (by omega)
  unfold api_Span_15.f api_Span_32.f
  refine tot_bind (Q := fun _ => True) (tot_if (fun h => ?_) (fun _ => tot_some trivial)) (fun _ _ => tot_some trivial)
  exact loop x.length 0 (by omega) (by omega)
theorem next_big (i : Nat) (h : i + 1 ≤ 9223372036854775807) : wrap64 ((i : Int) + 1) = ((i + 1 : Nat) : Int) := by unfold wrap64; omega
theorem few_told (l : List S30) : ∀ (d i : Nat), i + d = l.length → l.length ≤ 9223372036854775807 → Tot (fun k => newellaw07_few.l0 k l (i : Int)) (fun r => r = true → l.length ≤ 20 ∧ ∀ s ∈ l.drop i, s.f0.size ≤ 100 ∧ s.f1.size ≤ 100) := by
  intro d
  induction d with
  | zero =>
    intro i h hl
    refine tot_succ ?_ (fun k => by rw [newellaw07_few.l0])
    refine tot_if (fun g => by omega) (fun _ => tot_some (fun h => ⟨by have := of_decide_eq_true h; omega, fun s hs => ?_⟩))
    rw [List.drop_eq_nil_of_le (by omega)] at hs
    cases hs
  | succ d ih =>
    intro i h hl
    have hi : i < l.length := by omega
    refine tot_succ ?_ (fun k => by rw [newellaw07_few.l0])
    rw [rd_span l i hi, next_big i (by omega)]
    refine tot_if (fun _ => tot_guard (by omega) (tot_if (fun _ => tot_some (fun h => by cases h)) (fun g1 => tot_if (fun _ => tot_some (fun h => by cases h)) (fun g2 => ?_)))) (fun g => by omega)
    refine tot_imp (ih (i + 1) (by omega) hl) (fun r hr h => ?_)
    obtain ⟨h1, h2⟩ := hr h
    refine ⟨h1, fun s hs => ?_⟩
    rw [List.drop_eq_getElem_cons hi] at hs
    rcases List.mem_cons.1 hs with q | q
    · subst q; exact ⟨by omega, by omega⟩
    · exact h2 s q
def Good (l : List S30) : Prop := l.length ≤ 12 ∧ ∀ s ∈ l, s.f0.size ≤ 100 ∧ s.f1.size ≤ 100 ∧ mayS s = true
theorem right_cmp (l : List S30) (hs : ∀ s ∈ l, s.f0.size ≤ 100 ∧ s.f1.size ≤ 100) (hl : l.length ≤ 1000000) : Tot (fun k => newellaw07_right.f k l) Good := by
  have loop : ∀ (d i : Nat) (acc : List S30), i + d = l.length → acc.length ≤ i → Good acc → Tot (fun k => newellaw07_right.l0 k l acc (i : Int)) Good := by
    intro d
    induction d with
    | zero =>
      intro i acc h ha hg
      refine tot_succ ?_ (fun k => by rw [newellaw07_right.l0])
      refine tot_if (fun g => by omega) (fun _ => tot_succ ?_ (fun k => by rw [newellaw07_right.j1]))
      exact tot_if (fun h => by cases h) (fun _ => tot_some hg)
    | succ d ih =>
      intro i acc h ha hg
      have hi : i < l.length := by omega
      have sh := hs l[i] (List.getElem_mem hi)
      refine tot_succ ?_ (fun k => by rw [newellaw07_right.l0])
      refine tot_if (fun _ => tot_succ ?_ (fun k => by rw [newellaw07_right.j1])) (fun g => by omega)
      refine tot_if (fun h12 => ?_) (fun _ => tot_some hg)
      have hi12 : i < 12 := by have := of_decide_eq_true h12; omega
      have g1 := hg.1
      rw [rd_span l i hi, next_of i (by omega)]
      simp only [Option.bind_some, List.nil_append, List.length_nil]
      refine tot_guard (by omega) (tot_guard (by omega) (tot_guard (by omega) (tot_guard (by simp; omega) ?_)))
      have len2 : (acc ++ [(⟨l[i].f0, l[i].f1, l[i].f2, l[i].f3⟩ : S30)]).length ≤ 20 := by simp; omega
      have short2 : Short (acc ++ [(⟨l[i].f0, l[i].f1, l[i].f2, l[i].f3⟩ : S30)]) := by
        intro s hs2
        rcases List.mem_append.1 hs2 with q | q
        · have := hg.2 s q; exact ⟨by omega, by omega⟩
        · obtain rfl := List.mem_singleton.1 q; exact ⟨by show l[i].f0.size ≤ 1000; omega, by show l[i].f1.size ≤ 1000; omega⟩
      have stay : Tot (fun k => newellaw07_right.l0 k l acc ((i + 1 : Nat) : Int)) Good := ih (i + 1) acc (by omega) (by omega) hg
      refine tot_bind (ref_texts_total _ short2 len2) (fun t ht => ?_)
      have tz := ba_size t
      have pc := ref_parse_cmp t.data.toList.length t.data.toList [] (Nat.le_refl _) (by omega) (fun s hs => by cases hs) (by simp; omega)
      rw [ts_data] at pc
      refine tot_bind (Q := fun _ => True) (tot_imp (f := fun k => newelref05_Parse.f k t) pc (fun _ _ => trivial)) (fun r _ => ?_)
      obtain ⟨s, hse⟩ : ∃ s, s = l[i] := ⟨_, rfl⟩
      rw [← hse] at sh len2 short2 ⊢
      clear hse
      obtain ⟨s0, s1, s2, s3⟩ := s
      obtain ⟨a0, rfl⟩ : ∃ l, s0 = ts l := ⟨_, (ts_data s0).symm⟩
      obtain ⟨a1, rfl⟩ : ∃ l, s1 = ts l := ⟨_, (ts_data s1).symm⟩
      dsimp only at sh len2 short2 ⊢
      rw [ts_size, ts_size] at sh
      refine tot_bind (ref_may_cmp a0 a1 s2 s3 (by omega) (by omega)) (fun m hm => ?_)
      refine tot_if (fun hmt => tot_if (fun _ => tot_bind (plain_total _ _ (by omega)) (fun p _ => tot_if (fun _ => ?_) (fun _ => stay))) (fun _ => stay)) (fun _ => stay)
      refine ih (i + 1) _ (by omega) (by simp; omega) ⟨by simp; omega, ?_⟩
      intro s hs2
      rcases List.mem_append.1 hs2 with q | q
      · exact hg.2 s q
      · obtain rfl := List.mem_singleton.1 q
        refine ⟨by rw [ts_size]; exact sh.1, by rw [ts_size]; exact sh.2, ?_⟩
        have : mayS ⟨ts a0, ts a1, s2, s3⟩ = m := hm.symm
        rw [this]; exact hmt
  unfold newellaw07_right.f
  exact loop l.length 0 [] (by omega) (by simp) ⟨by simp, fun s hs => by cases hs⟩
end Go.Proofs.YtgdjfcmmpjcaaaaGreatDoor.Pure
namespace Go.Proofs.YtgdjfcmmpjcaaaaGreatDoor.Pure
open Go Go.RowKit Go.Proofs.YtgdjfcmmpjcaaaaGreatDoor.Q Go.Proofs.YtgdjfcmmpjcaaaaGreatDoorW.PrintWords
theorem awake7_60 : newellaw07_awake.f 60 = some true := by kernel_rfl
theorem awake7_ge (k : Nat) (h : 60 ≤ k) : newellaw07_awake.f k = some true := by
  obtain ⟨j, rfl⟩ := Nat.exists_eq_add_of_le h
  clear h
  induction j with
  | zero => exact awake7_60
  | succ j ih => exact newellaw07_awake.mono _ _ ih
end Go.Proofs.YtgdjfcmmpjcaaaaGreatDoor.Pure
namespace Go.Proofs.YtgdjfcmmpjcaaaaGreatDoor.Pure
open Go Go.RowKit Go.Proofs.YtgdjfcmmpjcaaaaGreatDoor.Q Go.Proofs.YtgdjfcmmpjcaaaaGreatDoorW.PrintWords Go.Proofs.YtgdjfcmmpjcaaaaGreatDoorW.PrintLast Go.Proofs.YtgdjfcmmpjcaaaaGreatDoorW.Own Go.Proofs.YtgdjfcmmpjcaaaaGreatDoorW.PrintMore Go.Proofs.YtgdjfcmmpjcaaaaGreatDoorW.Px
set_option linter.unusedSimpArgs false
set_option linter.unusedVariables false
section
variable {α : Type}
theorem ord_flip {c : α → α → Int} (h : Ord3 c) {a b : α} (g : c a b < 0) : c b a > 0 := by have := h.anti a b; omega
theorem ord_flip2 {c : α → α → Int} (h : Ord3 c) {a b : α} (g : c a b > 0) : c b a < 0 := by have := h.anti a b; omega
theorem lw_gt {c : α → α → Int} (h : Ord3 c) (a b v : α) (ia ib : Bool) (g : c a b > 0) : (if c v a < 0 then false else if c v a = 0 then ia else true) = ((if c v a < 0 then false else if c v a = 0 then ia else true) && (if c v b < 0 then false else if c v b = 0 then ib else true)) := by
  by_cases x : c v a < 0
  · rw [if_pos x, Bool.false_and]
  · have t := h.trans b a v
    have e1 := h.anti a b
    have e2 := h.anti a v
    have e3 := h.anti b v
    have y : ¬ c v b = 0 := fun z => by have := h.eql z a; omega
    rw [if_neg (show ¬ c v b < 0 by omega), if_neg y, Bool.and_true]
theorem lw_eq {c : α → α → Int} (h : Ord3 c) (a b v : α) (ia ib : Bool) (g : c a b = 0) : (if c v a < 0 then false else if c v a = 0 then (ia && ib) else true) = ((if c v a < 0 then false else if c v a = 0 then ia else true) && (if c v b < 0 then false else if c v b = 0 then ib else true)) := by
  have e := h.eql g v
  have e2 := h.anti a v
  have e3 := h.anti b v
  have e4 : c v b = c v a := by omega
  rw [e4]
  by_cases x : c v a < 0
  · rw [if_pos x, if_pos x, if_pos x]; rfl
  · by_cases y : c v a = 0
    · rw [if_neg x, if_pos y, if_neg x, if_pos y, if_neg x, if_pos y]
    · rw [if_neg x, if_neg y, if_neg x, if_neg y, if_neg x, if_neg y]; rfl
theorem hw_lt {c : α → α → Int} (h : Ord3 c) (a b v : α) (ia ib : Bool) (g : c a b < 0) : (if c v a > 0 then false else if c v a = 0 then ia else true) = ((if c v a > 0 then false else if c v a = 0 then ia else true) && (if c v b > 0 then false else if c v b = 0 then ib else true)) := by
  by_cases x : c v a > 0
  · rw [if_pos x, Bool.false_and]
  · have t := h.trans v a b
    have e1 := h.anti a b
    have e2 := h.anti a v
    have e3 := h.anti b v
    have y : ¬ c v b = 0 := fun z => by have := h.eql z a; omega
    rw [if_neg (show ¬ c v b > 0 by omega), if_neg y, Bool.and_true]
theorem hw_eq {c : α → α → Int} (h : Ord3 c) (a b v : α) (ia ib : Bool) (g : c a b = 0) : (if c v a > 0 then false else if c v a = 0 then (ia && ib) else true) = ((if c v a > 0 then false else if c v a = 0 then ia else true) && (if c v b > 0 then false else if c v b = 0 then ib else true)) := by
  have e := h.eql g v
  have e2 := h.anti a v
  have e3 := h.anti b v
  have e4 : c v b = c v a := by omega
  rw [e4]
  by_cases x : c v a > 0
  · rw [if_pos x, if_pos x, if_pos x]; rfl
  · by_cases y : c v a = 0
    · rw [if_neg x, if_pos y, if_neg x, if_pos y, if_neg x, if_pos y]
    · rw [if_neg x, if_neg y, if_neg x, if_neg y, if_neg x, if_neg y]; rfl
theorem no_one {c : α → α → Int} (h : Ord3 c) (lo hi v : α) (il ih : Bool) (n : ¬ c lo hi < 0) (z : c lo hi = 0 → (il && ih) = false) : ((if c v lo < 0 then false else if c v lo = 0 then il else true) && (if c v hi > 0 then false else if c v hi = 0 then ih else true)) = false := by
  by_cases x : c v lo < 0
  · rw [if_pos x, Bool.false_and]
  · by_cases y : c v hi > 0
    · rw [if_pos y, Bool.and_false]
    · have t := h.trans lo v hi
      have e1 := h.anti lo v
      have e2 := h.anti hi v
      have g : c lo hi = 0 := by omega
      have e3 := h.eql g v
      rw [if_neg x, if_pos (show c v lo = 0 by omega), if_neg y, if_pos (show c v hi = 0 by omega)]
      exact z g
end
def closeB (sg : Int) (a : List UInt8) (ia : Bool) (b : List UInt8) (ib : Bool) : List UInt8 × Bool := if a = [] then (b, ib) else if b = [] then (a, ia) else if sg * cmpV a b > 0 then (a, ia) else if sg * cmpV a b < 0 then (b, ib) else (a, ia && ib)
theorem close_a (sg : Int) (a : List UInt8) (ia : Bool) (b : List UInt8) (ib : Bool) (h : a = []) : closeB sg a ia b ib = (b, ib) := by unfold closeB; rw [if_pos h]
theorem close_b (sg : Int) (a : List UInt8) (ia : Bool) (b : List UInt8) (ib : Bool) (h : ¬ a = []) (g : b = []) : closeB sg a ia b ib = (a, ia) := by unfold closeB; rw [if_neg h, if_pos g]
theorem close_gt (sg : Int) (a : List UInt8) (ia : Bool) (b : List UInt8) (ib : Bool) (h : ¬ a = []) (g : ¬ b = []) (x : sg * cmpV a b > 0) : closeB sg a ia b ib = (a, ia) := by unfold closeB; rw [if_neg h, if_neg g, if_pos x]
theorem close_lt (sg : Int) (a : List UInt8) (ia : Bool) (b : List UInt8) (ib : Bool) (h : ¬ a = []) (g : ¬ b = []) (y : ¬ sg * cmpV a b > 0) (x : sg * cmpV a b < 0) : closeB sg a ia b ib = (b, ib) := by unfold closeB; rw [if_neg h, if_neg g, if_neg y, if_pos x]
theorem close_eq (sg : Int) (a : List UInt8) (ia : Bool) (b : List UInt8) (ib : Bool) (h : ¬ a = []) (g : ¬ b = []) (y : ¬ sg * cmpV a b > 0) (x : ¬ sg * cmpV a b < 0) : closeB sg a ia b ib = (a, ia && ib) := by unfold closeB; rw [if_neg h, if_neg g, if_neg y, if_neg x]
theorem low_close (a : List UInt8) (ia : Bool) (b : List UInt8) (ib : Bool) (v : List UInt8) : lowB2 (closeB 1 a ia b ib).1 (closeB 1 a ia b ib).2 v = (lowB2 a ia v && lowB2 b ib v) := by
  by_cases ha : a = []
  · have f : lowB2 a ia v = true := by unfold lowB2; rw [if_pos ha]
    rw [close_a 1 a ia b ib ha, f, Bool.true_and]
  · by_cases hb : b = []
    · have f : lowB2 b ib v = true := by unfold lowB2; rw [if_pos hb]
      rw [close_b 1 a ia b ib ha hb, f, Bool.and_true]
    · have fa : ∀ i, lowB2 a i v = if cmpV v a < 0 then false else if cmpV v a = 0 then i else true := fun i => by unfold lowB2; rw [if_neg ha]
      have fb : ∀ i, lowB2 b i v = if cmpV v b < 0 then false else if cmpV v b = 0 then i else true := fun i => by unfold lowB2; rw [if_neg hb]
      have e1 : (1 : Int) * cmpV a b = cmpV a b := Int.one_mul _
      by_cases g : cmpV a b > 0
      · rw [close_gt 1 a ia b ib ha hb (by rw [e1]; exact g)]
        show lowB2 a ia v = _
        rw [fa ia, fb ib]
        exact lw_gt ord_vers a b v ia ib g
      · by_cases l : cmpV a b < 0
        · rw [close_lt 1 a ia b ib ha hb (by rw [e1]; exact g) (by rw [e1]; exact l)]
          show lowB2 b ib v = _
          rw [fa ia, fb ib, Bool.and_comm]
          exact lw_gt ord_vers b a v ib ia (ord_flip ord_vers l)
        · rw [close_eq 1 a ia b ib ha hb (by rw [e1]; exact g) (by rw [e1]; exact l)]
          show lowB2 a (ia && ib) v = _
          rw [fa (ia && ib), fa ia, fb ib]
          exact lw_eq ord_vers a b v ia ib (Int.le_antisymm (Int.not_lt.1 g) (Int.not_lt.1 l))
theorem neg_gt (x : Int) : (-1 : Int) * x > 0 ↔ x < 0 := by omega
theorem neg_lt (x : Int) : (-1 : Int) * x < 0 ↔ x > 0 := by omega
theorem high_close (a : List UInt8) (ia : Bool) (b : List UInt8) (ib : Bool) (v : List UInt8) : highB (closeB (-1) a ia b ib).1 (closeB (-1) a ia b ib).2 v = (highB a ia v && highB b ib v) := by
  by_cases ha : a = []
  · have f : highB a ia v = true := by unfold highB; rw [if_pos ha]
    rw [close_a (-1) a ia b ib ha, f, Bool.true_and]
  · by_cases hb : b = []
    · have f : highB b ib v = true := by unfold highB; rw [if_pos hb]
      rw [close_b (-1) a ia b ib ha hb, f, Bool.and_true]
    · have fa : ∀ i, highB a i v = if cmpV v a > 0 then false else if cmpV v a = 0 then i else true := fun i => by unfold highB; rw [if_neg ha]
      have fb : ∀ i, highB b i v = if cmpV v b > 0 then false else if cmpV v b = 0 then i else true := fun i => by unfold highB; rw [if_neg hb]
      have e1 := neg_gt (cmpV a b)
      have e2 := neg_lt (cmpV a b)
      by_cases g : cmpV a b < 0
      · rw [close_gt (-1) a ia b ib ha hb (e1.2 g)]
        show highB a ia v = _
        rw [fa ia, fb ib]
        exact hw_lt ord_vers a b v ia ib g
      · by_cases l : cmpV a b > 0
        · rw [close_lt (-1) a ia b ib ha hb (fun x => g (e1.1 x)) (e2.2 l)]
          show highB b ib v = _
          rw [fa ia, fb ib, Bool.and_comm]
          exact hw_lt ord_vers b a v ib ia (ord_flip2 ord_vers l)
        · rw [close_eq (-1) a ia b ib ha hb (fun x => g (e1.1 x)) (fun x => l (e2.1 x))]
          show highB a (ia && ib) v = _
          rw [fa (ia && ib), fa ia, fb ib]
          exact hw_eq ord_vers a b v ia ib (Int.le_antisymm (Int.not_lt.1 l) (Int.not_lt.1 g))
theorem bound_close (sg : Int) (a : List UInt8) (ia : Bool) (b : List UInt8) (ib : Bool) (h1 : boundB a ia = true) (h2 : boundB b ib = true) : boundB (closeB sg a ia b ib).1 (closeB sg a ia b ib).2 = true := by
  by_cases ha : a = []
  · rw [close_a sg a ia b ib ha]; exact h2
  · by_cases hb : b = []
    · rw [close_b sg a ia b ib ha hb]; exact h1
    · by_cases g : sg * cmpV a b > 0
      · rw [close_gt sg a ia b ib ha hb g]; exact h1
      · by_cases l : sg * cmpV a b < 0
        · rw [close_lt sg a ia b ib ha hb g l]; exact h2
        · rw [close_eq sg a ia b ib ha hb g l]
          show boundB a (ia && ib) = true
          unfold boundB at h1 ⊢
          by_cases r : rightB a = true
          · rw [if_pos r]
          · rw [if_neg r, if_neg ha] at h1; cases h1
theorem size_close (sg : Int) (a : List UInt8) (ia : Bool) (b : List UInt8) (ib : Bool) (n : Nat) (h1 : a.length ≤ n) (h2 : b.length ≤ n) : (closeB sg a ia b ib).1.length ≤ n := by
  unfold closeB
  repeat' split
  all_goals assumption
def bothS (x y : S30) : S30 := ⟨ts (closeB 1 (lo8 x) x.f2 (lo8 y) y.f2).1, ts (closeB (-1) (hi8 x) x.f3 (hi8 y) y.f3).1, (closeB 1 (lo8 x) x.f2 (lo8 y) y.f2).2, (closeB (-1) (hi8 x) x.f3 (hi8 y) y.f3).2⟩
theorem lo_both (x y : S30) : lo8 (bothS x y) = (closeB 1 (lo8 x) x.f2 (lo8 y) y.f2).1 := ts_list _
theorem hi_both (x y : S30) : hi8 (bothS x y) = (closeB (-1) (hi8 x) x.f3 (hi8 y) y.f3).1 := ts_list _
theorem holds_both (x y : S30) (v : List UInt8) : holdsS (bothS x y) v = (holdsS x v && holdsS y v) := by
  unfold holdsS
  rw [lo_both, hi_both]
  show (lowB2 (closeB 1 (lo8 x) x.f2 (lo8 y) y.f2).1 (closeB 1 (lo8 x) x.f2 (lo8 y) y.f2).2 v && highB (closeB (-1) (hi8 x) x.f3 (hi8 y) y.f3).1 (closeB (-1) (hi8 x) x.f3 (hi8 y) y.f3).2 v) = _
  rw [low_close, high_close]
  cases lowB2 (lo8 x) x.f2 v <;> cases lowB2 (lo8 y) y.f2 v <;> cases highB (hi8 x) x.f3 v <;> cases highB (hi8 y) y.f3 v <;> rfl
theorem may_bounds (x : S30) (h : mayS x = true) : boundB (lo8 x) x.f2 = true ∧ boundB (hi8 x) x.f3 = true := by
  unfold mayS mayB at h
  by_cases a : boundB (lo8 x) x.f2 = true
  · by_cases b : boundB (hi8 x) x.f3 = true
    · exact ⟨a, b⟩
    · rw [if_pos a, if_neg b] at h; cases h
  · rw [if_neg a] at h; cases h
theorem may_none (x : S30) (v : List UInt8) (a : boundB (lo8 x) x.f2 = true) (b : boundB (hi8 x) x.f3 = true) (h : ¬ mayS x = true) : holdsS x v = false := by
  unfold mayS mayB at h
  rw [if_pos a, if_pos b] at h
  by_cases l : lo8 x = []
  · rw [if_pos l] at h; exact absurd rfl h
  · by_cases g : hi8 x = []
    · rw [if_neg l, if_pos g] at h; exact absurd rfl h
    · rw [if_neg l, if_neg g] at h
      by_cases n : cmpV (lo8 x) (hi8 x) < 0
      · rw [if_pos n] at h; exact absurd rfl h
      · rw [if_neg n] at h
        unfold holdsS lowB2 highB
        rw [if_neg l, if_neg g]
        refine no_one ord_vers _ _ v _ _ n (fun z => ?_)
        rw [if_pos z] at h
        cases p : x.f2
        · rfl
        · rw [p, if_pos rfl] at h
          cases q : x.f3
          · rfl
          · exact absurd q h
def bothL (x y : List S30) : List S30 := x.flatMap fun s => (y.map (bothS s)).filter mayS
theorem range_one (s : S30) (v : List UInt8) (hs : mayS s = true) : ∀ y : List S30, (∀ t ∈ y, mayS t = true) → rangeB ((y.map (bothS s)).filter mayS) v = (holdsS s v && rangeB y v)
  | [], _ => (Bool.and_false _).symm
  | t :: y, h => by
    have ih := range_one s v hs y (fun u hu => h u (List.mem_cons_of_mem _ hu))
    have e : rangeB (t :: y) v = (holdsS t v || rangeB y v) := rfl
    have hb := holds_both s t v
    rw [List.map_cons, List.filter_cons, e]
    by_cases m : mayS (bothS s t) = true
    · rw [if_pos m]
      have e2 : rangeB (bothS s t :: (y.map (bothS s)).filter mayS) v = (holdsS (bothS s t) v || rangeB ((y.map (bothS s)).filter mayS) v) := rfl
      rw [e2, ih, hb]
      cases holdsS s v <;> rfl
    · rw [if_neg m, ih]
      have b1 := may_bounds s hs
      have b2 := may_bounds t (h t List.mem_cons_self)
      have z := may_none (bothS s t) v (by rw [lo_both]; exact bound_close 1 _ _ _ _ b1.1 b2.1) (by rw [hi_both]; exact bound_close (-1) _ _ _ _ b1.2 b2.2) m
      rw [hb] at z
      cases p : holdsS s v
      · rfl
      · rw [p, Bool.true_and] at z
        rw [z]; rfl
theorem range_both (v : List UInt8) (y : List S30) (hy : ∀ t ∈ y, mayS t = true) : ∀ x : List S30, (∀ t ∈ x, mayS t = true) → rangeB (bothL x y) v = (rangeB x v && rangeB y v)
  | [], _ => rfl
  | s :: x, h => by
    have ih := range_both v y hy x (fun u hu => h u (List.mem_cons_of_mem _ hu))
    have e : rangeB (s :: x) v = (holdsS s v || rangeB x v) := rfl
    have e2 : bothL (s :: x) y = (y.map (bothS s)).filter mayS ++ bothL x y := rfl
    have e3 : ∀ a b : List S30, rangeB (a ++ b) v = (rangeB a v || rangeB b v) := fun a b => by unfold rangeB; rw [List.any_append]
    rw [e, e2, e3, ih, range_one s v (h s List.mem_cons_self) y hy]
    cases holdsS s v <;> cases rangeB x v <;> cases rangeB y v <;> rfl
theorem both_nil : ∀ x : List S30, bothL x [] = []
  | [] => rfl
  | s :: x => both_nil x
theorem both_len (y : List S30) : ∀ x : List S30, (bothL x y).length ≤ x.length * y.length
  | [] => Nat.zero_le _
  | s :: x => by
    have ih := both_len y x
    have e2 : bothL (s :: x) y = (y.map (bothS s)).filter mayS ++ bothL x y := rfl
    have f := List.length_filter_le mayS (y.map (bothS s))
    rw [List.length_map] at f
    rw [e2, List.length_append, List.length_cons, Nat.succ_mul]
    omega
theorem both_mid (x y : List S30) (hx : Mid x) (hy : Mid y) : Mid (bothL x y) := by
  intro s hs
  obtain ⟨a, ha, h⟩ := List.mem_flatMap.1 hs
  obtain ⟨b, hb, rfl⟩ := List.mem_map.1 (List.mem_filter.1 h).1
  have ax := hx a ha
  have bx := hy b hb
  rw [ba_size, ba_size] at ax bx
  constructor
  · show (ts _).size ≤ _
    rw [ts_size]
    exact size_close 1 _ _ _ _ _ ax.1 bx.1
  · show (ts _).size ≤ _
    rw [ts_size]
    exact size_close (-1) _ _ _ _ _ ax.2 bx.2
theorem wrap_sg (sg : Int) (h : sg = 1 ∨ sg = -1) (a b : List UInt8) : wrap64 (sg * cmpV a b) = sg * cmpV a b := by
  have r := ord_vers.rng a b
  generalize cmpV a b = c at r ⊢
  unfold wrap64
  rcases h with rfl | rfl <;> omega
theorem closer_cmp (a b : List UInt8) (ia ib : Bool) (sg : Int) (h : sg = 1 ∨ sg = -1) (ha : a.length ≤ 100000) (hb : b.length ≤ 100000) : Tot (fun k => span_closer.f k (ts a) ia (ts b) ib sg) (fun r => r = (ts (closeB sg a ia b ib).1, (closeB sg a ia b ib).2)) := by
  unfold span_closer.f
  rw [ts_toList, ts_toList]
  refine tot_if (fun e => tot_some (by rw [close_a sg a ia b ib e])) (fun e => tot_if (fun g => tot_some (by rw [close_b sg a ia b ib e g])) (fun g => tot_bind (compare_cmp a b ha hb) (fun c hc => ?_)))
  subst hc
  rw [wrap_sg sg h]
  refine tot_if (fun x => tot_some (by rw [close_gt sg a ia b ib e g x])) (fun x => tot_if (fun y => tot_some (by rw [close_lt sg a ia b ib e g x y])) (fun y => ?_))
  rw [close_eq sg a ia b ib e g x y]
  exact tot_if (fun z => tot_some (by rw [z, Bool.true_and])) (fun z => tot_some (by rw [Bool.eq_false_iff.2 z, Bool.false_and]))
theorem both_cmp (x y : List S30) (hx : Mid x) (hy : Mid y) (lx : x.length ≤ 1000) (ly : y.length ≤ 1000) : Tot (fun k => span_Both.f k x y) (fun r => r = bothL x y) := by
  have outer : ∀ (d i : Nat) (acc : List S30), i + d = x.length → acc.length ≤ i * 1000 → Tot (fun k => span_Both.l0 k y acc x (x.length : Int) (i : Int)) (fun r => r = acc ++ bothL (x.drop i) y) := by
    intro d
    induction d with
    | zero =>
      intro i acc h ha
      refine tot_succ ?_ (fun k => by rw [span_Both.l0])
      refine tot_if (fun g => by omega) (fun _ => tot_some ?_)
      rw [List.drop_eq_nil_of_le (by omega)]; exact (List.append_nil acc).symm
    | succ d ih =>
      intro i acc h ha
      have hi : i < x.length := by omega
      have inner : ∀ (e j : Nat) (acc2 : List S30), j + e = y.length → acc2.length ≤ i * 1000 + j → Tot (fun k => span_Both.l1 k y acc2 x (x.length : Int) (i : Int) y (y.length : Int) (j : Int) x[i].f0 x[i].f1 x[i].f2 x[i].f3) (fun r => r = acc2 ++ (((y.drop j).map (bothS x[i])).filter mayS ++ bothL (x.drop (i + 1)) y)) := by
        intro e
        induction e with
        | zero =>
          intro j acc2 h2 ha2
          refine tot_succ ?_ (fun k => by rw [span_Both.l1])
          refine tot_if (fun g => by omega) (fun _ => ?_)
          rw [next_of i (by omega), List.drop_eq_nil_of_le (show y.length ≤ j by omega)]
          exact ih (i + 1) acc2 (by omega) (by omega)
        | succ e ihe =>
          intro j acc2 h2 ha2
          have hj : j < y.length := by omega
          have sx := hx x[i] (List.getElem_mem hi)
          have sy := hy y[j] (List.getElem_mem hj)
          rw [ba_size, ba_size] at sx sy
          refine tot_succ ?_ (fun k => by rw [span_Both.l1])
          refine tot_if (fun _ => tot_guard (by omega) (tot_guard (by omega) ?_)) (fun g => by omega)
          rw [rd_span y j hj, next_of j (by omega)]
          have c1 := closer_cmp (lo8 x[i]) (lo8 y[j]) x[i].f2 y[j].f2 1 (Or.inl rfl) sx.1 sy.1
          have c2 := closer_cmp (hi8 x[i]) (hi8 y[j]) x[i].f3 y[j].f3 (-1) (Or.inr rfl) sx.2 sy.2
          rw [ts_data, ts_data] at c1 c2
          refine tot_bind c1 (fun r hr => ?_)
          subst hr
          refine tot_bind c2 (fun r hr => ?_)
          subst hr
          refine tot_bind (may_cmp _ _ _ _ (size_close 1 _ _ _ _ _ sx.1 sy.1) (size_close (-1) _ _ _ _ _ sx.2 sy.2)) (fun m hm => ?_)
          have em : m = mayS (bothS x[i] y[j]) := by rw [hm]; unfold mayS; rw [lo_both, hi_both]; rfl
          have ed : ((y.drop j).map (bothS x[i])).filter mayS = (if mayS (bothS x[i] y[j]) = true then bothS x[i] y[j] :: ((y.drop (j + 1)).map (bothS x[i])).filter mayS else ((y.drop (j + 1)).map (bothS x[i])).filter mayS) := by rw [List.drop_eq_getElem_cons hj, List.map_cons, List.filter_cons]
          refine tot_if (fun t => tot_guard (by omega) (tot_imp (ihe (j + 1) (acc2 ++ [bothS x[i] y[j]]) (by omega) (by simp; omega)) (fun r hr => ?_))) (fun t => tot_imp (ihe (j + 1) acc2 (by omega) (by omega)) (fun r hr => ?_))
          · rw [hr, ed, if_pos (em ▸ t), List.append_assoc]; rfl
          · rw [hr, ed, if_neg (em ▸ t)]
      refine tot_succ ?_ (fun k => by rw [span_Both.l0])
      refine tot_if (fun _ => tot_guard (by omega) (tot_guard (by omega) ?_)) (fun g => by omega)
      rw [rd_span x i hi]
      have z : Tot (fun k => span_Both.l1 k y acc x (x.length : Int) (i : Int) y (y.length : Int) ((0 : Nat) : Int) x[i].f0 x[i].f1 x[i].f2 x[i].f3) (fun r => r = acc ++ (((y.drop 0).map (bothS x[i])).filter mayS ++ bothL (x.drop (i + 1)) y)) := inner y.length 0 acc (Nat.zero_add _) (Nat.le_add_right_of_le ha)
      have e : bothL (x.drop i) y = ((y.drop 0).map (bothS x[i])).filter mayS ++ bothL (x.drop (i + 1)) y := by rw [List.drop_eq_getElem_cons hi]; rfl
      rw [e]
      exact z
  unfold span_Both.f
  have z : Tot (fun k => span_Both.l0 k y [] x (x.length : Int) ((0 : Nat) : Int)) (fun r => r = [] ++ bothL (x.drop 0) y) := outer x.length 0 [] (Nat.zero_add _) (Nat.zero_le _)
  exact z
theorem SpanBoth : newellaw07_SpanBoth.Pure := by
  intro l0 l1 a2 hl hl1 hz
  have key : Tot (fun k => newellaw07_SpanBoth.f k l0 l1 a2) (fun r => r = true) := by
    obtain ⟨v, rfl⟩ : ∃ v, a2 = ts v := ⟨_, (ts_data a2).symm⟩
    rw [ts_size] at hz
    have aw : Tot (fun k => newellaw07_awake.f k) (fun r => r = true) := tot_ge 60 (fun k hk => awake7_ge k hk)
    have wake : Tot (fun k => newellaw07_SpanBoth.j0 k l0 l1 (ts v) true) (fun r => r = true) := by
      refine tot_succ ?_ (fun k => by rw [newellaw07_SpanBoth.j0])
      exact tot_guard rfl (tot_bind aw (fun r hr => tot_some hr))
    unfold newellaw07_SpanBoth.f newellaw07_few.f
    have big1 : Tot (fun k => newellaw07_few.l0 k l0 ((0 : Nat) : Int)) (fun r => r = true → l0.length ≤ 20 ∧ ∀ s ∈ l0.drop 0, s.f0.size ≤ 100 ∧ s.f1.size ≤ 100) := few_told l0 l0.length 0 (by omega) (by have := hl.1; unfold maxLen at this; omega)
    have big2 : Tot (fun k => newellaw07_few.l0 k l1 ((0 : Nat) : Int)) (fun r => r = true → l1.length ≤ 20 ∧ ∀ s ∈ l1.drop 0, s.f0.size ≤ 100 ∧ s.f1.size ≤ 100) := few_told l1 l1.length 0 (by omega) (by have := hl1.1; unfold maxLen at this; omega)
    refine tot_bind big1 (fun r hr => tot_if (fun h => tot_bind big2 (fun r2 hr2 => tot_if (fun h2 => ?_) (fun _ => wake))) (fun _ => wake))
    obtain ⟨p1, p2⟩ := hr h
    obtain ⟨q1, q2⟩ := hr2 h2
    rw [List.drop_zero] at p2 q2
    rw [ts_size]
    by_cases big : (v.length : Int) > 100
    · rw [decide_eq_true big]; exact wake
    · rw [decide_eq_false big]
      refine tot_succ ?_ (fun k => by rw [newellaw07_SpanBoth.j0])
      refine tot_if (fun h => by cases h) (fun _ => tot_bind (right_cmp l0 p2 (by omega)) (fun a ga => tot_bind (right_cmp l1 q2 (by omega)) (fun b gb => ?_)))
      have ma : Mid a := fun s hs => by have := ga.2 s hs; exact ⟨by omega, by omega⟩
      have mb : Mid b := fun s hs => by have := gb.2 s hs; exact ⟨by omega, by omega⟩
      have la := ga.1
      have lb := gb.1
      have ya : ∀ s ∈ a, mayS s = true := fun s hs => (ga.2 s hs).2.2
      have yb : ∀ s ∈ b, mayS s = true := fun s hs => (gb.2 s hs).2.2
      have ho : ∀ l, Mid l → l.length ≤ 144 → Tot (fun k => span_Holds.f k l (ts v)) (fun r => r = rangeB l v) := fun l m n => range_cmp l v m (by omega) (by omega)
      have lab : (bothL a b).length ≤ 144 := by have := both_len b a; have := Nat.mul_le_mul la lb; omega
      have lba : (bothL b a).length ≤ 144 := by have := both_len a b; have := Nat.mul_le_mul lb la; omega
      have laa : (bothL a a).length ≤ 144 := by have := both_len a a; have := Nat.mul_le_mul la la; omega
      have rab := range_both v b yb a ya
      have rba := range_both v a ya b yb
      have raa := range_both v a ya a ya
      have last : Tot (fun k => (span_Both.f k a ([] : List S30)).bind fun t => some ((t.length : Int) == 0)) (fun r => r = true) := tot_bind (both_cmp a [] ma (fun s hs => by cases hs) (by omega) (by simp)) (fun r hr => tot_some (by rw [hr, both_nil]; rfl))
      have self : Tot (fun k => (span_Both.f k a a).bind fun t => (span_Holds.f k t (ts v)).bind fun t1 => (span_Holds.f k a (ts v)).bind fun t2 => if (t1 == t2) = true then ((span_Both.f k a ([] : List S30)).bind fun t => some ((t.length : Int) == 0)) else some false) (fun r => r = true) := by
        refine tot_bind (both_cmp a a ma ma (by omega) (by omega)) (fun r hr => ?_)
        subst hr
        refine tot_bind (ho _ (both_mid a a ma ma) laa) (fun r hr => tot_bind (ho a ma (by omega)) (fun r2 hr2 => ?_))
        subst hr; subst hr2
        exact tot_guard (by rw [raa, Bool.and_self, beq_self_eq_true]) last
      have other : Tot (fun k => (span_Both.f k b a).bind fun t => (span_Holds.f k t (ts v)).bind fun t1 => (span_Holds.f k (bothL a b) (ts v)).bind fun t2 => if (t1 == t2) = true then ((span_Both.f k a a).bind fun t => (span_Holds.f k t (ts v)).bind fun t1 => (span_Holds.f k a (ts v)).bind fun t2 => if (t1 == t2) = true then ((span_Both.f k a ([] : List S30)).bind fun t => some ((t.length : Int) == 0)) else some false) else some false) (fun r => r = true) := by
        refine tot_bind (both_cmp b a mb ma (by omega) (by omega)) (fun r hr => ?_)
        subst hr
        refine tot_bind (ho _ (both_mid b a mb ma) lba) (fun r hr => tot_bind (ho _ (both_mid a b ma mb) lab) (fun r2 hr2 => ?_))
        subst hr; subst hr2
        exact tot_guard (by rw [rab, rba, Bool.and_comm, beq_self_eq_true]) self
      refine tot_bind (both_cmp a b ma mb (by omega) (by omega)) (fun r hr => ?_)
      subst hr
      refine tot_bind aw (fun r hr => tot_guard hr (tot_bind (ho _ (both_mid a b ma mb) lab) (fun r1 hr1 => tot_bind (ho a ma (by omega)) (fun r2 hr2 => ?_))))
      subst hr1; subst hr2
      rw [rab]
      refine tot_if (fun t => tot_bind (ho b mb (by omega)) (fun r3 hr3 => ?_)) (fun t => tot_guard (by rw [Bool.eq_false_iff.2 t, Bool.false_and]; rfl) other)
      subst hr3
      exact tot_guard (by rw [t, Bool.true_and, beq_self_eq_true]) other
  obtain ⟨k, r, hr, h⟩ := tot_get key
  exact ⟨k, by rw [h k (Nat.le_refl _), hr]⟩
end Go.Proofs.YtgdjfcmmpjcaaaaGreatDoor.Pure
