/- Texts put together: what functions of the program compute, and plain words about them. -/
import Derived.Test.YtgdjfcmmpjcaaaaDoorLawSpanTextsM5
import Derived.Test.YtgdjfcmmpjcaaaaDoorLawSpanTextsM6
import Derived.Test.YtgdjfcmmpjcaaaaDoorLawSpanTextsM4
namespace Go.Proofs.YtgdjfcmmpjcaaaaDoor.Pure
open Go Go.RowKit Go.Proofs.YtgdjfcmmpjcaaaaDoor.Q Go.Proofs.YtgdjfcmmpjcaaaaDoorW.PrintWords Go.Proofs.YtgdjfcmmpjcaaaaDoorW.PrintLast Go.Proofs.YtgdjfcmmpjcaaaaDoorW.Own Go.Proofs.YtgdjfcmmpjcaaaaDoorW.PrintMore Go.Proofs.YtgdjfcmmpjcaaaaDoorW.Px
set_option linter.unusedSimpArgs false
set_option linter.unusedVariables false
theorem byte_is (c : UInt8) (z : Int) (m : UInt8) (h : 0 ≤ z ∧ z < 256) (hm : UInt8.ofNat z.toNat = m) : ((c.toNat : Int) = z) ↔ c = m := by
  obtain ⟨n, rfl⟩ : ∃ n : Nat, z = (n : Int) := ⟨z.toNat, by omega⟩
  rw [Int.toNat_natCast] at hm
  rw [← hm]; exact beq_toNat c n (by omega)
def leftS (l : List UInt8) : List UInt8 := Lib.trimLeftB l 32
def rightS (l : List UInt8) : List UInt8 := Lib.trimRightB l 32
theorem rightS_cons (x : UInt8) (l : List UInt8) : rightS (x :: l) = if rightS l = [] ∧ x = 32 then [] else x :: rightS l := by
  unfold rightS Lib.trimRightB
  rw [List.reverse_cons, List.dropWhile_append]
  by_cases e : l.reverse.dropWhile (· == 32) = []
  · rw [e]
    by_cases h : x = 32
    · subst h; simp
    · simp [h]
  · have : (l.reverse.dropWhile (· == 32)).isEmpty = false := by cases q : l.reverse.dropWhile (· == 32) with
      | nil => exact absurd q e
      | cons a b => rfl
    rw [this, if_neg (by decide), if_neg (fun q => e (by simpa using q.1)), List.reverse_append]
    rfl
theorem trim_turn : ∀ l : List UInt8, leftS (rightS l) = rightS (leftS l)
  | [] => rfl
  | x :: l => by
    have ih := trim_turn l
    have lc : ∀ (y : UInt8) (m : List UInt8), leftS (y :: m) = if y = 32 then leftS m else y :: m := by
      intro y m
      unfold leftS Lib.trimLeftB
      rw [List.dropWhile_cons]
      by_cases h : y = 32
      · subst h; simp
      · simp [h]
    rw [rightS_cons, lc x l]
    by_cases h : x = 32
    · rw [if_pos h]
      by_cases e : rightS l = []
      · rw [if_pos ⟨e, h⟩, ← ih, e]
      · rw [if_neg (fun q => e q.1), lc, if_pos h, ih]
    · rw [if_neg h, if_neg (fun q => h q.2), lc, if_neg h, rightS_cons, if_neg (fun q => h q.2)]
theorem rightS_snoc (l : List UInt8) (b : UInt8) : rightS (l ++ [b]) = if b = 32 then rightS l else l ++ [b] := by
  unfold rightS Lib.trimRightB
  rw [List.reverse_append, List.reverse_singleton, List.singleton_append, List.dropWhile_cons]
  by_cases h : b = 32
  · subst h; simp
  · simp [h]
theorem ref_blank1 : ∀ (n : Nat) (l : List UInt8), l.length = n → l.length ≤ 100000 → Tot (fun k => newelref05_blank.l1 k (ts l)) (fun r => r = ts (rightS l)) := by
  intro n
  induction n with
  | zero =>
    intro l h _
    obtain rfl := List.eq_nil_of_length_eq_zero h
    refine tot_succ ?_ (fun k => by rw [newelref05_blank.l1])
    exact tot_if (fun g => by rw [ts_size] at g; simp at g) (fun _ => tot_some rfl)
  | succ n ih =>
    intro l h hl
    have hne : l ≠ [] := fun e => by rw [e] at h; cases h
    obtain ⟨m, b, rfl⟩ : ∃ m b, l = m ++ [b] := ⟨l.dropLast, l.getLast hne, (List.dropLast_concat_getLast hne).symm⟩
    have hm : m.length = n := by rw [List.length_append] at h; simpa using h
    have sz : (ts (m ++ [b])).size = n + 1 := by rw [ts_size]; exact h
    refine tot_succ ?_ (fun k => by rw [newelref05_blank.l1])
    have e : wrap64 (((n + 1 : Nat) : Int) - 1) = (n : Int) := last_of n (by omega)
    have bb : bt (ts (m ++ [b])) (n : Int) = ((b.toNat : Nat) : Int) := by
      rw [bt_nat (m ++ [b]) n (by rw [h]; omega)]
      congr 2
      rw [List.getElem_append_right (by omega)]
      simp [hm]
    rw [sz, e, bb]
    refine tot_guard (by omega) (tot_guard (by omega) (tot_guard (by omega) ?_))
    have ex : (ts (m ++ [b])).extract 0 ((n : Nat) : Int).toNat = ts m := by
      apply ba_ext
      rw [ba_extract, ts_list, ts_list, Int.toNat_natCast, List.drop_zero, List.take_left' hm]
    rw [ex, rightS_snoc]
    refine tot_if (fun g => tot_guard (by omega) ?_) (fun g => tot_some ?_)
    · rw [if_pos ((byte_is b 32 32 (by omega) rfl).1 g)]
      exact ih m hm (by omega)
    · rw [if_neg (fun q => g ((byte_is b 32 32 (by omega) rfl).2 q))]
theorem ref_blank_cmp (l : List UInt8) (hl : l.length ≤ 100000) : Tot (fun k => newelref05_blank.f k (ts l)) (fun r => r = ts (trimS l)) := by
  have loop : ∀ l : List UInt8, l.length ≤ 100000 → Tot (fun k => newelref05_blank.l0 k (ts l)) (fun r => r = ts (rightS (leftS l))) := by
    intro l
    induction l with
    | nil =>
      intro _
      refine tot_succ ?_ (fun k => by rw [newelref05_blank.l0])
      refine tot_if (fun g => by rw [ts_size] at g; simp at g) (fun _ => tot_succ ?_ (fun k => by rw [newelref05_blank.j1]))
      exact ref_blank1 0 [] rfl (by simp)
    | cons c l ih =>
      intro h
      have h2 : l.length + 1 ≤ 100000 := h
      have sz : (ts (c :: l)).size = l.length + 1 := by rw [ts_size]; rfl
      refine tot_succ ?_ (fun k => by rw [newelref05_blank.l0])
      have bb : bt (ts (c :: l)) 0 = ((c.toNat : Nat) : Int) := bt_nat (c :: l) 0 (by simp)
      have ex : (ts (c :: l)).extract 1 (ts (c :: l)).size = ts l := by
        apply ba_ext
        rw [ba_extract, ts_list, ts_list, ts_size, List.take_length]; rfl
      rw [bb, ex, sz]
      refine tot_guard (by omega) (tot_guard (by omega) (tot_if (fun g => tot_guard (by omega) ?_) (fun g => tot_succ ?_ (fun k => by rw [newelref05_blank.j1]))))
      · have e : leftS (c :: l) = leftS l := by
          unfold leftS Lib.trimLeftB
          rw [List.dropWhile_cons, (byte_is c 32 32 (by omega) rfl).1 g]; rfl
        rw [e]
        exact ih (by omega)
      · have e : leftS (c :: l) = c :: l := by
          unfold leftS Lib.trimLeftB
          rw [List.dropWhile_cons, if_neg (by
            intro q
            exact g ((byte_is c 32 32 (by omega) rfl).2 (beq_iff_eq.1 q)))]
        rw [e]
        exact ref_blank1 _ (c :: l) rfl h
  unfold newelref05_blank.f
  refine tot_imp (loop l hl) (fun r hr => ?_)
  rw [hr, ← trim_turn]; rfl
def comI (l : List UInt8) : Nat := (l.takeWhile (· != 44)).length
theorem com_split (l : List UInt8) : (comI l < l.length ∧ l = l.take (comI l) ++ 44 :: l.drop (comI l + 1) ∧ ∀ x ∈ l.take (comI l), x ≠ 44) ∨ (comI l = l.length ∧ ∀ x ∈ l, x ≠ 44) := by
  induction l with
  | nil => exact Or.inr ⟨rfl, fun _ h => by cases h⟩
  | cons c l ih =>
    by_cases h : c = 44
    · subst h
      refine Or.inl ⟨?_, ?_, ?_⟩
      · show ([] : List UInt8).length < _; simp
      · show _ = List.take 0 _ ++ 44 :: List.drop 1 _; rfl
      · intro x hx; cases hx
    · have e : comI (c :: l) = comI l + 1 := by
        unfold comI
        rw [List.takeWhile_cons, show (c != 44) = true by simpa using h]; rfl
      rw [e]
      rcases ih with ⟨h1, h2, h3⟩ | ⟨h1, h2⟩
      · refine Or.inl ⟨by rw [List.length_cons]; omega, ?_, ?_⟩
        · rw [List.take_succ_cons, List.drop_succ_cons, List.cons_append, ← h2]
        · intro x hx
          rw [List.take_succ_cons] at hx
          rcases List.mem_cons.1 hx with q | q
          · rw [q]; exact h
          · exact h3 x q
      · refine Or.inr ⟨by rw [List.length_cons, h1], fun x hx => ?_⟩
        rcases List.mem_cons.1 hx with q | q
        · rw [q]; exact h
        · exact h2 x q
def SpanR (q : Option S58) (r : ByteArray × ByteArray × Bool × Bool × Bool) : Prop := match q with
  | none => r.2.2.2.2 = false
  | some s => (r = (s.f0, s.f1, s.f2, s.f3, true)) ∨ (r.2.2.2.2 = false ∧ mayS s = false)
theorem ref_span_cmp (o c : UInt8) (w : List UInt8) (hw : w.length ≤ 100000) : Tot (fun k => newelref05_span.f k (ts w) ((o.toNat : Nat) : Int) ((c.toNat : Nat) : Int)) (SpanR (spanS o c w)) := by
  have sz : (ts w).size = w.length := ts_size w
  have eo : ((((o.toNat : Nat) : Int) == 91)) = (o == 91) := beq_byte o 91 (by omega)
  have ec : ((((c.toNat : Nat) : Int) == 93)) = (c == 93) := beq_byte c 93 (by omega)
  have over : ∀ (d i a : Nat), i + d = w.length → a < w.length → Tot (fun k => newelref05_span.l0 k (ts w) ((o.toNat : Nat) : Int) ((c.toNat : Nat) : Int) (a : Int) (w.length : Int)) (SpanR (spanS o c w)) → Tot (fun k => newelref05_span.l0 k (ts w) ((o.toNat : Nat) : Int) ((c.toNat : Nat) : Int) (a : Int) (i : Int)) (SpanR (spanS o c w)) := by
    intro d
    induction d with
    | zero => intro i a h ha t; obtain rfl : i = w.length := by omega
              exact t
    | succ d ih =>
      intro i a h ha t
      refine tot_succ ?_ (fun k => by rw [newelref05_span.l0])
      rw [sz, next_of i (by omega)]
      have nx := ih (i + 1) a (by omega) ha t
      exact tot_if (fun _ => tot_guard (by omega) (tot_if (fun _ => tot_if (fun g => by omega) (fun _ => nx)) (fun _ => nx))) (fun g => by omega)
  have first : ∀ (d i : Nat), i + d = w.length → Tot (fun k => newelref05_span.l0 k (ts w) ((o.toNat : Nat) : Int) ((c.toNat : Nat) : Int) (if comI (w.drop i) < (w.drop i).length then ((i + comI (w.drop i) : Nat) : Int) else -1) (w.length : Int)) (SpanR (spanS o c w)) → Tot (fun k => newelref05_span.l0 k (ts w) ((o.toNat : Nat) : Int) ((c.toNat : Nat) : Int) (-1) (i : Int)) (SpanR (spanS o c w)) := by
    intro d
    induction d with
    | zero =>
      intro i h t
      obtain rfl : i = w.length := by omega
      rw [List.drop_eq_nil_of_le (Nat.le_refl _), if_neg (by simp)] at t
      exact t
    | succ d ih =>
      intro i h t
      have hi : i < w.length := by omega
      rw [List.drop_eq_getElem_cons hi] at t
      refine tot_succ ?_ (fun k => by rw [newelref05_span.l0])
      rw [sz, next_of i (by omega), bt_nat w i hi]
      refine tot_if (fun _ => tot_guard (by omega) (tot_if (fun g => tot_guard (by decide) ?_) (fun g => ?_))) (fun g => by omega)
      · have g2 := (byte_is w[i] 44 44 (by omega) rfl).1 g
        have e : comI (w[i] :: w.drop (i + 1)) = 0 := by
          unfold comI
          rw [List.takeWhile_cons, g2]; rfl
        rw [e, if_pos (show 0 < (w[i] :: w.drop (i + 1)).length from Nat.succ_pos _)] at t
        exact over d (i + 1) i (by omega) hi t
      · have g2 : ¬ w[i] = 44 := fun q => g ((byte_is w[i] 44 44 (by omega) rfl).2 q)
        have e : comI (w[i] :: w.drop (i + 1)) = comI (w.drop (i + 1)) + 1 := by
          unfold comI
          rw [List.takeWhile_cons, show (w[i] != 44) = true by simpa using g2]; rfl
        refine ih (i + 1) (by omega) ?_
        rw [e, List.length_cons] at t
        by_cases q : comI (w.drop (i + 1)) < (w.drop (i + 1)).length
        · rw [if_pos q]
          rw [if_pos (by omega), show i + (comI (w.drop (i + 1)) + 1) = i + 1 + comI (w.drop (i + 1)) by omega] at t
          exact t
        · rw [if_neg q]
          rw [if_neg (by omega)] at t
          exact t
  unfold newelref05_span.f
  refine first w.length 0 (by omega) ?_
  rw [List.drop_zero, Nat.zero_add]
  refine tot_succ ?_ (fun k => by rw [newelref05_span.l0])
  rw [sz, eo, ec]
  refine tot_if (fun g => by omega) (fun _ => ?_)
  rcases com_split w with ⟨h1, h2, h3⟩ | ⟨h1, h2⟩
  · rw [if_pos h1]
    have cw : Lib.cut w [44] = (w.take (comI w), w.drop (comI w + 1), true) := by
      conv => lhs; rw [h2]
      exact cut_there (w.take (comI w)) (w.drop (comI w + 1)) [] 44 h3
    have sp : spanS o c w = some ⟨ts (trimS (w.take (comI w))), ts (trimS (w.drop (comI w + 1))), o == 91, c == 93⟩ := by
      unfold spanS
      rw [cw, if_pos rfl]
    rw [sp]
    have x1 : (ts w).extract 0 ((comI w : Nat) : Int).toNat = ts (w.take (comI w)) := by
      apply ba_ext
      rw [ba_extract, ts_list, ts_list, Int.toNat_natCast, List.drop_zero]
    have x2 : (ts w).extract (((comI w + 1 : Nat) : Int)).toNat w.length = ts (w.drop (comI w + 1)) := by
      apply ba_ext
      rw [ba_extract, ts_list, ts_list, Int.toNat_natCast, List.take_length]
    rw [x1, next_of _ (by omega), x2]
    refine tot_if (fun g => by omega) (fun _ => tot_guard (by omega) (tot_guard (by omega) ?_))
    refine tot_bind (ref_blank_cmp _ (by rw [List.length_take]; omega)) (fun r hr => ?_)
    subst hr
    refine tot_guard (by omega) (tot_guard (by omega) ?_)
    refine tot_bind (ref_blank_cmp _ (by rw [List.length_drop]; omega)) (fun r hr => ?_)
    subst hr
    exact tot_some (Or.inl rfl)
  · rw [if_neg (by omega)]
    have cw : Lib.cut w [44] = (w, [], false) := cut_away w [] 44 h2
    have sp : spanS o c w = if o = 91 ∧ c = 93 then some ⟨ts (trimS w), ts (trimS w), true, true⟩ else none := by
      unfold spanS
      rw [cw, if_neg (show ¬ ((w, ([] : List UInt8), false).2.2 = true) from Bool.false_ne_true)]
    rw [sp]
    refine tot_guard (by decide) (tot_bind (ref_blank_cmp w hw) (fun r hr => ?_))
    subst hr
    rw [ts_toList]
    by_cases e1 : o = 91
    · have n1 : (((o.toNat : Nat) : Int) = 91) := (byte_is o 91 91 (by omega) rfl).2 e1
      by_cases e2 : c = 93
      · rw [if_pos (show o = 91 ∧ c = 93 from ⟨e1, e2⟩), e2]
        refine tot_if (fun g => tot_some (Or.inr ⟨rfl, ?_⟩)) (fun g => tot_guard n1 (tot_some (Or.inl rfl)))
        rw [g]
        unfold mayS mayB boundB lo8
        rfl
      · rw [if_neg (show ¬ (o = 91 ∧ c = 93) from fun q => e2 q.2), show (c == 93) = false from beq_eq_false_iff_ne.2 e2]
        exact tot_if (fun _ => tot_some rfl) (fun _ => tot_if (fun _ => tot_some rfl) (fun _ => tot_some rfl))
    · have n1 : ¬ (((o.toNat : Nat) : Int) = 91) := fun q => e1 ((byte_is o 91 91 (by omega) rfl).1 q)
      rw [if_neg (show ¬ (o = 91 ∧ c = 93) from fun q => e1 q.1)]
      exact tot_if (fun _ => tot_some rfl) (fun _ => tot_if (fun g => absurd g n1) (fun _ => tot_some rfl))
theorem ref_is_nil : newelref05_Is.f (ts []) = some false := by kernel_rfl
theorem ref_is_op (o : UInt8) (l : List UInt8) : newelref05_Is.f (ts (o :: l)) = some (isOp o) := by
  unfold newelref05_Is.f isOp
  have sz : (ts (o :: l)).size = l.length + 1 := by rw [ts_size]; rfl
  have bb : bt (ts (o :: l)) 0 = ((o.toNat : Nat) : Int) := bt_nat (o :: l) 0 (by simp)
  rw [sz, bb, if_pos (by omega), if_pos (by omega), show ((((o.toNat : Nat) : Int) == 40)) = (o == 40) from beq_byte o 40 (by omega)]
  by_cases h : o = 91
  · rw [if_pos ((byte_is o 91 91 (by omega) rfl).2 h), h]; rfl
  · rw [if_neg (fun q => h ((byte_is o 91 91 (by omega) rfl).1 q)), show (o == 91) = false from beq_eq_false_iff_ne.2 h, Bool.false_or]
theorem ref_parse_cmp : ∀ (n : Nat) (x : List UInt8) (acc : List S58), x.length ≤ n → x.length ≤ 50000 → Mid acc → acc.length + x.length ≤ 100000 → Tot (fun k => newelref05_Parse.l0 k (ts x) acc) (fun r => r = parseF n x acc) := by
  have key : ∀ (n : Nat) (x : List UInt8) (acc : List S58), x.length ≤ n + 1 → x.length ≤ 50000 → Mid acc → acc.length + x.length ≤ 100000 →
      (∀ (y : List UInt8) (acc : List S58), y.length ≤ n → y.length + 2 ≤ x.length → Mid acc → acc.length + y.length ≤ 100000 → Tot (fun k => newelref05_Parse.l0 k (ts y) acc) (fun r => r = parseF n y acc)) →
      Tot (fun k => newelref05_Parse.l0 k (ts x) acc) (fun r => r = parseF (n + 1) x acc) := by
    intro n x acc hn hx hm hl ih
    have sz : (ts x).size = x.length := ts_size x
    have l1 : ∀ (P : List S58 × Int → Prop) (d i : Nat), i + d = x.length → Tot (fun k => newelref05_Parse.j2 k (ts x) acc ((i + (inn (x.drop i)).length : Nat) : Int)) P → Tot (fun k => newelref05_Parse.l1 k (ts x) acc (i : Int)) P := by
      intro P d
      induction d with
      | zero =>
        intro i h t
        obtain rfl : i = x.length := by omega
        rw [List.drop_eq_nil_of_le (Nat.le_refl _)] at t
        refine tot_succ ?_ (fun k => by rw [newelref05_Parse.l1])
        rw [sz]
        exact tot_if (fun g => by omega) (fun _ => t)
      | succ d ihd =>
        intro i h t
        have hi : i < x.length := by omega
        rw [List.drop_eq_getElem_cons hi] at t
        refine tot_succ ?_ (fun k => by rw [newelref05_Parse.l1])
        rw [sz, bt_nat x i hi, next_of i (by omega)]
        have cl : clB x[i] = true → inn (x[i] :: x.drop (i + 1)) = [] := by
          intro q
          unfold inn
          rw [List.takeWhile_cons, q]; rfl
        refine tot_if (fun _ => tot_guard (by omega) (tot_if (fun g => ?_) (fun g => tot_if (fun g2 => ?_) (fun g2 => ?_)))) (fun g => by omega)
        · rw [cl (by rw [(byte_is x[i] 93 93 (by omega) rfl).1 g]; rfl)] at t
          exact t
        · rw [cl (by rw [(byte_is x[i] 41 41 (by omega) rfl).1 g2]; rfl)] at t
          exact t
        · refine ihd (i + 1) (by omega) ?_
          have nc : clB x[i] = false := by
            unfold clB
            rw [show (x[i] == 93) = false from beq_eq_false_iff_ne.2 (fun q => g ((byte_is x[i] 93 93 (by omega) rfl).2 q)), show (x[i] == 41) = false from beq_eq_false_iff_ne.2 (fun q => g2 ((byte_is x[i] 41 41 (by omega) rfl).2 q))]; rfl
          have e : (inn (x[i] :: x.drop (i + 1))).length = (inn (x.drop (i + 1))).length + 1 := by
            unfold inn
            rw [List.takeWhile_cons, nc]; rfl
          rw [e, show i + ((inn (x.drop (i + 1))).length + 1) = i + 1 + (inn (x.drop (i + 1))).length by omega] at t
          exact t
    refine tot_succ ?_ (fun k => by rw [newelref05_Parse.l0])
    refine l1 _ x.length 0 (by omega) ?_
    rw [List.drop_zero, Nat.zero_add]
    have no : ∀ (i : Int), Tot (fun k => newelref05_Parse.j3 k (ts x) acc i true) (fun r => r = (([] : List S58), (12 : Int))) := by
      intro i
      refine tot_succ ?_ (fun k => by rw [newelref05_Parse.j3])
      exact tot_guard rfl (tot_some rfl)
    have no4 : ∀ (i : Int) (a b : ByteArray) (p q : Bool), Tot (fun k => newelref05_Parse.j4 k (ts x) acc i true a b p q) (fun r => r = (([] : List S58), (12 : Int))) := by
      intro i a b p q
      refine tot_succ ?_ (fun k => by rw [newelref05_Parse.j4])
      exact tot_guard rfl (tot_some rfl)
    have sp0 : oneS x = none → parseF (n + 1) x acc = ([], 12) := by
      intro ho
      conv => lhs; unfold parseF
      rw [ho]
    refine tot_succ ?_ (fun k => by rw [newelref05_Parse.j2])
    cases x with
    | nil =>
      rw [ref_is_nil, sp0 rfl]
      simp only [Option.bind_some]
      exact tot_if (fun h => by cases h) (fun _ => no _)
    | cons o t =>
      have hx2 : t.length + 1 ≤ 50000 := hx
      have hn2 : t.length + 1 ≤ n + 1 := hn
      have hl2 : acc.length + (t.length + 1) ≤ 100000 := hl
      rw [ref_is_op]
      simp only [Option.bind_some]
      refine tot_if (fun io => ?_) (fun io => ?_)
      · have ne := op_not o io
        have ei : (inn (o :: t)).length = (inn t).length + 1 := by
          unfold inn
          rw [List.takeWhile_cons, ne]; rfl
        rw [ei, sz, List.length_cons]
        have e := inn_out t
        obtain ⟨w, hw⟩ : ∃ w, inn t = w := ⟨_, rfl⟩
        rw [hw] at e ⊢
        cases ho : outt t with
        | nil =>
          rw [ho, List.append_nil] at e
          have on : oneS (o :: t) = none := by rw [oneS_cons, if_pos io, ho]
          rw [sp0 on, e, show ((((t.length + 1 : Nat) : Int)) == ((t.length + 1 : Nat) : Int)) = true from beq_self_eq_true _]
          exact no _
        | cons c rest =>
          rw [ho] at e
          have el : w.length + (rest.length + 1) = t.length := by
            have := congrArg List.length e
            rw [List.length_append, List.length_cons] at this
            exact this
          have gc : (o :: t)[w.length + 1]'(by rw [List.length_cons]; omega) = c := by
            rw [List.getElem_cons_succ]
            have : t[w.length]? = some c := by
              conv => lhs; rw [← e]
              rw [List.getElem?_append_right (Nat.le_refl _), Nat.sub_self]; rfl
            rw [List.getElem?_eq_getElem (by omega)] at this
            exact Option.some.inj this
          have b0 : bt (ts (o :: t)) 0 = ((o.toNat : Nat) : Int) := bt_nat (o :: t) 0 (by simp)
          have bc : bt (ts (o :: t)) ((w.length + 1 : Nat) : Int) = ((c.toNat : Nat) : Int) := by
            rw [bt_nat (o :: t) _ (by rw [List.length_cons]; omega), gc]
          have ex : (ts (o :: t)).extract 1 (((w.length + 1 : Nat) : Int)).toNat = ts w := by
            apply ba_ext
            rw [ba_extract, ts_list, ts_list, Int.toNat_natCast, List.take_succ_cons, List.drop_succ_cons, List.drop_zero]
            conv => lhs; rw [← e]
            rw [List.take_left']
            rfl
          have ex2 : (ts (o :: t)).extract (((w.length + 1 + 1 : Nat) : Int)).toNat (ts (o :: t)).size = ts rest := by
            apply ba_ext
            rw [ba_extract, ts_list, ts_list, Int.toNat_natCast, ts_size, List.take_length, List.drop_succ_cons]
            conv => lhs; rw [← e]
            rw [List.drop_append, List.drop_eq_nil_of_le (by omega), show w.length + 1 - w.length = 1 by omega]
            rfl
          rw [show ((((w.length + 1 : Nat) : Int)) == ((t.length + 1 : Nat) : Int)) = false from beq_eq_false_iff_ne.2 (by omega)]
          refine tot_succ ?_ (fun k => by rw [newelref05_Parse.j3])
          have szo : (ts (o :: t)).size = t.length + 1 := by rw [ts_size]; rfl
          rw [ex, b0, bc, szo]
          refine tot_if (fun h => by cases h) (fun _ => tot_guard (by omega) (tot_guard (by omega) (tot_guard (by omega) (tot_guard (by omega) (tot_guard (by omega) ?_)))))
          refine tot_bind (ref_span_cmp o c w (by omega)) (fun r hr => ?_)
          have one : oneS (o :: t) = match spanS o c w with
            | none => none
            | some s => if mayS s = true then some (s, rest) else none := by
            rw [oneS_cons, if_pos io, ho, hw]
            try rfl
          cases hs : spanS o c w with
          | none =>
            rw [hs] at hr one
            have hr2 : r.2.2.2.2 = false := hr
            rw [sp0 one, hr2]
            exact tot_if (fun h => by cases h) (fun _ => no4 _ _ _ _ _)
          | some s =>
            rw [hs] at hr one
            have one' : oneS (o :: t) = if mayS s = true then some (s, rest) else none := one
            have sle := spanS_le o c w s hs
            rcases hr with hr | ⟨hr, hmay⟩
            · subst hr
              dsimp only
              refine tot_guard rfl ?_
              obtain ⟨s0, s1, s2, s3⟩ := s
              obtain ⟨a0, rfl⟩ : ∃ l, s0 = ts l := ⟨_, (ts_data s0).symm⟩
              obtain ⟨a1, rfl⟩ : ∃ l, s1 = ts l := ⟨_, (ts_data s1).symm⟩
              dsimp only at sle ⊢
              refine tot_bind (ref_may_cmp a0 a1 s2 s3 (Nat.le_trans sle.1 (by omega)) (Nat.le_trans sle.2 (by omega))) (fun r hr => ?_)
              have hm1 : mayS ⟨ts a0, ts a1, s2, s3⟩ = r := hr.symm
              rw [hm1] at one'
              refine tot_if (fun h => ?_) (fun h => ?_)
              · rw [if_pos h] at one'
                have le := oneS_le _ _ _ one'
                have sp : parseF (n + 1) (o :: t) acc = if badS acc ⟨ts a0, ts a1, s2, s3⟩ = true then ([], 12) else match rest with
                  | [] => (acc ++ [⟨ts a0, ts a1, s2, s3⟩], 0)
                  | c :: y => if c = 44 then parseF n y (acc ++ [⟨ts a0, ts a1, s2, s3⟩]) else ([], 12) := by
                  conv => lhs; unfold parseF
                  rw [one']
                  try rfl
                have hm2 : Mid (acc ++ [⟨ts a0, ts a1, s2, s3⟩]) := by
                  intro y hy
                  rcases List.mem_append.1 hy with q | q
                  · exact hm y q
                  · obtain rfl := List.mem_singleton.1 q
                    exact ⟨by rw [ts_size]; exact Nat.le_trans sle.1 (by omega), by rw [ts_size]; exact Nat.le_trans sle.2 (by omega)⟩
                have j4 : ∀ b : Bool, b = badS acc ⟨ts a0, ts a1, s2, s3⟩ → Tot (fun k => newelref05_Parse.j4 k (ts (o :: t)) acc ((w.length + 1 : Nat) : Int) b (ts a0) (ts a1) s2 s3) (fun r => r = parseF (n + 1) (o :: t) acc) := by
                  intro b hb
                  rw [sp, ← hb]
                  cases b with
                  | true => rw [if_pos rfl]; exact no4 _ _ _ _ _
                  | false =>
                    rw [if_neg (by decide)]
                    refine tot_succ ?_ (fun k => by rw [newelref05_Parse.j4])
                    rw [next_of _ (by omega), ex2, szo, ts_toList]
                    simp only [Option.bind_some]
                    refine tot_if (fun h => by cases h) (fun _ => tot_guard (by omega) (tot_guard (by omega) (tot_guard (by omega) ?_)))
                    cases rest with
                    | nil => exact tot_guard rfl (tot_some rfl)
                    | cons c2 y =>
                      have l2 := le.1
                      rw [List.length_cons, List.length_cons] at l2
                      have sz2 : (ts (c2 :: y)).size = y.length + 1 := by rw [ts_size]; rfl
                      have b2 : bt (ts (c2 :: y)) 0 = ((c2.toNat : Nat) : Int) := bt_nat (c2 :: y) 0 (by simp)
                      have ex3 : (ts (c2 :: y)).extract 1 (y.length + 1) = ts y := by
                        apply ba_ext
                        rw [ba_extract, ts_list, ts_list, List.take_of_length_le (by simp)]; rfl
                      rw [sz2, b2, ex3]
                      dsimp only
                      refine tot_if (fun h => by cases h) (fun _ => tot_guard (by omega) (tot_if (fun g => tot_guard (by omega) ?_) (fun g => tot_some ?_)))
                      · rw [if_pos ((byte_is c2 44 44 (by omega) rfl).1 g)]
                        exact ih y _ (by omega) (by rw [List.length_cons]; omega) hm2 (by rw [List.length_append]; show acc.length + 1 + y.length ≤ _; omega)
                      · rw [if_neg (fun q => g ((byte_is c2 44 44 (by omega) rfl).2 q))]
                refine tot_if (fun g => ?_) (fun g => ?_)
                · obtain ⟨m, em⟩ : ∃ m, acc.length = m + 1 := ⟨acc.length - 1, by omega⟩
                  have wr : wrap64 ((acc.length : Int) - 1) = (m : Int) := by rw [em]; exact last_of m (by omega)
                  rw [wr]
                  refine tot_guard (by omega) (tot_guard (by omega) ?_)
                  rw [rd_span acc m (by omega)]
                  have bd : badS acc ⟨ts a0, ts a1, s2, s3⟩ = if acc.length ≥ 20 then true else !behindB (hi8 acc[m]) a0 acc[m].f3 s2 := by
                    unfold badS
                    rw [last_at acc m em]
                    try rfl
                  have mm := hm acc[m] (List.getElem_mem _)
                  obtain ⟨p, hp⟩ : ∃ p, p = acc[m] := ⟨_, rfl⟩
                  rw [← hp] at bd mm ⊢
                  clear hp
                  obtain ⟨p0, p1, p2, p3⟩ := p
                  obtain ⟨b0, rfl⟩ : ∃ l, p0 = ts l := ⟨_, (ts_data p0).symm⟩
                  obtain ⟨b1, rfl⟩ : ∃ l, p1 = ts l := ⟨_, (ts_data p1).symm⟩
                  dsimp only at bd mm ⊢
                  rw [ts_size, ts_size] at mm
                  refine tot_bind (ref_behind_cmp b0 b1 a0 a1 p2 p3 s2 s3 mm.2 (Nat.le_trans sle.1 (by omega))) (fun r hr => ?_)
                  subst hr
                  refine tot_if (fun h => j4 _ ?_) (fun h => j4 _ ?_)
                  · rw [bd]
                    by_cases q : acc.length ≥ 20
                    · rw [if_pos q, decide_eq_true (by omega)]
                    · rw [if_neg q, decide_eq_false (by omega)]
                      have h' : behindB b1 a0 p3 s2 = true := h
                      show false = !behindB (ts b1).data.toList a0 p3 s2
                      rw [ts_list, h']; rfl
                  · rw [bd]
                    by_cases q : acc.length ≥ 20
                    · rw [if_pos q]
                    · rw [if_neg q]
                      have h' : behindB b1 a0 p3 s2 = false := Bool.eq_false_iff.2 h
                      show true = !behindB (ts b1).data.toList a0 p3 s2
                      rw [ts_list, h']; rfl
                · refine j4 _ ?_
                  have : acc = [] := List.eq_nil_of_length_eq_zero (by omega)
                  subst this
                  rfl
              · rw [if_neg h] at one'
                rw [sp0 one']
                exact no4 _ _ _ _ _
            · rw [hmay, if_neg (by decide)] at one'
              rw [sp0 one', hr]
              exact tot_if (fun h => by cases h) (fun _ => no4 _ _ _ _ _)
      · have on : oneS (o :: t) = none := by rw [oneS_cons, if_neg io]
        rw [sp0 on]
        exact no _
  intro n
  induction n with
  | zero =>
    intro x acc hn hx hm hl
    obtain rfl := List.eq_nil_of_length_eq_zero (Nat.le_zero.1 hn)
    exact tot_imp (key 0 [] acc (by simp) (by simp) hm hl (fun y acc _ h => by simp at h)) (fun r hr => hr)
  | succ n ih =>
    intro x acc hn hx hm hl
    exact key n x acc hn hx hm hl (fun y acc h1 h2 h3 h4 => ih y acc h1 (by omega) h3 h4)
theorem ref_texts_total (l : List S58) (hs : Short l) (hl : l.length ≤ 20) : Tot (fun k => newelref05_Text.f k l) (fun r => r.size ≤ 50000) := by
  have j3 : ∀ (i : Nat) (s : ByteArray) (b : Bool) (lo hi : ByteArray) (il ih : Bool), i ≤ 20 → s.size ≤ 2004 * i + 1002 → hi.size ≤ 1000 → (∀ s2 : ByteArray, s2.size ≤ 2004 * (i + 1) → Tot (fun k => newelref05_Text.l0 k l s2 (wrap64 ((i : Int) + 1))) (fun r => r.size ≤ 50000)) → Tot (fun k => newelref05_Text.j3 k l s (i : Int) b lo hi il ih) (fun r => r.size ≤ 50000) := by
    intro i s b lo hi il ih h0 h1 h2 next
    have o44 : (⟨#[44]⟩ : ByteArray).size = 1 := rfl
    have o93 : (⟨#[93]⟩ : ByteArray).size = 1 := rfl
    have o41 : (⟨#[41]⟩ : ByteArray).size = 1 := rfl
    refine tot_succ ?_ (fun k => by rw [newelref05_Text.j3])
    refine tot_if (fun _ => tot_guard (by omega) (tot_guard (by rw [ByteArray.size_append]; omega) (tot_if (fun _ => tot_guard ?_ (next _ ?_)) (fun _ => tot_guard ?_ (next _ ?_))))) (fun _ => tot_if (fun _ => tot_guard ?_ (next _ ?_)) (fun _ => tot_guard ?_ (next _ ?_))) <;> ((try simp only [ByteArray.size_append, o44, o93, o41]); omega)
  have j2 : ∀ (i : Nat) (s : ByteArray) (lo hi : ByteArray) (il ih : Bool), i ≤ 20 → s.size ≤ 2004 * i + 2 → lo.size ≤ 1000 → hi.size ≤ 1000 → (∀ s2 : ByteArray, s2.size ≤ 2004 * (i + 1) → Tot (fun k => newelref05_Text.l0 k l s2 (wrap64 ((i : Int) + 1))) (fun r => r.size ≤ 50000)) → Tot (fun k => newelref05_Text.j2 k l s (i : Int) lo hi il ih) (fun r => r.size ≤ 50000) := by
    intro i s lo hi il ih h0 h1 h2 h3 next
    have z : (s ++ lo).size ≤ 2004 * i + 1002 := by rw [ByteArray.size_append]; omega
    refine tot_succ ?_ (fun k => by rw [newelref05_Text.j2])
    exact tot_guard (by omega) (tot_if (fun _ => tot_if (fun _ => j3 i _ _ _ _ _ _ h0 z h3 next) (fun _ => j3 i _ _ _ _ _ _ h0 z h3 next)) (fun _ => j3 i _ _ _ _ _ _ h0 z h3 next))
  have j1 : ∀ (i : Nat) (s : ByteArray) (lo hi : ByteArray) (il ih : Bool), i ≤ 20 → s.size ≤ 2004 * i + 1 → lo.size ≤ 1000 → hi.size ≤ 1000 → (∀ s2 : ByteArray, s2.size ≤ 2004 * (i + 1) → Tot (fun k => newelref05_Text.l0 k l s2 (wrap64 ((i : Int) + 1))) (fun r => r.size ≤ 50000)) → Tot (fun k => newelref05_Text.j1 k l s (i : Int) lo hi il ih) (fun r => r.size ≤ 50000) := by
    intro i s lo hi il ih h0 h1 h2 h3 next
    have o91 : (⟨#[91]⟩ : ByteArray).size = 1 := rfl
    have o40 : (⟨#[40]⟩ : ByteArray).size = 1 := rfl
    refine tot_succ ?_ (fun k => by rw [newelref05_Text.j1])
    exact tot_if (fun _ => tot_guard (by omega) (j2 i _ _ _ _ _ h0 (by rw [ByteArray.size_append]; omega) h2 h3 next)) (fun _ => tot_guard (by omega) (j2 i _ _ _ _ _ h0 (by rw [ByteArray.size_append]; omega) h2 h3 next))
  have loop : ∀ (d i : Nat) (s : ByteArray), i + d = l.length → s.size ≤ 2004 * i → Tot (fun k => newelref05_Text.l0 k l s (i : Int)) (fun r => r.size ≤ 50000) := by
    intro d
    induction d with
    | zero =>
      intro i s h hz
      refine tot_succ ?_ (fun k => by rw [newelref05_Text.l0])
      exact tot_if (fun g => by omega) (fun _ => tot_some (by omega))
    | succ d ih =>
      intro i s h hz
      have o44 : (⟨#[44]⟩ : ByteArray).size = 1 := rfl
      have hi : i < l.length := by omega
      have sh := hs l[i] (List.getElem_mem hi)
      have next : ∀ s2 : ByteArray, s2.size ≤ 2004 * (i + 1) → Tot (fun k => newelref05_Text.l0 k l s2 (wrap64 ((i : Int) + 1))) (fun r => r.size ≤ 50000) := by
        intro s2 h2
        rw [next_of i (by omega)]
        exact ih (i + 1) s2 (by omega) h2
      refine tot_succ ?_ (fun k => by rw [newelref05_Text.l0])
      rw [rd_span l i hi]
      exact tot_if (fun _ => tot_guard (by omega) (tot_if (fun _ => tot_guard (by omega) (j1 i _ _ _ _ _ (by omega) (by rw [ByteArray.size_append]; omega) sh.1 sh.2 next)) (fun _ => j1 i _ _ _ _ _ (by omega) (by omega) sh.1 sh.2 next))) (fun g => by omega)
  unfold newelref05_Text.f
  exact loop l.length 0 _ (by omega) (by show 0 ≤ _; omega)
theorem plain_total (x y : List S58) (hy : y.length ≤ 100000) : Tot (fun k => api_Span_60.f k x y) (fun _ => True) := by
  have loop : ∀ (d i : Nat), x.length = y.length → i + d = x.length → Tot (fun k => api_Span_100.l0 k x y (i : Int)) (fun _ => True) := by
    intro d
    induction d with
    | zero =>
      intro i hl h
      refine tot_succ ?_ (fun k => by rw [api_Span_100.l0])
      exact tot_if (fun g => by omega) (fun _ => tot_some trivial)
    | succ d ih =>
      intro i hl h
      refine tot_succ ?_ (fun k => by rw [api_Span_100.l0])
      refine tot_guard (by omega) (tot_guard (by omega) (tot_guard (by omega) (tot_bind (Q := fun _ => True) (tot_const rfl trivial) (fun _ _ => tot_if (fun _ => ?_) (fun _ => tot_some trivial)))))
      rw [next_of i (by omega)]
      exact ih (i + 1) hl (by omega)
  unfold api_Span_60.f api_Span_100.f
  refine tot_bind (Q := fun _ => True) (tot_if (fun h => ?_) (fun _ => tot_some trivial)) (fun _ _ => tot_some trivial)
  exact loop x.length 0 (by omega) (by omega)
theorem next_big (i : Nat) (h : i + 1 ≤ 9223372036854775807) : wrap64 ((i : Int) + 1) = ((i + 1 : Nat) : Int) := by unfold wrap64; omega
theorem few_told (l : List S58) : ∀ (d i : Nat), i + d = l.length → l.length ≤ 9223372036854775807 → Tot (fun k => newellaw07_few.l0 k l (i : Int)) (fun r => r = true → l.length ≤ 20 ∧ ∀ s ∈ l.drop i, s.f0.size ≤ 100 ∧ s.f1.size ≤ 100) := by
  intro d
  induction d with
  | zero =>
    intro i h hl
    refine tot_succ ?_ (fun k => by rw [newellaw07_few.l0])
    refine tot_if (fun g => by omega) (fun _ => tot_some (fun h => ⟨by have := of_decide_eq_true h; omega, fun s hs => ?_⟩))
    rw [List.drop_eq_nil_of_le (by omega)] at hs
    cases hs
  | succ d ih =>
    intro i h hl
    have hi : i < l.length := by omega
    refine tot_succ ?_ (fun k => by rw [newellaw07_few.l0])
    rw [rd_span l i hi, next_big i (by omega)]
    refine tot_if (fun _ => tot_guard (by omega) (tot_if (fun _ => tot_some (fun h => by cases h)) (fun g1 => tot_if (fun _ => tot_some (fun h => by cases h)) (fun g2 => ?_)))) (fun g => by omega)
    refine tot_imp (ih (i + 1) (by omega) hl) (fun r hr h => ?_)
    obtain ⟨h1, h2⟩ := hr h
    refine ⟨h1, fun s hs => ?_⟩
    rw [List.drop_eq_getElem_cons hi] at hs
    rcases List.mem_cons.1 hs with q | q
    · subst q; exact ⟨by omega, by omega⟩
    · exact h2 s q
def Good (l : List S58) : Prop := l.length ≤ 12 ∧ ∀ s ∈ l, s.f0.size ≤ 100 ∧ s.f1.size ≤ 100 ∧ mayS s = true
theorem right_cmp (l : List S58) (hs : ∀ s ∈ l, s.f0.size ≤ 100 ∧ s.f1.size ≤ 100) (hl : l.length ≤ 1000000) : Tot (fun k => newellaw07_right.f k l) Good := by
  have loop : ∀ (d i : Nat) (acc : List S58), i + d = l.length → acc.length ≤ i → Good acc → Tot (fun k => newellaw07_right.l0 k l acc (i : Int)) Good := by
    intro d
    induction d with
    | zero =>
      intro i acc h ha hg
      refine tot_succ ?_ (fun k => by rw [newellaw07_right.l0])
      refine tot_if (fun g => by omega) (fun _ => tot_succ ?_ (fun k => by rw [newellaw07_right.j1]))
      exact tot_if (fun h => by cases h) (fun _ => tot_some hg)
    | succ d ih =>
      intro i acc h ha hg
      have hi : i < l.length := by omega
      have sh := hs l[i] (List.getElem_mem hi)
      refine tot_succ ?_ (fun k => by rw [newellaw07_right.l0])
      refine tot_if (fun _ => tot_succ ?_ (fun k => by rw [newellaw07_right.j1])) (fun g => by omega)
      refine tot_if (fun h12 => ?_) (fun _ => tot_some hg)
      have hi12 : i < 12 := by have := of_decide_eq_true h12; omega
      have g1 := hg.1
      rw [rd_span l i hi, next_of i (by omega)]
      simp only [Option.bind_some, List.nil_append, List.length_nil]
      refine tot_guard (by omega) (tot_guard (by omega) (tot_guard (by omega) (tot_guard (by simp; omega) ?_)))
      have len2 : (acc ++ [(⟨l[i].f0, l[i].f1, l[i].f2, l[i].f3⟩ : S58)]).length ≤ 20 := by simp; omega
      have short2 : Short (acc ++ [(⟨l[i].f0, l[i].f1, l[i].f2, l[i].f3⟩ : S58)]) := by
        intro s hs2
        rcases List.mem_append.1 hs2 with q | q
        · have := hg.2 s q; exact ⟨by omega, by omega⟩
        · obtain rfl := List.mem_singleton.1 q; exact ⟨by show l[i].f0.size ≤ 1000; omega, by show l[i].f1.size ≤ 1000; omega⟩
      have stay : Tot (fun k => newellaw07_right.l0 k l acc ((i + 1 : Nat) : Int)) Good := ih (i + 1) acc (by omega) (by omega) hg
      refine tot_bind (ref_texts_total _ short2 len2) (fun t ht => ?_)
      have tz := ba_size t
      have pc := ref_parse_cmp t.data.toList.length t.data.toList [] (Nat.le_refl _) (by omega) (fun s hs => by cases hs) (by simp; omega)
      rw [ts_data] at pc
      refine tot_bind (Q := fun _ => True) (tot_imp (f := fun k => newelref05_Parse.f k t) pc (fun _ _ => trivial)) (fun r _ => ?_)
      obtain ⟨s, hse⟩ : ∃ s, s = l[i] := ⟨_, rfl⟩
      rw [← hse] at sh len2 short2 ⊢
      clear hse
      obtain ⟨s0, s1, s2, s3⟩ := s
      obtain ⟨a0, rfl⟩ : ∃ l, s0 = ts l := ⟨_, (ts_data s0).symm⟩
      obtain ⟨a1, rfl⟩ : ∃ l, s1 = ts l := ⟨_, (ts_data s1).symm⟩
      dsimp only at sh len2 short2 ⊢
      rw [ts_size, ts_size] at sh
      refine tot_bind (ref_may_cmp a0 a1 s2 s3 (by omega) (by omega)) (fun m hm => ?_)
      refine tot_if (fun hmt => tot_if (fun _ => tot_bind (plain_total _ _ (by omega)) (fun p _ => tot_if (fun _ => ?_) (fun _ => stay))) (fun _ => stay)) (fun _ => stay)
      refine ih (i + 1) _ (by omega) (by simp; omega) ⟨by simp; omega, ?_⟩
      intro s hs2
      rcases List.mem_append.1 hs2 with q | q
      · exact hg.2 s q
      · obtain rfl := List.mem_singleton.1 q
        refine ⟨by rw [ts_size]; exact sh.1, by rw [ts_size]; exact sh.2, ?_⟩
        have : mayS ⟨ts a0, ts a1, s2, s3⟩ = m := hm.symm
        rw [this]; exact hmt
  unfold newellaw07_right.f
  exact loop l.length 0 [] (by omega) (by simp) ⟨by simp, fun s hs => by cases hs⟩
end Go.Proofs.YtgdjfcmmpjcaaaaDoor.Pure
namespace Go.Proofs.YtgdjfcmmpjcaaaaDoor.Pure
open Go Go.RowKit Go.Proofs.YtgdjfcmmpjcaaaaDoor.Q Go.Proofs.YtgdjfcmmpjcaaaaDoorW.PrintWords
theorem awake7_60 : newellaw07_awake.f 60 = some true := by kernel_rfl
theorem awake7_ge (k : Nat) (h : 60 ≤ k) : newellaw07_awake.f k = some true := by
  obtain ⟨j, rfl⟩ := Nat.exists_eq_add_of_le h
  clear h
  induction j with
  | zero => exact awake7_60
  | succ j ih => exact newellaw07_awake.mono _ _ ih
end Go.Proofs.YtgdjfcmmpjcaaaaDoor.Pure
namespace Go.Proofs.YtgdjfcmmpjcaaaaDoor.Pure
open Go Go.RowKit Go.Proofs.YtgdjfcmmpjcaaaaDoor.Q Go.Proofs.YtgdjfcmmpjcaaaaDoorW.PrintWords Go.Proofs.YtgdjfcmmpjcaaaaDoorW.PrintLast Go.Proofs.YtgdjfcmmpjcaaaaDoorW.Own Go.Proofs.YtgdjfcmmpjcaaaaDoorW.PrintMore Go.Proofs.YtgdjfcmmpjcaaaaDoorW.Px
set_option linter.unusedSimpArgs false
set_option linter.unusedVariables false
def nought2 (s : List UInt8) : Bool := match s.map lowB with
  | [] => false
  | c :: l => (c == 46 || c == 45) && (outL (allP (runP ([], ⟨[], c == 45, false⟩) l))).isEmpty && decide (s.length ≤ 20)
theorem splitL_nought2 (x s : List UInt8) (h : nought2 s = true) : splitL (x ++ s) = splitL x := by
  unfold nought2 at h
  unfold splitL
  rw [List.map_append]
  cases hs : s.map lowB with
  | nil => rw [hs] at h; cases h
  | cons c l =>
    rw [hs] at h
    simp only [Bool.and_eq_true] at h
    have he : outL (allP (runP ([], ⟨[], c == 45, false⟩) l)) = [] := List.isEmpty_iff.1 h.1.2
    unfold partsL
    rw [runP_append, parts_sep _ _ _ h.1.1]
    rw [outL_append, he]
    rfl
theorem splitL_more (v : List UInt8) : splitL (v ++ [46, 48]) = splitL v ∧ splitL (v ++ [45, 103, 97]) = splitL v := ⟨splitL_nought2 v _ (by kernel_rfl), splitL_nought2 v _ (by kernel_rfl)⟩
theorem cmpV_more (v s lo : List UInt8) (h : splitL (v ++ s) = splitL v) : cmpV (v ++ s) lo = cmpV v lo := by unfold cmpV; rw [h]
theorem rangeB_more (l : List S58) (v s : List UInt8) (h : splitL (v ++ s) = splitL v) : rangeB l (v ++ s) = rangeB l v := by
  unfold rangeB
  congr 1
  funext x
  unfold holdsS lowB2 highB
  rw [cmpV_more v s _ h, cmpV_more v s _ h]
theorem SpanTexts : newellaw07_SpanTexts.Pure := by
  intro l0 a1 hl hz
  have key : Tot (fun k => newellaw07_SpanTexts.f k l0 a1) (fun r => r = true) := by
    obtain ⟨v, rfl⟩ : ∃ v, a1 = ts v := ⟨_, (ts_data a1).symm⟩
    rw [ts_size] at hz
    have aw : Tot (fun k => newellaw07_awake.f k) (fun r => r = true) := tot_ge 60 (fun k hk => awake7_ge k hk)
    have wake : Tot (fun k => newellaw07_SpanTexts.j0 k l0 (ts v) true) (fun r => r = true) := by
      refine tot_succ ?_ (fun k => by rw [newellaw07_SpanTexts.j0])
      exact tot_guard rfl (tot_bind aw (fun r hr => tot_some hr))
    unfold newellaw07_SpanTexts.f newellaw07_few.f
    have big : Tot (fun k => newellaw07_few.l0 k l0 ((0 : Nat) : Int)) (fun r => r = true → l0.length ≤ 20 ∧ ∀ s ∈ l0.drop 0, s.f0.size ≤ 100 ∧ s.f1.size ≤ 100) := few_told l0 l0.length 0 (by omega) (by have := hl.1; unfold maxLen at this; omega)
    refine tot_bind big (fun r hr => tot_if (fun h => ?_) (fun _ => wake))
    obtain ⟨h1, h2⟩ := hr h
    rw [List.drop_zero] at h2
    rw [ts_size]
    by_cases big : (v.length : Int) > 60
    · rw [decide_eq_true big]; exact wake
    · rw [decide_eq_false big]
      refine tot_succ ?_ (fun k => by rw [newellaw07_SpanTexts.j0])
      refine tot_if (fun h => by cases h) (fun _ => tot_bind (right_cmp l0 h2 (by omega)) (fun a ga => tot_bind aw (fun r hr => ?_)))
      subst hr
      have ma : Mid a := fun s hs => by have := ga.2 s hs; exact ⟨by omega, by omega⟩
      have la := ga.1
      have e1 : ts v ++ (⟨#[46, 48]⟩ : ByteArray) = ts (v ++ [46, 48]) := by rw [show (⟨#[46, 48]⟩ : ByteArray) = ts [46, 48] from rfl, ts_append]
      have e2 : ts v ++ (⟨#[45, 103, 97]⟩ : ByteArray) = ts (v ++ [45, 103, 97]) := by rw [show (⟨#[45, 103, 97]⟩ : ByteArray) = ts [45, 103, 97] from rfl, ts_append]
      have m := splitL_more v
      rw [e1, e2, ts_size]
      refine tot_guard rfl (tot_bind (range_cmp a v ma (by omega) (by omega)) (fun r hr => tot_guard (by omega) ?_))
      subst hr
      refine tot_bind (range_cmp a _ ma (by omega) (by simp; omega)) (fun r hr => ?_)
      rw [rangeB_more a v _ m.1] at hr
      subst hr
      refine tot_guard (by rw [beq_self_eq_true]) (tot_bind (range_cmp a v ma (by omega) (by omega)) (fun r hr => tot_guard (by omega) ?_))
      subst hr
      refine tot_bind (range_cmp a _ ma (by omega) (by simp; omega)) (fun r hr => ?_)
      rw [rangeB_more a v _ m.2] at hr
      subst hr
      refine tot_guard (by rw [beq_self_eq_true]) (tot_bind (range_cmp [] v (fun s hs => by cases hs) (by simp) (by omega)) (fun r hr => ?_))
      subst hr
      refine tot_if (fun h => by cases h) (fun _ => ?_)
      have m1 : Mid [(⟨(⟨#[]⟩ : ByteArray), (⟨#[]⟩ : ByteArray), false, false⟩ : S58)] := fun s hs => by obtain rfl := List.mem_singleton.1 hs; exact ⟨by decide, by decide⟩
      refine tot_bind (range_cmp _ v m1 (by simp) (by omega)) (fun r hr => tot_some ?_)
      rw [hr]; rfl
  obtain ⟨k, r, hr, h⟩ := tot_get key
  exact ⟨k, by rw [h k (Nat.le_refl _), hr]⟩
end Go.Proofs.YtgdjfcmmpjcaaaaDoor.Pure
