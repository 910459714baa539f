/- Texts put together: what functions of the program compute, and plain words about them. -/
import Derived.Test.YtkoogebfdinbnaaLawElementStandsM1
import Derived.Test.YtkoogebfdinbnaaLawElementStandsM2
import Derived.Deep.RegionLaw
import Derived.Lib.Hide
import Derived.Outline
import Derived.Laws.Runes
import Derived.Deep.QuietTactic
import Derived.BigQuiet
import Derived.StillTailTactics
import Derived.Laws.Cover4
namespace Go.Proofs.Ytkoogebfdinbnaa.Q
open Go.RowKit Go.Proofs.YtkoogebfdinbnaaW.PrintWords Go.Proofs.YtkoogebfdinbnaaW.PrintLast Go.Proofs.YtkoogebfdinbnaaW.Own Go.Proofs.YtkoogebfdinbnaaW.PrintMore
attribute [local go_sem] max2_int min2_int max_two min_two max_three min_three max_four min_four   -- for this text's walks alone
set_option linter.unusedVariables false
set_option linter.unusedSimpArgs false
set_option maxHeartbeats 20000000
set_option maxRecDepth 100000
mutual
def chars_Trim.j1 : Nat → ByteArray → Option (ByteArray)
 | 0, _ => none
 | k + 1, x0 => chars_Trim.l1 k x0
def chars_Trim.l1 : Nat → ByteArray → Option (ByteArray)
 | 0, _ => none
 | k + 1, x0 => if x0.toList = ([] : List UInt8) then (some x0) else (if 0 ≤ (wrap64 ((x0.size : Int) - 1)) then (if (wrap64 ((x0.size : Int) - 1)) < (x0.size : Int) then ((chars_Space.f (bt x0 (wrap64 ((x0.size : Int) - 1)))).bind fun t113 => (if t113 = true then (if (wrap64 ((x0.size : Int) - 1)) ≤ (x0.size : Int) then (chars_Trim.l1 k (x0.extract 0 ((wrap64 ((x0.size : Int) - 1)) : Int).toNat)) else (none)) else (some x0))) else (none)) else (none))
def chars_Trim.l0 : Nat → ByteArray → Option (ByteArray)
 | 0, _ => none
 | k + 1, x0 => if x0.toList = ([] : List UInt8) then (chars_Trim.j1 k x0) else (if 0 < (x0.size : Int) then ((chars_Space.f (bt x0 0)).bind fun t112 => (if t112 = true then (if 1 ≤ (x0.size : Int) then (chars_Trim.l0 k (x0.extract 1 x0.size)) else (none)) else (chars_Trim.j1 k x0))) else (none))
end
def chars_Trim.f (k : Nat) (a0 : ByteArray) : Option (ByteArray) := chars_Trim.l0 k a0
theorem chars_Trim.calls (k : Nat) (a0 : ByteArray) (r : ByteArray) (w : World) (hG : Glob w) (h : chars_Trim.f k a0 = some r) :
 Calls Try.prog 47 #[.string a0] w fun e w' => e = .returned (.string r) ∧ Drawn0 w w' := by
 have HG := Aside0.mk hG
 clear hG
 have H : (chars_Trim.l0 k a0) = some r := h
 clear h
 have HC2 := Aside0.mk H
 clear H
 go_enter Try.func47, Try.ntmps47
 go_upto_block 0 with (fail)
 go_cut [0] (fun v0 wc => ∃ (kq : Nat) (x0_1 : ByteArray), v0 = .string x0_1 ∧ Aside0 (chars_Trim.j1 kq x0_1 = some r) ∧ Aside0 (kq ≤ k) ∧ Drawn0 w wc)
 case first =>
  have H := HC2.out
  clear HC2
  have H' := Aside0.mk H
  clear H
  go_wp2
  go_loopg [0] k (fun kq v0 w' => ∃ (x0_1 : ByteArray), v0 = .string x0_1 ∧ Aside0 (chars_Trim.l0 kq x0_1 = some r) ∧ Aside0 (kq ≤ k) ∧ Drawn0 w w')
  case atStart => exact ⟨(a0), cA, H', ⟨Nat.le_refl _⟩, by repeat (first | exact Drawn0.refl _ | apply Drawn0.step)⟩
  clear H'
  try clear p2
  obtain ⟨x0_1, rfl, HA, HK1, ⟨m1, rfl⟩⟩ := hrel
  cases gk with
  | zero => exact absurd HA.out (by simp [chars_Trim.l0])
  | succ k1 =>
   have H := HA.out
   clear HA
   simp only [chars_Trim.l0] at H
   (try simp only [toList_lit] at H)
   by_cases c3 : x0_1.toList = ([] : List UInt8)
   ·rw [if_pos c3] at H
    obtain ⟨c3b0, c3b1⟩ := eqT c3
    (try (have c3b2 : x0_1.toList.isEmpty = true := by simpa using c3))
    clear c3
    (first | rw [c3b0] | rw [c3b2] | (simp only [i64_w, i32_w]; rw [c3b0]) | skip)
    have H' := Aside0.mk H
    clear H
    go_wp2
    go_meet
    case rel => exact ⟨_, (x0_1), cA, H', ⟨by have := HK1.out; first | omega | exact Nat.le_refl _⟩, by repeat (first | exact Drawn0.refl _ | apply Drawn0.step)⟩
   rw [if_neg c3] at H
   obtain ⟨c3b0, c3b1⟩ := eqF c3
   (try (have c3b2 : x0_1.toList.isEmpty = false := by simpa using c3))
   (first | rw [c3b0] | rw [c3b2] | (simp only [i64_w, i32_w]; rw [c3b0]) | skip)
   by_cases c4 : 0 < (x0_1.size : Int)
   rotate_left
   ·rw [if_neg c4] at H
    exact absurd H (by simp)
   rw [if_pos c4] at H
   have c4b0 := dT c4
   have c4b1 : decide (0 < x0_1.size) = true := decide_eq_true (by omega)
   clear c4
   replace H := bi H
   obtain ⟨t112, A60, H⟩ := H
   try dsimp only at H
   have A6 := Aside0.mk A60
   clear A60
   by_cases c7 : t112 = true
   rotate_left
   ·replace c7 := Bool.eq_false_iff.mpr c7
    subst c7
    have H1 : (chars_Trim.j1 k1 x0_1) = some r := by rw [if_neg (show ¬ (false = true) by decide)] at H; exact H
    clear H
    have H := H1
    clear H1
    have H' := Aside0.mk H
    clear H
    have p5 : 0 ≤ (0 : Int) := (by omega)
    have q5 : 0 < x0_1.size := (by have : (0 : Int) < (x0_1.size : Int) := dA; omega)
    have hx5 : ∀ h : 0 < x0_1.size, ((x0_1[0]'h).toNat : Int) = bt x0_1 0 := bt_at x0_1 0
    clear p5
    have qi5 : (0 < (x0_1.size : Int)) = True := eq_true (dA)
    replace q5 := eq_true q5
    go_wp2_with (first | (go_at_call 33; (with_reducible refine (chars_Space.calls (bt x0_1 0) false _ ?side1 A6.out).mono ?_); (case side1 => exact Glob.drawn HG.out (by repeat (first | exact Drawn0.refl _ | apply Drawn0.step))); rintro e w' ⟨rfl, ⟨nd, rfl⟩⟩))
    go_meet
    case rel => exact ⟨_, (x0_1), cA, H', ⟨by have := HK1.out; first | omega | exact Nat.le_refl _⟩, by repeat (first | exact Drawn0.refl _ | apply Drawn0.step)⟩
   subst c7
   have H1 : (if 1 ≤ (x0_1.size : Int) then (chars_Trim.l0 k1 (x0_1.extract 1 x0_1.size)) else (none)) = some r := by rw [if_pos rfl] at H; exact H
   clear H
   have H := H1
   clear H1
   by_cases c8 : 1 ≤ (x0_1.size : Int)
   rotate_left
   ·rw [if_neg c8] at H
    exact absurd H (by simp)
   rw [if_pos c8] at H
   have c8b0 := eq_true c8
   have c8b1 := dT c8
   clear c8
   have H' := Aside0.mk H
   clear H
   have p5 : 0 ≤ (0 : Int) := (by omega)
   have q5 : 0 < x0_1.size := (by have : (0 : Int) < (x0_1.size : Int) := dA; omega)
   have hx5 : ∀ h : 0 < x0_1.size, ((x0_1[0]'h).toNat : Int) = bt x0_1 0 := bt_at x0_1 0
   clear p5
   have qi5 : (0 < (x0_1.size : Int)) = True := eq_true (dA)
   replace q5 := eq_true q5
   go_wp2_with (first | (go_at_call 33; (with_reducible refine (chars_Space.calls (bt x0_1 0) true _ ?side1 A6.out).mono ?_); (case side1 => exact Glob.drawn HG.out (by repeat (first | exact Drawn0.refl _ | apply Drawn0.step))); rintro e w' ⟨rfl, ⟨nd, rfl⟩⟩))
   go_roundg k1
   case measure => have := HK1.out; omega
   case rel => exact ⟨(x0_1.extract 1 x0_1.size), cA, H', ⟨by have := HK1.out; omega⟩, by repeat (first | exact Drawn0.refl _ | apply Drawn0.step)⟩
 clear HC2
 try clear p2
 try clear c3
 try clear c3b0
 try clear c3b1
 try clear c3b2
 try clear c4
 try clear c4b0
 try clear c4b1
 try clear p5
 try clear q5
 try clear hx5
 try clear qi5
 try clear c7
 try clear c8
 try clear c8b0
 try clear c8b1
 try clear p2
 try clear p5
 try clear q5
 obtain ⟨kq, x0_1, rfl, HA, HJ1, ⟨mc1, rfl⟩⟩ := hcut
 cases kq with
 | zero => exact absurd HA.out (by simp [chars_Trim.j1])
 | succ kj1 =>
  have H := HA.out
  clear HA
  simp only [chars_Trim.j1] at H
  (try simp only [toList_lit] at H)
  have H' := Aside0.mk H
  clear H
  go_wp2
  go_loopg [0] kj1 (fun kq v0 w' => ∃ (x0_2 : ByteArray), v0 = .string x0_2 ∧ Aside0 (chars_Trim.l1 kq x0_2 = some r) ∧ Aside0 (kq ≤ kj1) ∧ Drawn0 w w')
  case atStart => exact ⟨(x0_1), cA, H', ⟨Nat.le_refl _⟩, by repeat (first | exact Drawn0.refl _ | apply Drawn0.step)⟩
  clear H'
  try clear c1
  try clear p2
  try clear c3
  try clear c3b0
  try clear c3b1
  try clear c3b2
  try clear c4
  try clear c4b0
  try clear c4b1
  try clear p5
  try clear q5
  try clear hx5
  try clear qi5
  try clear c7
  try clear c8
  try clear c8b0
  try clear c8b1
  try clear p2
  try clear p5
  try clear q5
  obtain ⟨x0_2, rfl, HA, HK2, ⟨m2, rfl⟩⟩ := hrel
  cases gk with
  | zero => exact absurd HA.out (by simp [chars_Trim.l1])
  | succ k2 =>
   have H := HA.out
   clear HA
   simp only [chars_Trim.l1] at H
   (try simp only [toList_lit] at H)
   by_cases c9 : x0_2.toList = ([] : List UInt8)
   ·rw [if_pos c9] at H
    obtain ⟨c9b0, c9b1⟩ := eqT c9
    (try (have c9b2 : x0_2.toList.isEmpty = true := by simpa using c9))
    clear c9
    obtain rfl := Option.some.inj H
    go_wp2
    go_ret
    exact ⟨by first | rfl | (simp; done) | (simp [*]; done), by repeat (first | exact Drawn0.refl _ | apply Drawn0.step)⟩
   rw [if_neg c9] at H
   obtain ⟨c9b0, c9b1⟩ := eqF c9
   (try (have c9b2 : x0_2.toList.isEmpty = false := by simpa using c9))
   obtain ⟨ji10, hji10⟩ : ∃ j_ : Int, (wrap64 ((x0_2.size : Int) - 1)) = j_ := ⟨_, rfl⟩
   rw [hji10] at H
   have hji10w : (IntKind.i64.wrap ((x0_2.size : Int) - 1)) = ji10 := (i64_w _).trans hji10
   by_cases c11 : 0 ≤ (ji10)
   rotate_left
   ·rw [if_neg c11] at H
    exact absurd H (by simp)
   rw [if_pos c11] at H
   have c11b0 := dT c11
   clear c11
   by_cases c12 : (ji10) < (x0_2.size : Int)
   rotate_left
   ·rw [if_neg c12] at H
    exact absurd H (by simp)
   rw [if_pos c12] at H
   have c12b0 := dT c12
   clear c12
   replace H := bi H
   obtain ⟨t113, A140, H⟩ := H
   try dsimp only at H
   have A14 := Aside0.mk A140
   clear A140
   by_cases c15 : t113 = true
   rotate_left
   ·replace c15 := Bool.eq_false_iff.mpr c15
    subst c15
    have H1 : (some x0_2) = some r := by rw [if_neg (show ¬ (false = true) by decide)] at H; exact H
    clear H
    have H := H1
    clear H1
    obtain rfl := Option.some.inj H
    have p13 : 0 ≤ ((ji10) : Int) := dA
    have q13 : (ji10) < (x0_2.size : Int) := dA
    have hx13 := bt_at x0_2 (ji10)
    replace p13 := eq_true p13
    replace q13 := eq_true q13
    go_wp2_with (first | (go_at_call 33; (with_reducible refine (chars_Space.calls (bt x0_2 (ji10)) false _ ?side1 A14.out).mono ?_); (case side1 => exact Glob.drawn HG.out (by repeat (first | exact Drawn0.refl _ | apply Drawn0.step))); rintro e w' ⟨rfl, ⟨nd, rfl⟩⟩))
    go_ret
    exact ⟨by first | rfl | (simp; done) | (simp only [← hji10] <;> (first | rfl | simp)) | (simp [*]; done), by repeat (first | exact Drawn0.refl _ | apply Drawn0.step)⟩
   subst c15
   have H1 : (if (ji10) ≤ (x0_2.size : Int) then (chars_Trim.l1 k2 (x0_2.extract 0 ((ji10) : Int).toNat)) else (none)) = some r := by rw [if_pos rfl] at H; exact H
   clear H
   have H := H1
   clear H1
   have c16b0 := eq_true (dA : 0 ≤ (ji10))
   by_cases c17 : (ji10) ≤ (x0_2.size : Int)
   rotate_left
   ·rw [if_neg c17] at H
    exact absurd H (by simp)
   rw [if_pos c17] at H
   have c17b0 := eq_true c17
   have c17b1 := dT c17
   clear c17
   have H' := Aside0.mk H
   clear H
   have p13 : 0 ≤ ((ji10) : Int) := dA
   have q13 : (ji10) < (x0_2.size : Int) := dA
   have hx13 := bt_at x0_2 (ji10)
   replace p13 := eq_true p13
   replace q13 := eq_true q13
   go_wp2_with (first | (go_at_call 33; (with_reducible refine (chars_Space.calls (bt x0_2 (ji10)) true _ ?side1 A14.out).mono ?_); (case side1 => exact Glob.drawn HG.out (by repeat (first | exact Drawn0.refl _ | apply Drawn0.step))); rintro e w' ⟨rfl, ⟨nd, rfl⟩⟩))
   go_roundg k2
   case measure => have := HJ1.out; have := HK2.out; omega
   case rel => exact ⟨(x0_2.extract 0 ((ji10) : Int).toNat), (by first | rfl | (simp; done) | (simp only [← hji10] <;> (first | rfl | simp)) | (simp [*]; done)), H', ⟨by have := HJ1.out; have := HK2.out; omega⟩, by repeat (first | exact Drawn0.refl _ | apply Drawn0.step)⟩
def WalkAt (w : World) (B g : Nat) (ok : Nat → Prop) (s : ByteArray) (L : List S40) : Prop :=
 ∃ v, w.heap[g]? = some (.cells #[.string s, v] 65 (0, 0)) ∧ Kd.S k40 40 w B (fun k => ok k ∧ k ≠ g) v L ∧ B ≤ g ∧ 0 < B
theorem WalkAt.below {w w1 : World} {B g : Nat} {ok : Nat → Prop} {s : ByteArray} {L : List S40} (h : WalkAt w B g ok s L) (hb : Below w.heap.size w w1) : WalkAt w1 B g ok s L := by
 obtain ⟨v, h1, h2, h3⟩ := h
 exact ⟨v, blk_below h1 hb, Kd.S_below h2 hb, h3⟩
theorem WalkAt.left {w : World} {B g : Nat} {ok : Nat → Prop} {s : ByteArray} {L : List S40} (h : WalkAt w B g ok s L) (x : ByteArray) : WalkAt (w.setCell ⟨g, 0, none⟩ (.string x)) B g ok x L := by
 obtain ⟨v, h1, h2, h3⟩ := h
 exact ⟨v, by simpa using blk_set h1 0 (.string x), Kd.S_set h2 h1 (by decide) 0 _, h3⟩
theorem WalkAt.more {w : World} {B g : Nat} {ok ok' : Nat → Prop} {s : ByteArray} {L : List S40} (h : WalkAt w B g ok s L) (hk : ∀ k, k < w.heap.size → ok k → ok' k) : WalkAt w B g ok' s L := by
 obtain ⟨v, h1, h2, h3⟩ := h
 exact ⟨v, h1, Kd.S_mono (Kd.S_bound h2) (fun k hk' => ⟨hk k hk'.2.2.1 hk'.1.1, hk'.1.2⟩), h3⟩
theorem WalkAt.far {w : World} {B g : Nat} {ok : Nat → Prop} {s : ByteArray} {L : List S40} (h : WalkAt w B g ok s L) {p : Addr} (hp : p.block ≠ g) (hk : ∀ k, ok k → k ≠ p.block) (u : Value) : WalkAt (w.setCell p u) B g ok s L := by
 obtain ⟨v, h1, h2, h3⟩ := h
 exact ⟨v, blk_far h1 (fun e => hp e.symm) u, Kd.S_far h2 (fun k hk' => hk k hk'.1) u, h3⟩
theorem WalkAt.cell0 {w : World} {B g : Nat} {ok : Nat → Prop} {s : ByteArray} {L : List S40} (h : WalkAt w B g ok s L) : w.cell? ⟨g, 0, none⟩ = some (.string s) := by
 obtain ⟨v, h1, h2, h3⟩ := h
 exact (blk_cell h1 0).trans rfl
theorem WalkAt.frozen {w : World} {B g : Nat} {ok : Nat → Prop} {s : ByteArray} {L : List S40} (h : WalkAt w B g ok s L) (i : Nat) : w.frozen? ⟨g, i, none⟩ = false := by
 obtain ⟨v, h1, h2, h3⟩ := h
 exact blk_frozen h1 i
theorem WalkAt.ge {w : World} {B g : Nat} {ok : Nat → Prop} {s : ByteArray} {L : List S40} (h : WalkAt w B g ok s L) : B ≤ g := h.choose_spec.2.2.1
theorem WalkAt.pos {w : World} {B g : Nat} {ok : Nat → Prop} {s : ByteArray} {L : List S40} (h : WalkAt w B g ok s L) : 0 < B := h.choose_spec.2.2.2
theorem WalkAt.lt {w : World} {B g : Nat} {ok : Nat → Prop} {s : ByteArray} {L : List S40} (h : WalkAt w B g ok s L) : g < w.heap.size := blk_lt h.choose_spec.1
theorem WalkAt.size {w : World} {B g : Nat} {ok : Nat → Prop} {s : ByteArray} {L : List S40} (h : WalkAt w B g ok s L) : B ≤ w.heap.size := Nat.le_of_lt (Nat.lt_of_le_of_lt h.ge h.lt)
theorem WalkAt.apart {w : World} {B g : Nat} {ok okp : Nat → Prop} {v va : Value} {s : ByteArray} {L : List S40} {xs : List S68} (h1 : w.heap[g]? = some (.cells #[.string s, v] 65 (0, 0))) (h2 : Kd.S k40 40 w B ok v L) (ha : Kd.R k68 68 w B okp va xs) :
 Kd.R k68 68 w B (fun k => (okp k ∧ k ≠ g) ∧ some k ≠ v.ownBlock) va xs := by
 refine Kd.R_mono (Kd.R_bound ha) (fun k hk => ?_)
 obtain ⟨hok, _, _, q, hq, cells, hc⟩ := hk
 have hq' : q = 68 := by simpa [k68, Kd.iso, Kd.pair, Kd.string, Kd.scalar] using hq
 subst hq'
 refine ⟨⟨hok, ?_⟩, ?_⟩
 ·rintro rfl
  rw [h1] at hc
  injection hc with hc
  injection hc with _ hc
  exact absurd hc (by decide)
 ·intro he
  obtain ⟨cells', hc'⟩ := Kd.S_typed h2 k he.symm
  rw [hc'] at hc
  injection hc with hc
  injection hc with _ hc
  exact absurd hc (by decide)
theorem tokInfo : (Try.prog.info? 40).map (fun i => (i.zero, i.size, i.bytes)) = some (some (.agg #[.int .i64 0, .string ⟨#[]⟩, .string ⟨#[]⟩, .slice none 0 0, .bool false]), 5, 72) := by kernel_rfl
theorem token_walk_put.calls (B g : Nat) {ok : Nat → Prop} (okp : Nat → Prop) (s : ByteArray) (L : List S40) (t : S40) (va : Value) (w : World) (h : WalkAt w B g (fun k => ok k ∧ ¬ okp k) s L) (ha : Kd.R k68 68 w B okp va t.f3) (hop : ∀ k, okp k → ok k) (hok : ∀ k, w.heap.size ≤ k → ok k) (hl : L.length ≤ 100000) :
 Calls Try.prog 52 #[.pointer (some ⟨g, 0, none⟩), .agg #[.int .i64 t.f0, .string t.f1, .string t.f2, va, .bool t.f4]] w fun e w' => e = .returned (.bool true) ∧ WalkAt w' B g ok s (L ++ [t]) ∧ Below B w w' := by
 have hgB := h.ge
 have hpos := h.pos
 have hsz := h.size
 obtain ⟨v, h1, h2, h3, _⟩ := h
 have ha' := WalkAt.apart h1 h2 ha
 obtain ⟨A0, c0, rfl⟩ := Kd.R_slice ha
 obtain ⟨A1, c1, rfl⟩ := Kd.S_slice h2
 have H1 := Aside0.mk h1
 have H2 := Aside0.mk h2
 have HA := Aside0.mk ha'
 clear h1 h2 ha ha'
 go_enter Try.func52, Try.ntmps52
 go_wp2
 have hb0 : Below w.heap.size w (w.alloc (.cells #[.int .i64 t.f0, .string t.f1, .string t.f2, .slice A0 t.f3.length c0, .bool t.f4] 40)) := below_alloc (Below.refl _ _) _
 have X : (w.alloc (.cells #[.int .i64 t.f0, .string t.f1, .string t.f2, .slice A0 t.f3.length c0, .bool t.f4] 40)).heap[w.heap.size]? = some (.cells #[.int .i64 t.f0, .string t.f1, .string t.f2, .slice A0 t.f3.length c0, .bool t.f4] 40 (0, 0)) := heap_alloc_new w _
 have HT1 := Aside0.mk (blk_below H1.out hb0)
 have HT2 := Aside0.mk (Kd.S_below H2.out hb0)
 have HTA := Aside0.mk (Kd.R_below HA.out hb0)
 have HB := Aside0.mk (hb0.mono hsz)
 have hwW : w.heap.size ≤ (w.alloc (.cells #[.int .i64 t.f0, .string t.f1, .string t.f2, .slice A0 t.f3.length c0, .bool t.f4] 40)).heap.size := hb0.size
 clear H1 H2 HA hb0
 generalize w.alloc _ = W at *
 have HX := Aside0.mk X
 clear X
 have x0 := (blk_cell HX.out 0).trans rfl
 have x1 := (blk_cell HX.out 1).trans rfl
 have x2 := (blk_cell HX.out 2).trans rfl
 have x3 := (blk_cell HX.out 3).trans rfl
 have x4 := (blk_cell HX.out 4).trans rfl
 have y1 := (blk_cell HT1.out 1).trans rfl
 have z1 := blk_frozen HT1.out 1
 have y1a := fun o => (blk_cell (blk_alloc HT1.out o) 1).trans rfl
 have hW : B ≤ W.heap.size := Nat.le_trans hsz HB.out.size
 have hfr : ∀ k, W.drew.heap.size ≤ k → ok k ∧ k ≠ g := fun k hk => by have := blk_lt HT1.out; have e : W.drew.heap.size = W.heap.size := rfl; exact ⟨hok k (by omega), by omega⟩
 go_region_law (refine Kd.S_append_step k40 (w0 := w) (W := W.drew) B (by rfl) (.tmp 9) (.tmp 11) 41 40 _ 72 rfl Try.underlying41 tokInfo rfl (by decide) (by decide) (.slice A1 L.length c1) L t [.int .i64 t.f0, .string t.f1, .string t.f2, .slice A0 t.f3.length c0, .bool t.f4] (fun k => ok k ∧ k ≠ g) (fun k => (okp k ∧ k ≠ g) ∧ some k ≠ (Value.slice A1 L.length c1).ownBlock) rfl rfl (k40_mkM _ _ _ t (Kd.R_drew HTA.out)) (fun k hk => ⟨⟨hop k hk.1.1, hk.1.2⟩, hk.2⟩) hfr (Kd.S_mono (Kd.S_drew HT2.out) (fun k hk => ⟨⟨hk.1.1, hk.2⟩, fun h => hk.1.2 h.1.1⟩)) (below_drew HB.out) hW (by omega) ?_; intro v1 w1 r1 b1 g1 at1; obtain ⟨A2, c2, rfl⟩ := Kd.S_slice r1; have R1 := Aside0.mk r1; have B1 := Aside0.mk b1; have G1 := Aside0.mk (blk_grown (blk_drew HT1.out) g1 (Kd.S_away HT2.out (fun k hk => hk.2))); clear r1 b1 g1 at1; have z2 := blk_frozen G1.out 1; have y2 := (blk_cell G1.out 1).trans rfl)
 all_goals
  go_wp2
  go_ret
  have G2 := blk_set G1.out 1 (.slice A2 (L ++ [t]).length c2)
  have R2 := Kd.S_set R1.out G1.out (by decide) 1 (.slice A2 (L ++ [t]).length c2)
  have B2 := B1.out.setCell (p := ⟨g, 1, none⟩) hgB (.slice A2 (L ++ [t]).length c2)
  have el : (L ++ [t]).length = L.length + 1 := by simp
  rw [el] at G2 R2 B2
  exact ⟨rfl, ⟨_, by simpa using G2, R2, hgB, hpos⟩, B2⟩
theorem upto_some {x l a r : List UInt8} (h : Tk.upto x l = some (a, r)) : Lib.cut l x = (a, r, true) := by
 unfold Tk.upto at h
 unfold Lib.cut
 split at h
 ·rename_i hp
  injection h with h
  injection h with h1 h2
  rw [if_pos hp, h1, h2]
 ·cases h
theorem upto_none {x l : List UInt8} (h : Tk.upto x l = none) : Lib.cut l x = (l, [], false) := by
 unfold Tk.upto at h
 unfold Lib.cut
 split at h
 ·cases h
 ·rename_i hp
  rw [if_neg hp]
theorem bs_size (l : List UInt8) : (Tk.bs l).size = l.length := by rw [Lib.size_eq]; rfl
theorem token_walk_upTo.callsK (B g : Nat) {ok : Nat → Prop} (l x : List UInt8) (L : List S40) (w : World) (h : WalkAt w B g ok (Tk.bs l) L) (hG : Glob w) (hl : l.length ≤ 1000000) :
 Calls Try.prog 49 #[.pointer (some ⟨g, 0, none⟩), .string (Tk.bs x)] w fun e w' => e = .returned (.tuple #[.string (Tk.bs (Lib.cut l x).1), .bool (Lib.cut l x).2.2]) ∧ WalkAt w' B g ok (Tk.bs (Lib.cut l x).2.1) L ∧ Below B w w' ∧ KeepBut w w' g none := by
 have hs : (Tk.bs l).size < 4294967281 := by rw [bs_size]; omega
 have c0 := h.cell0
 have f0 := h.frozen 0
 obtain ⟨m, hm⟩ := hG
 have H := Aside0.mk h
 clear h
 go_enter Try.func49, Try.ntmps49
 go_wp2_with (first | (go_at_call 61; refine (Try.strings_Cut _ _ m _ hs hm).mono ?_; rintro e w' ⟨rfl, nd, rfl⟩))
 go_ret2
 have h1 : WalkAt (w.drewN nd) B g ok (Tk.bs l) L := H.out.below (pw_below_drewN (Below.refl _ _) nd)
 exact ⟨rfl, h1.left _, (pw_below_drewN (Below.refl _ _) nd).setCell (p := ⟨g, 0, none⟩) H.out.ge _, (keep_drewN (KeepBut.refl _ _ _) nd).set_ 0 _⟩
theorem token_walk_upTo.yesK (B g : Nat) {ok : Nat → Prop} (l x a r : List UInt8) (L : List S40) (w : World) (h : WalkAt w B g ok (Tk.bs l) L) (hG : Glob w) (hl : l.length ≤ 1000000) (hx : Tk.upto x l = some (a, r)) :
 Calls Try.prog 49 #[.pointer (some ⟨g, 0, none⟩), .string (Tk.bs x)] w fun e w' => e = .returned (.tuple #[.string (Tk.bs a), .bool true]) ∧ WalkAt w' B g ok (Tk.bs r) L ∧ Below B w w' ∧ KeepBut w w' g none := by
 have := token_walk_upTo.callsK B g l x L w h hG hl
 rwa [upto_some hx] at this
theorem token_walk_upTo.yes (B g : Nat) {ok : Nat → Prop} (l x a r : List UInt8) (L : List S40) (w : World) (h : WalkAt w B g ok (Tk.bs l) L) (hG : Glob w) (hl : l.length ≤ 1000000) (hx : Tk.upto x l = some (a, r)) :
 Calls Try.prog 49 #[.pointer (some ⟨g, 0, none⟩), .string (Tk.bs x)] w fun e w' => e = .returned (.tuple #[.string (Tk.bs a), .bool true]) ∧ WalkAt w' B g ok (Tk.bs r) L ∧ Below B w w' := (token_walk_upTo.yesK B g l x a r L w h hG hl hx).mono fun e w' h => ⟨h.1, h.2.1, h.2.2.1⟩
theorem token_walk_upTo.noK (B g : Nat) {ok : Nat → Prop} (l x : List UInt8) (L : List S40) (w : World) (h : WalkAt w B g ok (Tk.bs l) L) (hG : Glob w) (hl : l.length ≤ 1000000) (hx : Tk.upto x l = none) :
 Calls Try.prog 49 #[.pointer (some ⟨g, 0, none⟩), .string (Tk.bs x)] w fun e w' => e = .returned (.tuple #[.string (Tk.bs l), .bool false]) ∧ WalkAt w' B g ok (Tk.bs []) L ∧ Below B w w' ∧ KeepBut w w' g none := by
 have := token_walk_upTo.callsK B g l x L w h hG hl
 rwa [upto_none hx] at this
theorem token_walk_upTo.no (B g : Nat) {ok : Nat → Prop} (l x : List UInt8) (L : List S40) (w : World) (h : WalkAt w B g ok (Tk.bs l) L) (hG : Glob w) (hl : l.length ≤ 1000000) (hx : Tk.upto x l = none) :
 Calls Try.prog 49 #[.pointer (some ⟨g, 0, none⟩), .string (Tk.bs x)] w fun e w' => e = .returned (.tuple #[.string (Tk.bs l), .bool false]) ∧ WalkAt w' B g ok (Tk.bs []) L ∧ Below B w w' := (token_walk_upTo.noK B g l x L w h hG hl hx).mono fun e w' h => ⟨h.1, h.2.1, h.2.2.1⟩
theorem tw_at {p : UInt8 → Bool} : ∀ {l : List UInt8} {i : Nat} (h : i < (l.takeWhile p).length), ∃ h' : i < l.length, p l[i] = true
 | [], i, h => by simp at h
 | c :: r, i, h => by
  by_cases hc : p c = true
  ·rw [List.takeWhile_cons, if_pos hc] at h
   cases i with
   | zero => exact ⟨by simp, hc⟩
   | succ i =>
    obtain ⟨h', e⟩ := tw_at (l := r) (i := i) (by simpa using h)
    exact ⟨by simp; exact h', by simpa using e⟩
  ·rw [List.takeWhile_cons, if_neg hc] at h
   simp at h
theorem tw_end {p : UInt8 → Bool} : ∀ {l : List UInt8} (h : (l.takeWhile p).length < l.length), p l[(l.takeWhile p).length] = false
 | [], h => by simp at h
 | c :: r, h => by
  by_cases hc : p c = true
  ·have h2 : (r.takeWhile p).length < r.length := by
    rw [List.takeWhile_cons, if_pos hc] at h
    simpa using h
   have := tw_end h2
   simpa [List.takeWhile_cons, hc] using this
  ·simp [List.takeWhile_cons, hc]
theorem tw_le {p : UInt8 → Bool} (l : List UInt8) : (l.takeWhile p).length ≤ l.length := (List.takeWhile_sublist p).length_le
theorem dw_drop {p : UInt8 → Bool} : ∀ (l : List UInt8), l.dropWhile p = l.drop (l.takeWhile p).length
 | [] => rfl
 | c :: r => by
  by_cases hc : p c = true
  ·rw [List.dropWhile_cons, if_pos hc, List.takeWhile_cons, if_pos hc, List.length_cons, List.drop_succ_cons]
   exact dw_drop r
  ·rw [List.dropWhile_cons, if_neg hc, List.takeWhile_cons, if_neg hc]; rfl
theorem bs_bt (l : List UInt8) (i : Nat) (h : i < l.length) : bt (Tk.bs l) (i : Int) = (l[i].toNat : Int) := by
 unfold bt
 rw [dif_pos (by rw [bs_size]; simpa using h)]
 rfl
theorem bs_drop (l : List UInt8) (i : Nat) : (Tk.bs l).extract i (Tk.bs l).size = Tk.bs (l.drop i) := by
 have : ((Tk.bs l).extract i (Tk.bs l).size).data.toList = (Tk.bs (l.drop i)).data.toList := by
  rw [Lib.extract_data, bs_size]
  show (l.drop i).take (l.length - i) = l.drop i
  rw [List.take_of_length_le (by rw [List.length_drop]; omega)]
 cases h1 : (Tk.bs l).extract i (Tk.bs l).size with
 | mk d => rw [h1] at this; cases d; simp at this; subst this; rfl
theorem space_f (c : UInt8) : chars_Space.f (c.toNat : Int) = some (Tk.space c) := by
 unfold chars_Space.f Tk.space
 by_cases h1 : (c.toNat : Int) = 9
 ·have : c.toNat = 9 := by omega
  rw [if_pos h1, this]; rfl
 by_cases h2 : (c.toNat : Int) = 10
 ·have : c.toNat = 10 := by omega
  rw [if_neg h1, if_pos h2, this]; rfl
 by_cases h3 : (c.toNat : Int) = 13
 ·have : c.toNat = 13 := by omega
  rw [if_neg h1, if_neg h2, if_pos h3, this]; rfl
 rw [if_neg h1, if_neg h2, if_neg h3]
 congr 1
 rw [Bool.eq_iff_iff]
 simp only [beq_iff_eq, Bool.or_eq_true]
 omega
theorem token_walk_skip.callsK (B g : Nat) {ok : Nat → Prop} (l : List UInt8) (L : List S40) (w : World) (h : WalkAt w B g ok (Tk.bs l) L) (hG : Glob w) (hl : l.length ≤ 1000000) :
 Calls Try.prog 54 #[.pointer (some ⟨g, 0, none⟩)] w fun e w' => e = .returned (.bool (decide ((Tk.skip l).length < l.length))) ∧ WalkAt w' B g ok (Tk.bs (Tk.skip l)) L ∧ Below B w w' ∧ KeepBut w w' g none := by
 have hn := tw_le (p := Tk.space) l
 have hsk : Tk.skip l = l.drop (l.takeWhile Tk.space).length := dw_drop l
 have hin := fun i => tw_at (p := Tk.space) (l := l) (i := i)
 have hend := tw_end (p := Tk.space) (l := l)
 have hB := h.ge
 have hpos := h.pos
 obtain ⟨n0, hn0⟩ : ∃ n0, n0 = (l.takeWhile Tk.space).length := ⟨_, rfl⟩
 rw [← hn0] at hn hsk hin hend
 have hsz := bs_size l
 have hbt := bs_bt l
 have hdr := bs_drop l
 obtain ⟨s, hs⟩ : ∃ s, s = Tk.bs l := ⟨_, rfl⟩
 rw [← hs] at hsz hbt hdr h
 have HS := Lib.hid hs
 have HN := Lib.hid hn0
 have HSK := Lib.hid hsk
 have HIN := Lib.hid hin
 have HEND := Lib.hid hend
 have HSZ := Lib.hid hsz
 have HBT := Lib.hid hbt
 have HDR := Lib.hid hdr
 have H := Aside0.mk h
 have HG := Aside0.mk hG
 clear hs hn0 hsk hin hend hsz hbt hdr h hG
 go_enter Try.func54, Try.ntmps54
 go_wp2
 go_loopg [3] (n0 + 1) (fun gk v3 w' => ∃ (i : Nat) (x : Int), i ≤ n0 ∧ i + gk = n0 + 1 ∧ v3 = .int .i64 x ∧ Aside0 (x = (i : Int)) ∧ Aside0 (WalkAt w' B g ok s L) ∧ Aside0 (Below B w w') ∧ Aside0 (KeepBut w w' g none))
 case atStart => exact ⟨0, 0, by omega, by omega, rfl, ⟨rfl⟩, H, ⟨Below.refl _ _⟩, ⟨KeepBut.refl _ _ _⟩⟩
 clear H
 obtain ⟨i, x, hi, hgk, rfl, HX, H, HB, HK⟩ := hrel
 have c0 := H.out.cell0
 have f0 := H.out.frozen 0
 have hG1 : Glob wr := HG.out.below HB.out hpos
 by_cases hlt : i < n0
 ·obtain ⟨g1, rfl⟩ : ∃ g1, gk = g1 + 1 := ⟨gk - 1, by omega⟩
  obtain ⟨hil, hsp⟩ := HIN.out i hlt
  have hsz := HSZ.out
  have hxi := HX.out
  have d1 : decide (x < (s.size : Int)) = true := decide_eq_true (by omega)
  have p1 := eq_true (show 0 ≤ x by omega)
  have p2 := eq_true (show x < (s.size : Int) by omega)
  have hx := bt_at s x
  have hf : chars_Space.f (bt s x) = some true := by rw [hxi, HBT.out i hil, space_f, hsp]
  have HF := Aside0.mk hf
  have HG1 := Aside0.mk hG1
  have hw : wrap64 (x + 1) = ((i + 1 : Nat) : Int) := by unfold wrap64; omega
  have HW := Aside0.mk hw
  clear hsz hf hG1 hsp hxi hw
  go_wp2_with (first | (go_at_call 33; (with_reducible refine (chars_Space.calls (bt s x) true _ HG1.out HF.out).mono ?_); rintro e w1 ⟨rfl, ⟨nd, rfl⟩⟩))
  go_roundg g1
  case measure => omega
  case rel => exact ⟨i + 1, _, by omega, by omega, by first | rfl | (simp; done), HW, ⟨H.out.below (pw_below_drewN (Below.refl _ _) nd)⟩, ⟨pw_below_drewN HB.out nd⟩, ⟨keep_drewN HK.out nd⟩⟩
 obtain rfl : i = n0 := by omega
 have hsz := HSZ.out
 have hxi := HX.out
 have hskl : (Tk.skip l).length = l.length - i := by rw [HSK.out, List.length_drop]
 have HSL := Lib.hid hskl
 have hbl : Below B w (wr.setCell ⟨g, 0, none⟩ (.string (s.extract x.toNat s.size))) := HB.out.setCell (p := ⟨g, 0, none⟩) hB _
 have p1 := eq_true (show 0 ≤ x by omega)
 have p3 := eq_true (show x ≤ (s.size : Int) by omega)
 have p3' : decide (x ≤ (s.size : Int)) = true := decide_eq_true (by omega)
 have hex : s.extract x.toNat s.size = Tk.bs (Tk.skip l) := by rw [hxi, Int.toNat_natCast, HDR.out, HSK.out]
 have hres : decide (x > 0) = decide ((Tk.skip l).length < l.length) := by rw [hskl]; congr 1; rw [eq_iff_iff]; omega
 have HEX := Lib.hid hex
 have HR := Lib.hid hres
 by_cases hl2 : i < l.length
 rotate_left
 ·have d1 : decide (x < (s.size : Int)) = false := decide_eq_false (by omega)
  clear hsz hG1 hxi hskl hex hres
  go_wp2
  go_ret
  refine ⟨by rw [HR.out]; rfl, ?_, ?_⟩
  ·rw [← HEX.out]
   exact H.out.left _
  ·exact ⟨HB.out.setCell (p := ⟨g, 0, none⟩) hB _, HK.out.set_ 0 _⟩
 have hns := HEND.out hl2
 have d1 : decide (x < (s.size : Int)) = true := decide_eq_true (by omega)
 have p2 := eq_true (show x < (s.size : Int) by omega)
 have hx := bt_at s x
 have hf : chars_Space.f (bt s x) = some false := by rw [hxi, HBT.out i hl2, space_f, hns]
 have HF := Aside0.mk hf
 have HG1 := Aside0.mk hG1
 clear hsz hf hG1 hns hxi hskl hex hres
 go_wp2_with (first | (go_at_call 33; (with_reducible refine (chars_Space.calls (bt s x) false _ HG1.out HF.out).mono ?_); rintro e w1 ⟨rfl, ⟨nd, rfl⟩⟩))
 go_ret
 refine ⟨by rw [HR.out]; rfl, ?_, ?_⟩
 ·rw [← HEX.out]
  exact (H.out.below (pw_below_drewN (Below.refl _ _) nd)).left _
 ·exact ⟨(pw_below_drewN HB.out nd).setCell (p := ⟨g, 0, none⟩) hB _, (keep_drewN HK.out nd).set_ 0 _⟩
theorem token_walk_skip.calls (B g : Nat) {ok : Nat → Prop} (l : List UInt8) (L : List S40) (w : World) (h : WalkAt w B g ok (Tk.bs l) L) (hG : Glob w) (hl : l.length ≤ 1000000) :
 Calls Try.prog 54 #[.pointer (some ⟨g, 0, none⟩)] w fun e w' => e = .returned (.bool (decide ((Tk.skip l).length < l.length))) ∧ WalkAt w' B g ok (Tk.bs (Tk.skip l)) L ∧ Below B w w' := (token_walk_skip.callsK B g l L w h hG hl).mono fun e w' h => ⟨h.1, h.2.1, h.2.2.1⟩
def chars_first.f (a0 : Int) : Option (Bool) := if a0 ≥ 65 then (if a0 ≤ 90 then (some true) else (if a0 ≥ 97 then (if a0 ≤ 122 then (some true) else (some (a0 == 95))) else (some (a0 == 95)))) else (if a0 ≥ 97 then (if a0 ≤ 122 then (some true) else (some (a0 == 95))) else (some (a0 == 95)))
theorem chars_first.calls (a0 : Int) (r : Bool) (w : World) (hG : Glob w) (h : chars_first.f a0 = some r) :
 Calls Try.prog 72 #[.int .u8 a0] w fun e w' => e = .returned (.bool r) ∧ Drawn0 w w' := by
 have HG := Aside0.mk hG
 clear hG
 have H : (if a0 ≥ 65 then (if a0 ≤ 90 then (some true) else (if a0 ≥ 97 then (if a0 ≤ 122 then (some true) else (some (a0 == 95))) else (some (a0 == 95)))) else (if a0 ≥ 97 then (if a0 ≤ 122 then (some true) else (some (a0 == 95))) else (some (a0 == 95)))) = some r := h
 clear h
 by_cases c2 : a0 ≥ 65
 rotate_left
 ·rw [if_neg c2] at H
  have c2b0 := dF c2
  clear c2
  by_cases c6 : a0 ≥ 97
  rotate_left
  ·rw [if_neg c6] at H
   have c6b0 := dF c6
   clear c6
   obtain rfl := Option.some.inj H
   go_enter Try.func72, Try.ntmps72
   go_wp2
   go_ret
   exact ⟨by first | rfl | (simp; done) | (simp [*]; done), by repeat (first | exact Drawn0.refl _ | apply Drawn0.step)⟩
  rw [if_pos c6] at H
  have c6b0 := dT c6
  clear c6
  by_cases c7 : a0 ≤ 122
  rotate_left
  ·rw [if_neg c7] at H
   have c7b0 := dF c7
   clear c7
   obtain rfl := Option.some.inj H
   go_enter Try.func72, Try.ntmps72
   go_wp2
   go_ret
   exact ⟨by first | rfl | (simp; done) | (simp [*]; done), by repeat (first | exact Drawn0.refl _ | apply Drawn0.step)⟩
  rw [if_pos c7] at H
  have c7b0 := dT c7
  clear c7
  obtain rfl := Option.some.inj H
  go_enter Try.func72, Try.ntmps72
  go_wp2
  go_ret
  exact ⟨by first | rfl | (simp; done) | (simp [*]; done), by repeat (first | exact Drawn0.refl _ | apply Drawn0.step)⟩
 rw [if_pos c2] at H
 have c2b0 := dT c2
 clear c2
 by_cases c3 : a0 ≤ 90
 ·rw [if_pos c3] at H
  have c3b0 := dT c3
  clear c3
  obtain rfl := Option.some.inj H
  go_enter Try.func72, Try.ntmps72
  go_wp2
  go_ret
  exact ⟨by first | rfl | (simp; done) | (simp [*]; done), by repeat (first | exact Drawn0.refl _ | apply Drawn0.step)⟩
 rw [if_neg c3] at H
 have c3b0 := dF c3
 clear c3
 by_cases c4 : a0 ≥ 97
 rotate_left
 ·rw [if_neg c4] at H
  have c4b0 := dF c4
  clear c4
  obtain rfl := Option.some.inj H
  go_enter Try.func72, Try.ntmps72
  go_wp2
  go_ret
  exact ⟨by first | rfl | (simp; done) | (simp [*]; done), by repeat (first | exact Drawn0.refl _ | apply Drawn0.step)⟩
 rw [if_pos c4] at H
 have c4b0 := dT c4
 clear c4
 by_cases c5 : a0 ≤ 122
 rotate_left
 ·rw [if_neg c5] at H
  have c5b0 := dF c5
  clear c5
  obtain rfl := Option.some.inj H
  go_enter Try.func72, Try.ntmps72
  go_wp2
  go_ret
  exact ⟨by first | rfl | (simp; done) | (simp [*]; done), by repeat (first | exact Drawn0.refl _ | apply Drawn0.step)⟩
 rw [if_pos c5] at H
 have c5b0 := dT c5
 clear c5
 obtain rfl := Option.some.inj H
 go_enter Try.func72, Try.ntmps72
 go_wp2
 go_ret
 exact ⟨by first | rfl | (simp; done) | (simp [*]; done), by repeat (first | exact Drawn0.refl _ | apply Drawn0.step)⟩
def chars_Digit.f (a0 : Int) : Option (Bool) := if a0 ≥ 48 then (some (decide (a0 ≤ 57))) else (some false)
theorem chars_Digit.calls (a0 : Int) (r : Bool) (w : World) (hG : Glob w) (h : chars_Digit.f a0 = some r) :
 Calls Try.prog 81 #[.int .u8 a0] w fun e w' => e = .returned (.bool r) ∧ Drawn0 w w' := by
 have HG := Aside0.mk hG
 clear hG
 have H : (if a0 ≥ 48 then (some (decide (a0 ≤ 57))) else (some false)) = some r := h
 clear h
 by_cases c2 : a0 ≥ 48
 rotate_left
 ·rw [if_neg c2] at H
  have c2b0 := dF c2
  clear c2
  obtain rfl := Option.some.inj H
  go_enter Try.func81, Try.ntmps81
  go_wp2
  go_ret
  exact ⟨by first | rfl | (simp; done) | (simp [*]; done), by repeat (first | exact Drawn0.refl _ | apply Drawn0.step)⟩
 rw [if_pos c2] at H
 have c2b0 := dT c2
 clear c2
 obtain rfl := Option.some.inj H
 go_enter Try.func81, Try.ntmps81
 go_wp2
 go_ret
 exact ⟨by first | rfl | (simp; done) | (simp [*]; done), by repeat (first | exact Drawn0.refl _ | apply Drawn0.step)⟩
def chars_Within.f (a0 : Int) : Option (Bool) := (chars_first.f a0).bind fun t106 => (if t106 = true then (some true) else ((chars_Digit.f a0).bind fun t107 => (if t107 = true then (some true) else (if a0 = 45 then (some true) else (if a0 = 46 then (some true) else (some (a0 == 58)))))))
theorem chars_Within.calls (a0 : Int) (r : Bool) (w : World) (hG : Glob w) (h : chars_Within.f a0 = some r) :
 Calls Try.prog 73 #[.int .u8 a0] w fun e w' => e = .returned (.bool r) ∧ Drawn0 w w' := by
 have HG := Aside0.mk hG
 clear hG
 have H : ((chars_first.f a0).bind fun t106 => (if t106 = true then (some true) else ((chars_Digit.f a0).bind fun t107 => (if t107 = true then (some true) else (if a0 = 45 then (some true) else (if a0 = 46 then (some true) else (some (a0 == 58)))))))) = some r := h
 clear h
 replace H := bi H
 obtain ⟨t106, A20, H⟩ := H
 try dsimp only at H
 have A2 := Aside0.mk A20
 clear A20
 by_cases c3 : t106 = true
 ·subst c3
  have H1 : (some true) = some r := by rw [if_pos rfl] at H; exact H
  clear H
  have H := H1
  clear H1
  obtain rfl := Option.some.inj H
  go_enter Try.func73, Try.ntmps73
  go_wp2_with (first | (refine gl (some 4) Try.func72 #[.int .u8 a0] ?_; (with_reducible refine (chars_first.calls a0 true _ ?side1 A2.out).mono ?_); (case side1 => exact Glob.drawn HG.out (by repeat (first | exact Drawn0.refl _ | apply Drawn0.step))); rintro e w' ⟨rfl, ⟨nd, rfl⟩⟩; refine ⟨_, rfl, ?_⟩))
  go_ret
  exact ⟨by first | rfl | (simp; done) | (simp [*]; done), by repeat (first | exact Drawn0.refl _ | apply Drawn0.step)⟩
 replace c3 := Bool.eq_false_iff.mpr c3
 subst c3
 have H1 : ((chars_Digit.f a0).bind fun t107 => (if t107 = true then (some true) else (if a0 = 45 then (some true) else (if a0 = 46 then (some true) else (some (a0 == 58)))))) = some r := by rw [if_neg (show ¬ (false = true) by decide)] at H; exact H
 clear H
 have H := H1
 clear H1
 replace H := bi H
 obtain ⟨t107, A40, H⟩ := H
 try dsimp only at H
 have A4 := Aside0.mk A40
 clear A40
 by_cases c5 : t107 = true
 ·subst c5
  have H1 : (some true) = some r := by rw [if_pos rfl] at H; exact H
  clear H
  have H := H1
  clear H1
  obtain rfl := Option.some.inj H
  go_enter Try.func73, Try.ntmps73
  go_wp2_with (first | (refine gl (some 4) Try.func72 #[.int .u8 a0] ?_; (with_reducible refine (chars_first.calls a0 false _ ?side1 A2.out).mono ?_); (case side1 => exact Glob.drawn HG.out (by repeat (first | exact Drawn0.refl _ | apply Drawn0.step))); rintro e w' ⟨rfl, ⟨nd, rfl⟩⟩; refine ⟨_, rfl, ?_⟩) | (go_at_call 81; (with_reducible refine (chars_Digit.calls a0 true _ ?side1 A4.out).mono ?_); (case side1 => exact Glob.drawn HG.out (by repeat (first | exact Drawn0.refl _ | apply Drawn0.step))); rintro e w' ⟨rfl, ⟨nd, rfl⟩⟩))
  go_ret
  exact ⟨by first | rfl | (simp; done) | (simp [*]; done), by repeat (first | exact Drawn0.refl _ | apply Drawn0.step)⟩
 replace c5 := Bool.eq_false_iff.mpr c5
 subst c5
 have H1 : (if a0 = 45 then (some true) else (if a0 = 46 then (some true) else (some (a0 == 58)))) = some r := by rw [if_neg (show ¬ (false = true) by decide)] at H; exact H
 clear H
 have H := H1
 clear H1
 by_cases c6 : a0 = 45
 ·rw [if_pos c6] at H
  obtain ⟨c6b0, c6b1⟩ := eqT c6
  clear c6
  obtain rfl := Option.some.inj H
  go_enter Try.func73, Try.ntmps73
  go_wp2_with (first | (refine gl (some 4) Try.func72 #[.int .u8 a0] ?_; (with_reducible refine (chars_first.calls a0 false _ ?side1 A2.out).mono ?_); (case side1 => exact Glob.drawn HG.out (by repeat (first | exact Drawn0.refl _ | apply Drawn0.step))); rintro e w' ⟨rfl, ⟨nd, rfl⟩⟩; refine ⟨_, rfl, ?_⟩) | (go_at_call 81; (with_reducible refine (chars_Digit.calls a0 false _ ?side1 A4.out).mono ?_); (case side1 => exact Glob.drawn HG.out (by repeat (first | exact Drawn0.refl _ | apply Drawn0.step))); rintro e w' ⟨rfl, ⟨nd, rfl⟩⟩))
  go_ret
  exact ⟨by first | rfl | (simp; done) | (simp [*]; done), by repeat (first | exact Drawn0.refl _ | apply Drawn0.step)⟩
 rw [if_neg c6] at H
 obtain ⟨c6b0, c6b1⟩ := eqF c6
 by_cases c7 : a0 = 46
 rotate_left
 ·rw [if_neg c7] at H
  obtain ⟨c7b0, c7b1⟩ := eqF c7
  obtain rfl := Option.some.inj H
  go_enter Try.func73, Try.ntmps73
  go_wp2_with (first | (refine gl (some 4) Try.func72 #[.int .u8 a0] ?_; (with_reducible refine (chars_first.calls a0 false _ ?side1 A2.out).mono ?_); (case side1 => exact Glob.drawn HG.out (by repeat (first | exact Drawn0.refl _ | apply Drawn0.step))); rintro e w' ⟨rfl, ⟨nd, rfl⟩⟩; refine ⟨_, rfl, ?_⟩) | (go_at_call 81; (with_reducible refine (chars_Digit.calls a0 false _ ?side1 A4.out).mono ?_); (case side1 => exact Glob.drawn HG.out (by repeat (first | exact Drawn0.refl _ | apply Drawn0.step))); rintro e w' ⟨rfl, ⟨nd, rfl⟩⟩))
  go_ret
  exact ⟨by first | rfl | (simp; done) | (simp [*]; done), by repeat (first | exact Drawn0.refl _ | apply Drawn0.step)⟩
 rw [if_pos c7] at H
 obtain ⟨c7b0, c7b1⟩ := eqT c7
 clear c7
 obtain rfl := Option.some.inj H
 go_enter Try.func73, Try.ntmps73
 go_wp2_with (first | (refine gl (some 4) Try.func72 #[.int .u8 a0] ?_; (with_reducible refine (chars_first.calls a0 false _ ?side1 A2.out).mono ?_); (case side1 => exact Glob.drawn HG.out (by repeat (first | exact Drawn0.refl _ | apply Drawn0.step))); rintro e w' ⟨rfl, ⟨nd, rfl⟩⟩; refine ⟨_, rfl, ?_⟩) | (go_at_call 81; (with_reducible refine (chars_Digit.calls a0 false _ ?side1 A4.out).mono ?_); (case side1 => exact Glob.drawn HG.out (by repeat (first | exact Drawn0.refl _ | apply Drawn0.step))); rintro e w' ⟨rfl, ⟨nd, rfl⟩⟩))
 go_ret
 exact ⟨by first | rfl | (simp; done) | (simp [*]; done), by repeat (first | exact Drawn0.refl _ | apply Drawn0.step)⟩
mutual
def chars_Head.j0 : Nat → ByteArray → Bool → Option (ByteArray)
 | 0, _, _ => none
 | k + 1, x0, x11 => if x11 = true then (some (⟨#[]⟩ : ByteArray)) else (chars_Head.l0 k x0 1)
def chars_Head.l0 : Nat → ByteArray → Int → Option (ByteArray)
 | 0, _, _ => none
 | k + 1, x0, x3 => if x3 < (x0.size : Int) then (if 0 ≤ x3 then ((chars_Within.f (bt x0 x3)).bind fun t109 => (if t109 = true then (chars_Head.l0 k x0 (wrap64 (x3 + 1))) else (if x3 ≤ (x0.size : Int) then (some (x0.extract 0 (x3 : Int).toNat)) else (none)))) else (none)) else (if 0 ≤ x3 then (if x3 ≤ (x0.size : Int) then (some (x0.extract 0 (x3 : Int).toNat)) else (none)) else (none))
end
def chars_Head.f (k : Nat) (a0 : ByteArray) : Option (ByteArray) := if a0.toList = ([] : List UInt8) then (chars_Head.j0 k a0 true) else (if 0 < (a0.size : Int) then ((chars_first.f (bt a0 0)).bind fun t108 => (chars_Head.j0 k a0 (!t108))) else (none))
theorem chars_Head.calls (k : Nat) (a0 : ByteArray) (r : ByteArray) (w : World) (hG : Glob w) (h : chars_Head.f k a0 = some r) :
 Calls Try.prog 64 #[.string a0] w fun e w' => e = .returned (.string r) ∧ Drawn0 w w' := by
 have HG := Aside0.mk hG
 clear hG
 have H : (if a0.toList = ([] : List UInt8) then (chars_Head.j0 k a0 true) else (if 0 < (a0.size : Int) then ((chars_first.f (bt a0 0)).bind fun t108 => (chars_Head.j0 k a0 (!t108))) else (none))) = some r := h
 clear h
 have HS2 := Aside0.mk H
 clear H
 go_enter Try.func64, Try.ntmps64
 go_wp2
 refine wp_scope_loop 0 (by rfl) ?_
 have H := HS2.out
 clear HS2
 have HC3 := Aside0.mk H
 clear H
 go_upto_region 1 with (fail)
 go_cut [11] (fun v11 wc => ∃ (kq : Nat) (x11_2 : Bool), v11 = .bool x11_2 ∧ Aside0 (chars_Head.j0 kq a0 x11_2 = some r) ∧ Aside0 (kq ≤ k) ∧ Drawn0 w wc)
 case first =>
  have H := HC3.out
  clear HC3
  by_cases c4 : a0.toList = ([] : List UInt8)
  ·rw [if_pos c4] at H
   obtain ⟨c4b0, c4b1⟩ := eqT c4
   (try (have c4b2 : a0.toList.isEmpty = true := by simpa using c4))
   clear c4
   (first | rw [c4b0] | rw [c4b2] | (simp only [i64_w, i32_w]; rw [c4b0]) | skip)
   have H' := Aside0.mk H
   clear H
   go_wp2
   go_meet
   case rel => exact ⟨_, (true), cA, H', ⟨by first | omega | exact Nat.le_refl _⟩, by repeat (first | exact Drawn0.refl _ | apply Drawn0.step)⟩
  rw [if_neg c4] at H
  obtain ⟨c4b0, c4b1⟩ := eqF c4
  (try (have c4b2 : a0.toList.isEmpty = false := by simpa using c4))
  (first | rw [c4b0] | rw [c4b2] | (simp only [i64_w, i32_w]; rw [c4b0]) | skip)
  by_cases c5 : 0 < (a0.size : Int)
  rotate_left
  ·rw [if_neg c5] at H
   exact absurd H (by simp)
  rw [if_pos c5] at H
  have c5b0 := dT c5
  have c5b1 : decide (0 < a0.size) = true := decide_eq_true (by omega)
  clear c5
  replace H := bi H
  obtain ⟨t108, A70, H⟩ := H
  try dsimp only at H
  have A7 := Aside0.mk A70
  clear A70
  have H' := Aside0.mk H
  clear H
  have p6 : 0 ≤ (0 : Int) := (by omega)
  have q6 : 0 < a0.size := (by have : (0 : Int) < (a0.size : Int) := dA; omega)
  have hx6 : ∀ h : 0 < a0.size, ((a0[0]'h).toNat : Int) = bt a0 0 := bt_at a0 0
  clear p6
  have qi6 : (0 < (a0.size : Int)) = True := eq_true (dA)
  replace q6 := eq_true q6
  go_wp2_with (first | (go_at_call 72; (with_reducible refine (chars_first.calls (bt a0 0) t108 _ ?side1 A7.out).mono ?_); (case side1 => exact Glob.drawn HG.out (by repeat (first | exact Drawn0.refl _ | apply Drawn0.step))); rintro e w' ⟨rfl, ⟨nd, rfl⟩⟩))
  go_meet
  case rel => exact ⟨_, (!t108), cA, H', ⟨by first | omega | exact Nat.le_refl _⟩, by repeat (first | exact Drawn0.refl _ | apply Drawn0.step)⟩
 clear HC3
 try clear p2
 try clear c4
 try clear c4b0
 try clear c4b1
 try clear c4b2
 try clear c5
 try clear c5b0
 try clear c5b1
 try clear c6
 try clear p6
 try clear q6
 try clear hx6
 try clear qi6
 try clear p6
 try clear q6
 obtain ⟨kq, x11_2, rfl, HA, HJ2, ⟨mc2, rfl⟩⟩ := hcut
 cases kq with
 | zero => exact absurd HA.out (by simp [chars_Head.j0])
 | succ kj2 =>
  have H := HA.out
  clear HA
  simp only [chars_Head.j0] at H
  (try simp only [toList_lit] at H)
  by_cases c8 : x11_2 = true
  ·subst c8
   have H1 : (some (⟨#[]⟩ : ByteArray)) = some r := by rw [if_pos rfl] at H; exact H
   clear H
   have H := H1
   clear H1
   obtain rfl := Option.some.inj H
   go_wp2
   (try simp only [Exit.inBlock, Exit.then, jump_ret])
   go_ret
   exact ⟨by first | rfl | (simp; done) | (simp [*]; done), by repeat (first | exact Drawn0.refl _ | apply Drawn0.step)⟩
  replace c8 := Bool.eq_false_iff.mpr c8
  subst c8
  have H1 : (chars_Head.l0 kj2 a0 1) = some r := by rw [if_neg (show ¬ (false = true) by decide)] at H; exact H
  clear H
  have H := H1
  clear H1
  have H' := Aside0.mk H
  clear H
  go_wp2
  refine wp_label ?_
  rename_i hlb
  refine hlb _ _ ?_
  refine wp_at_label ?_
  refine LoopAt.intro (fun aB_ kq_ a1 w1 => ∃ (u2 u3 u12 u13 u14 u15 u16 u17 u18 u19 u20 u21 u22 u23 u24 u25 u26 : Value), (fun kq v3 w' => ∃ (x3_2 : Int), v3 = .int .i64 x3_2 ∧ Aside0 (chars_Head.l0 kq a0 x3_2 = some r) ∧ Aside0 (kq ≤ kj2) ∧ Drawn0 w w') kq_ u3 w1 ∧ a1 = (((((((((((((((((aB_.put (some 2) u2).put (some 3) u3).put (some 12) u12).put (some 13) u13).put (some 14) u14).put (some 15) u15).put (some 16) u16).put (some 17) u17).put (some 18) u18).put (some 19) u19).put (some 20) u20).put (some 21) u21).put (some 22) u22).put (some 23) u23).put (some 24) u24).put (some 25) u25).put (some 26) u26)) kj2 ?_ ?_
  ·(repeat apply Exists.intro)
   (try simp only [Act.put, List.setIfInBounds_toArray, List.set_cons_zero, List.set_cons_succ])
   refine ⟨?_, rfl⟩
   exact ⟨(1), cA, H', ⟨Nat.le_refl _⟩, by repeat (first | exact Drawn0.refl _ | apply Drawn0.step)⟩
  ·intro gk a1 wr hinv
   obtain ⟨u2, u3, u12, u13, u14, u15, u16, u17, u18, u19, u20, u21, u22, u23, u24, u25, u26, hrel, ha⟩ := hinv
   subst ha
   (try simp only [Act.put, List.setIfInBounds_toArray, List.set_cons_zero, List.set_cons_succ])
   intro Js0 Ks0 hJs0 hKs0
   clear H'
   try clear c2
   try clear p2
   try clear c4
   try clear c4b0
   try clear c4b1
   try clear c4b2
   try clear c5
   try clear c5b0
   try clear c5b1
   try clear c6
   try clear p6
   try clear q6
   try clear hx6
   try clear qi6
   try clear c8
   try clear p2
   try clear p6
   try clear q6
   obtain ⟨x3_2, rfl, HA, HK2, ⟨m2, rfl⟩⟩ := hrel
   cases gk with
   | zero => exact absurd HA.out (by simp [chars_Head.l0])
   | succ k2 =>
    have H := HA.out
    clear HA
    simp only [chars_Head.l0] at H
    by_cases c9 : x3_2 < (a0.size : Int)
    rotate_left
    ·rw [if_neg c9] at H
     have c9b0 := dF c9
     clear c9
     by_cases c16 : 0 ≤ x3_2
     rotate_left
     ·rw [if_neg c16] at H
      exact absurd H (by simp)
     rw [if_pos c16] at H
     have c16b0 := eq_true c16
     have c16b1 := dT c16
     clear c16
     by_cases c17 : x3_2 ≤ (a0.size : Int)
     rotate_left
     ·rw [if_neg c17] at H
      exact absurd H (by simp)
     rw [if_pos c17] at H
     have c17b0 := eq_true c17
     have c17b1 := dT c17
     clear c17
     obtain rfl := Option.some.inj H
     go_wp2
     (try simp only [Exit.inBlock, Exit.then, jump_ret])
     go_ret
     exact ⟨by first | rfl | (simp; done) | (simp [*]; done), by repeat (first | exact Drawn0.refl _ | apply Drawn0.step)⟩
    rw [if_pos c9] at H
    have c9b0 := dT c9
    clear c9
    by_cases c10 : 0 ≤ x3_2
    rotate_left
    ·rw [if_neg c10] at H
     exact absurd H (by simp)
    rw [if_pos c10] at H
    have c10b0 := dT c10
    clear c10
    replace H := bi H
    obtain ⟨t109, A120, H⟩ := H
    try dsimp only at H
    have A12 := Aside0.mk A120
    clear A120
    by_cases c13 : t109 = true
    ·subst c13
     have H1 : (chars_Head.l0 k2 a0 (wrap64 (x3_2 + 1))) = some r := by rw [if_pos rfl] at H; exact H
     clear H
     have H := H1
     clear H1
     have H' := Aside0.mk H
     clear H
     have p11 : 0 ≤ (x3_2 : Int) := dA
     have q11 : x3_2 < (a0.size : Int) := dA
     have hx11 := bt_at a0 x3_2
     replace p11 := eq_true p11
     replace q11 := eq_true q11
     go_wp2_with (first | (go_at_call 73; (with_reducible refine (chars_Within.calls (bt a0 x3_2) true _ ?side1 A12.out).mono ?_); (case side1 => exact Glob.drawn HG.out (by repeat (first | exact Drawn0.refl _ | apply Drawn0.step))); rintro e w' ⟨rfl, ⟨nd, rfl⟩⟩))
     refine wp_goto (And.intro rfl ?_)
     refine hKs0 _ _ ?_
     go_roundg k2
     case measure => have := HJ2.out; have := HK2.out; omega
     case rel => exact ⟨(wrap64 (x3_2 + 1)), cA, H', ⟨by have := HJ2.out; have := HK2.out; omega⟩, by repeat (first | exact Drawn0.refl _ | apply Drawn0.step)⟩
    replace c13 := Bool.eq_false_iff.mpr c13
    subst c13
    have H1 : (if x3_2 ≤ (a0.size : Int) then (some (a0.extract 0 (x3_2 : Int).toNat)) else (none)) = some r := by rw [if_neg (show ¬ (false = true) by decide)] at H; exact H
    clear H
    have H := H1
    clear H1
    have c14b0 := eq_true (dA : 0 ≤ x3_2)
    by_cases c15 : x3_2 ≤ (a0.size : Int)
    rotate_left
    ·rw [if_neg c15] at H
     exact absurd H (by simp)
    rw [if_pos c15] at H
    have c15b0 := eq_true c15
    have c15b1 := dT c15
    clear c15
    obtain rfl := Option.some.inj H
    have p11 : 0 ≤ (x3_2 : Int) := dA
    have q11 : x3_2 < (a0.size : Int) := dA
    have hx11 := bt_at a0 x3_2
    replace p11 := eq_true p11
    replace q11 := eq_true q11
    go_wp2_with (first | (go_at_call 73; (with_reducible refine (chars_Within.calls (bt a0 x3_2) false _ ?side1 A12.out).mono ?_); (case side1 => exact Glob.drawn HG.out (by repeat (first | exact Drawn0.refl _ | apply Drawn0.step))); rintro e w' ⟨rfl, ⟨nd, rfl⟩⟩))
    (try simp only [Exit.inBlock, Exit.then, jump_ret])
    go_ret
    exact ⟨by first | rfl | (simp; done) | (simp [*]; done), by repeat (first | exact Drawn0.refl _ | apply Drawn0.step)⟩
theorem first_f (c : UInt8) : chars_first.f (c.toNat : Int) = some (Tk.letter c) := Tk.bytes_all (by kernel_rfl) c
theorem within_f (c : UInt8) : chars_Within.f (c.toNat : Int) = some (Tk.within c) := Tk.bytes_all (by kernel_rfl) c
theorem bs_take (l : List UInt8) (i : Nat) : (Tk.bs l).extract 0 i = Tk.bs (l.take i) := by
 have : ((Tk.bs l).extract 0 i).data.toList = (Tk.bs (l.take i)).data.toList := by
  rw [Lib.extract_data]
  show (l.drop 0).take (i - 0) = l.take i
  rw [List.drop_zero, Nat.sub_zero]
 cases h1 : (Tk.bs l).extract 0 i with
 | mk d => rw [h1] at this; cases d; simp at this; subst this; rfl
theorem bs_toList (l : List UInt8) : (Tk.bs l).toList = l := Lib.toList_data _
theorem head_loop (c : UInt8) (r : List UInt8) (hl : r.length ≤ 1000000) : ∀ (d i : Nat), i + d = (r.takeWhile Tk.within).length → chars_Head.l0 (d + 1) (Tk.bs (c :: r)) ((i + 1 : Nat) : Int) = some (Tk.bs (c :: r.takeWhile Tk.within)) := by
 have hsz := bs_size (c :: r)
 rw [List.length_cons] at hsz
 have hle := tw_le (p := Tk.within) r
 have hfin : ∀ i, i = (r.takeWhile Tk.within).length → (Tk.bs (c :: r)).extract 0 (((i + 1 : Nat) : Int)).toNat = Tk.bs (c :: r.takeWhile Tk.within) := by
  intro i hi
  rw [Int.toNat_natCast, bs_take, hi, List.take_succ_cons]
  congr 2
  conv => lhs; arg 2; rw [← List.takeWhile_append_dropWhile (p := Tk.within) (l := r)]
  exact List.take_left
 intro d
 induction d with
 | zero =>
  intro i hi
  rw [Nat.add_zero] at hi
  rw [chars_Head.l0]
  by_cases hlt : i < r.length
  rotate_left
  ·rw [if_neg (by omega), if_pos (by omega), if_pos (by omega), hfin i hi]
  rw [if_pos (by omega), if_pos (by omega), bs_bt _ (i + 1) (by rw [List.length_cons]; omega), within_f]
  have hend := tw_end (p := Tk.within) (l := r) (by omega)
  have hq : Tk.within ((c :: r)[i + 1]'(by rw [List.length_cons]; omega)) = false := by
   rw [List.getElem_cons_succ]
   subst hi
   exact hend
  rw [hq, Option.bind_some, if_neg (by decide), if_pos (by omega), hfin i hi]
 | succ d ih =>
  intro i hi
  obtain ⟨hil, hw⟩ := tw_at (p := Tk.within) (l := r) (i := i) (by omega)
  rw [chars_Head.l0, if_pos (by omega), if_pos (by omega), bs_bt _ (i + 1) (by rw [List.length_cons]; omega), within_f]
  rw [show Tk.within ((c :: r)[i + 1]'(by rw [List.length_cons]; omega)) = true from by rw [List.getElem_cons_succ]; exact hw]
  rw [Option.bind_some, if_pos (show true = true from rfl)]
  have := ih (i + 1) (by omega)
  rw [show wrap64 (((i + 1 : Nat) : Int) + 1) = ((i + 1 + 1 : Nat) : Int) from by unfold wrap64; omega]
  exact this
theorem head_told (l : List UInt8) (hl : l.length ≤ 1000000) : ∃ k, chars_Head.f k (Tk.bs l) = some (Tk.bs (Tk.head l)) := by
 cases l with
 | nil => exact ⟨1, by kernel_rfl⟩
 | cons c r =>
  refine ⟨(r.takeWhile Tk.within).length + 2, ?_⟩
  rw [List.length_cons] at hl
  unfold chars_Head.f Tk.head
  rw [bs_toList, if_neg (by simp), bs_size, if_pos (by rw [List.length_cons]; omega)]
  rw [show (0 : Int) = ((0 : Nat) : Int) from rfl, bs_bt _ 0 (by simp), first_f]
  rw [Option.bind_some]
  show chars_Head.j0 _ _ (!Tk.letter c) = _
  rw [chars_Head.j0]
  by_cases hc : Tk.letter c = true
  ·rw [hc, if_neg (by decide)]
   show _ = some (Tk.bs (if Tk.letter c = true then _ else []))
   rw [if_pos hc]
   exact head_loop c r (by omega) (r.takeWhile Tk.within).length 0 (by omega)
  ·rw [Bool.eq_false_iff.2 hc, if_pos (by decide)]
   show _ = some (Tk.bs (if Tk.letter c = true then _ else []))
   rw [if_neg hc]; rfl
theorem head_pre (l : List UInt8) : Tk.head l = l.take (Tk.head l).length := by
 cases l with
 | nil => rfl
 | cons c r =>
  show (if Tk.letter c = true then c :: r.takeWhile Tk.within else []) = (c :: r).take (if Tk.letter c = true then c :: r.takeWhile Tk.within else []).length
  by_cases hc : Tk.letter c = true
  ·rw [if_pos hc, List.length_cons, List.take_succ_cons]
   congr 1
   conv => rhs; arg 2; rw [← List.takeWhile_append_dropWhile (p := Tk.within) (l := r)]
   exact List.take_left.symm
  ·rw [if_neg hc]; rfl
theorem head_le (l : List UInt8) : (Tk.head l).length ≤ l.length := by
 conv => lhs; rw [head_pre l]
 rw [List.length_take]; omega
theorem token_walk_name.callsK (B g : Nat) {ok : Nat → Prop} (l : List UInt8) (L : List S40) (w : World) (h : WalkAt w B g ok (Tk.bs l) L) (hG : Glob w) (hl : l.length ≤ 1000000) :
 Calls Try.prog 53 #[.pointer (some ⟨g, 0, none⟩)] w fun e w' => e = .returned (.string (Tk.bs (Tk.head l))) ∧ WalkAt w' B g ok (Tk.bs (l.drop (Tk.head l).length)) L ∧ Below B w w' ∧ KeepBut w w' g none := by
 obtain ⟨k, hk⟩ := head_told l hl
 have hle := head_le l
 have hB := h.ge
 have hsz := bs_size l
 have hsn := bs_size (Tk.head l)
 have hdr := bs_drop l (Tk.head l).length
 obtain ⟨s, hs⟩ : ∃ s, s = Tk.bs l := ⟨_, rfl⟩
 obtain ⟨nm, hnm⟩ : ∃ nm, nm = Tk.bs (Tk.head l) := ⟨_, rfl⟩
 rw [← hs] at hsz hdr h hk
 rw [← hnm] at hsn hk
 have c0 := h.cell0
 have f0 := h.frozen 0
 have HK := Aside0.mk hk
 have HS := Lib.hid hs
 have HNM := Lib.hid hnm
 have HDR := Lib.hid hdr
 have hle2 : (nm.size : Int) ≤ (s.size : Int) := by omega
 have p3 := eq_true hle2
 have p3' : decide ((nm.size : Int) ≤ (s.size : Int)) = true := decide_eq_true hle2
 have p4 : (nm.size ≤ s.size) = True := eq_true (by omega)
 have HSN := Lib.hid hsn
 have H := Aside0.mk h
 have HG := Aside0.mk hG
 clear hs hnm hdr hk hsz hsn h hle hG hle2
 go_enter Try.func53, Try.ntmps53
 go_wp2_with (first | (go_at_call 64; (with_reducible refine (chars_Head.calls k s nm _ HG.out HK.out).mono ?_); rintro e w1 ⟨rfl, ⟨nd, rfl⟩⟩))
 go_ret
 refine ⟨by rw [HNM.out]; rfl, ?_, ?_⟩
 ·have := (H.out.below (pw_below_drewN (Below.refl _ _) nd)).left (s.extract nm.size s.size)
  rw [← HDR.out, ← HSN.out]
  exact this
 ·exact ⟨(pw_below_drewN (Below.refl _ _) nd).setCell (p := ⟨g, 0, none⟩) hB _, (keep_drewN (KeepBut.refl _ _ _) nd).set_ 0 _⟩
theorem token_walk_name.calls (B g : Nat) {ok : Nat → Prop} (l : List UInt8) (L : List S40) (w : World) (h : WalkAt w B g ok (Tk.bs l) L) (hG : Glob w) (hl : l.length ≤ 1000000) :
 Calls Try.prog 53 #[.pointer (some ⟨g, 0, none⟩)] w fun e w' => e = .returned (.string (Tk.bs (Tk.head l))) ∧ WalkAt w' B g ok (Tk.bs (l.drop (Tk.head l).length)) L ∧ Below B w w' := (token_walk_name.callsK B g l L w h hG hl).mono fun e w' h => ⟨h.1, h.2.1, h.2.2.1⟩
mutual
def token_digit.j0 : Nat → Int → Int → Int → Bool → Option (Int)
 | 0, _, _, _, _ => none
 | k + 1, x0, x1, x5, x12 => if x12 = true then (if (((x0 - 97) % 256) + 10) ≥ x1 then (some (-1)) else (some (((x0 - 97) % 256) + 10))) else (if x0 ≥ 65 then (token_digit.j1 k x0 x1 x5 (decide (x0 ≤ 70))) else (token_digit.j1 k x0 x1 x5 false))
def token_digit.j1 : Nat → Int → Int → Int → Bool → Option (Int)
 | 0, _, _, _, _ => none
 | k + 1, x0, x1, x5, x23 => if x23 = true then (if (((x0 - 65) % 256) + 10) ≥ x1 then (some (-1)) else (some (((x0 - 65) % 256) + 10))) else (if x5 ≥ x1 then (some (-1)) else (some x5))
end
def token_digit.f (k : Nat) (a0 : Int) (a1 : Int) : Option (Int) := (chars_Digit.f a0).bind fun t111 => (if t111 = true then (if ((a0 - 48) % 256) ≥ a1 then (some (-1)) else (some ((a0 - 48) % 256))) else (if a0 ≥ 97 then (token_digit.j0 k a0 a1 (-1) (decide (a0 ≤ 102))) else (token_digit.j0 k a0 a1 (-1) false)))
theorem token_digit.calls (k : Nat) (a0 : Int) (a1 : Int) (r : Int) (w : World) (hG : Glob w) (h : token_digit.f k a0 a1 = some r) :
 Calls Try.prog 82 #[.int .u8 a0, .int .i64 a1] w fun e w' => e = .returned (.int .i64 r) ∧ Drawn0 w w' := by
 have HG := Aside0.mk hG
 clear hG
 have H : ((chars_Digit.f a0).bind fun t111 => (if t111 = true then (if ((a0 - 48) % 256) ≥ a1 then (some (-1)) else (some ((a0 - 48) % 256))) else (if a0 ≥ 97 then (token_digit.j0 k a0 a1 (-1) (decide (a0 ≤ 102))) else (token_digit.j0 k a0 a1 (-1) false)))) = some r := h
 clear h
 replace H := bi H
 obtain ⟨t111, A30, H⟩ := H
 try dsimp only at H
 have A3 := Aside0.mk A30
 clear A30
 by_cases c4 : t111 = true
 ·subst c4
  have H1 : (if ((a0 - 48) % 256) ≥ a1 then (some (-1)) else (some ((a0 - 48) % 256))) = some r := by rw [if_pos rfl] at H; exact H
  clear H
  have H := H1
  clear H1
  by_cases c5 : ((a0 - 48) % 256) ≥ a1
  rotate_left
  ·rw [if_neg c5] at H
   have c5b0 := dF c5
   clear c5
   obtain rfl := Option.some.inj H
   go_enter Try.func82, Try.ntmps82
   go_wp2_with (first | (refine gl (some 8) Try.func81 #[.int .u8 a0] ?_; (with_reducible refine (chars_Digit.calls a0 true _ ?side1 A3.out).mono ?_); (case side1 => exact Glob.drawn HG.out (by repeat (first | exact Drawn0.refl _ | apply Drawn0.step))); rintro e w' ⟨rfl, ⟨nd, rfl⟩⟩; refine ⟨_, rfl, ?_⟩))
   go_ret
   exact ⟨by first | rfl | (simp; done) | (simp [*]; done), by repeat (first | exact Drawn0.refl _ | apply Drawn0.step)⟩
  rw [if_pos c5] at H
  have c5b0 := dT c5
  clear c5
  obtain rfl := Option.some.inj H
  go_enter Try.func82, Try.ntmps82
  go_wp2_with (first | (refine gl (some 8) Try.func81 #[.int .u8 a0] ?_; (with_reducible refine (chars_Digit.calls a0 true _ ?side1 A3.out).mono ?_); (case side1 => exact Glob.drawn HG.out (by repeat (first | exact Drawn0.refl _ | apply Drawn0.step))); rintro e w' ⟨rfl, ⟨nd, rfl⟩⟩; refine ⟨_, rfl, ?_⟩))
  go_ret
  exact ⟨by first | rfl | (simp; done) | (simp [*]; done), by repeat (first | exact Drawn0.refl _ | apply Drawn0.step)⟩
 replace c4 := Bool.eq_false_iff.mpr c4
 subst c4
 have H1 : (if a0 ≥ 97 then (token_digit.j0 k a0 a1 (-1) (decide (a0 ≤ 102))) else (token_digit.j0 k a0 a1 (-1) false)) = some r := by rw [if_neg (show ¬ (false = true) by decide)] at H; exact H
 clear H
 have H := H1
 clear H1
 have HC6 := Aside0.mk H
 clear H
 go_enter Try.func82, Try.ntmps82
 go_upto_region 4 with (first | (refine gl (some 8) Try.func81 #[.int .u8 a0] ?_; (with_reducible refine (chars_Digit.calls a0 false _ ?side1 A3.out).mono ?_); (case side1 => exact Glob.drawn HG.out (by repeat (first | exact Drawn0.refl _ | apply Drawn0.step))); rintro e w' ⟨rfl, ⟨nd, rfl⟩⟩; refine ⟨_, rfl, ?_⟩))
 (try simp only [Act.put, List.setIfInBounds_toArray, List.set_cons_zero, List.set_cons_succ])
 go_cut [12] (fun v12 wc => ∃ (kq : Nat) (x12_5 : Bool), v12 = .bool x12_5 ∧ Aside0 (token_digit.j0 kq a0 a1 (-1) x12_5 = some r) ∧ Aside0 (kq ≤ k) ∧ Drawn0 w wc)
 case first =>
  have H := HC6.out
  clear HC6
  by_cases c7 : a0 ≥ 97
  rotate_left
  ·rw [if_neg c7] at H
   have c7b0 := dF c7
   clear c7
   (first | rw [c7b0] | (simp only [i64_w, i32_w]; rw [c7b0]) | skip)
   have H' := Aside0.mk H
   clear H
   go_wp2
   go_meet
   case rel => exact ⟨_, (false), cA, H', ⟨by first | omega | exact Nat.le_refl _⟩, by repeat (first | exact Drawn0.refl _ | apply Drawn0.step)⟩
  rw [if_pos c7] at H
  have c7b0 := dT c7
  clear c7
  (first | rw [c7b0] | (simp only [i64_w, i32_w]; rw [c7b0]) | skip)
  have H' := Aside0.mk H
  clear H
  go_wp2
  go_meet
  case rel => exact ⟨_, (decide (a0 ≤ 102)), cA, H', ⟨by first | omega | exact Nat.le_refl _⟩, by repeat (first | exact Drawn0.refl _ | apply Drawn0.step)⟩
 clear HC6
 try clear p2
 try clear c4
 try clear c5
 try clear c5b0
 try clear c7
 try clear c7b0
 obtain ⟨kq, x12_5, rfl, HA, HJ5, ⟨mc5, rfl⟩⟩ := hcut
 cases kq with
 | zero => exact absurd HA.out (by simp [token_digit.j0])
 | succ kj5 =>
  have H := HA.out
  clear HA
  simp only [token_digit.j0] at H
  by_cases c8 : x12_5 = true
  ·subst c8
   have H1 : (if (((a0 - 97) % 256) + 10) ≥ a1 then (some (-1)) else (some (((a0 - 97) % 256) + 10))) = some r := by rw [if_pos rfl] at H; exact H
   clear H
   have H := H1
   clear H1
   by_cases c9 : (((a0 - 97) % 256) + 10) ≥ a1
   rotate_left
   ·rw [if_neg c9] at H
    have c9b0 := dF c9
    clear c9
    obtain rfl := Option.some.inj H
    go_wp2
    go_ret
    exact ⟨by first | rfl | (simp; done) | (simp [*]; done), by repeat (first | exact Drawn0.refl _ | apply Drawn0.step)⟩
   rw [if_pos c9] at H
   have c9b0 := dT c9
   clear c9
   obtain rfl := Option.some.inj H
   go_wp2
   go_ret
   exact ⟨by first | rfl | (simp; done) | (simp [*]; done), by repeat (first | exact Drawn0.refl _ | apply Drawn0.step)⟩
  replace c8 := Bool.eq_false_iff.mpr c8
  subst c8
  have H1 : (if a0 ≥ 65 then (token_digit.j1 kj5 a0 a1 (-1) (decide (a0 ≤ 70))) else (token_digit.j1 kj5 a0 a1 (-1) false)) = some r := by rw [if_neg (show ¬ (false = true) by decide)] at H; exact H
  clear H
  have H := H1
  clear H1
  have HC10 := Aside0.mk H
  clear H
  go_upto_region 6 with (fail)
  go_cut [23] (fun v23 wc => ∃ (kq : Nat) (x23_9 : Bool), v23 = .bool x23_9 ∧ Aside0 (token_digit.j1 kq a0 a1 (-1) x23_9 = some r) ∧ Aside0 (kq ≤ kj5) ∧ Drawn0 w wc)
  case first =>
   have H := HC10.out
   clear HC10
   by_cases c11 : a0 ≥ 65
   rotate_left
   ·rw [if_neg c11] at H
    have c11b0 := dF c11
    clear c11
    (first | rw [c11b0] | (simp only [i64_w, i32_w]; rw [c11b0]) | skip)
    have H' := Aside0.mk H
    clear H
    go_wp2
    go_meet
    case rel => exact ⟨_, (false), cA, H', ⟨by have := HJ5.out; first | omega | exact Nat.le_refl _⟩, by repeat (first | exact Drawn0.refl _ | apply Drawn0.step)⟩
   rw [if_pos c11] at H
   have c11b0 := dT c11
   clear c11
   (first | rw [c11b0] | (simp only [i64_w, i32_w]; rw [c11b0]) | skip)
   have H' := Aside0.mk H
   clear H
   go_wp2
   go_meet
   case rel => exact ⟨_, (decide (a0 ≤ 70)), cA, H', ⟨by have := HJ5.out; first | omega | exact Nat.le_refl _⟩, by repeat (first | exact Drawn0.refl _ | apply Drawn0.step)⟩
  clear HC10
  try clear c1
  try clear p2
  try clear c4
  try clear c5
  try clear c5b0
  try clear c7
  try clear c7b0
  try clear c8
  try clear c9
  try clear c9b0
  try clear c11
  try clear c11b0
  try clear p2
  obtain ⟨kq, x23_9, rfl, HA, HJ9, ⟨mc9, rfl⟩⟩ := hcut
  cases kq with
  | zero => exact absurd HA.out (by simp [token_digit.j1])
  | succ kj9 =>
   have H := HA.out
   clear HA
   simp only [token_digit.j1] at H
   by_cases c12 : x23_9 = true
   ·subst c12
    have H1 : (if (((a0 - 65) % 256) + 10) ≥ a1 then (some (-1)) else (some (((a0 - 65) % 256) + 10))) = some r := by rw [if_pos rfl] at H; exact H
    clear H
    have H := H1
    clear H1
    by_cases c13 : (((a0 - 65) % 256) + 10) ≥ a1
    rotate_left
    ·rw [if_neg c13] at H
     have c13b0 := dF c13
     clear c13
     obtain rfl := Option.some.inj H
     go_wp2
     go_ret
     exact ⟨by first | rfl | (simp; done) | (simp [*]; done), by repeat (first | exact Drawn0.refl _ | apply Drawn0.step)⟩
    rw [if_pos c13] at H
    have c13b0 := dT c13
    clear c13
    obtain rfl := Option.some.inj H
    go_wp2
    go_ret
    exact ⟨by first | rfl | (simp; done) | (simp [*]; done), by repeat (first | exact Drawn0.refl _ | apply Drawn0.step)⟩
   replace c12 := Bool.eq_false_iff.mpr c12
   subst c12
   have H1 : (if (-1) ≥ a1 then (some (-1)) else (some (-1))) = some r := by rw [if_neg (show ¬ (false = true) by decide)] at H; exact H
   clear H
   have H := H1
   clear H1
   by_cases c14 : (-1) ≥ a1
   rotate_left
   ·rw [if_neg c14] at H
    have c14b0 := dF c14
    clear c14
    obtain rfl := Option.some.inj H
    go_wp2
    go_ret
    exact ⟨by first | rfl | (simp; done) | (simp [*]; done), by repeat (first | exact Drawn0.refl _ | apply Drawn0.step)⟩
   rw [if_pos c14] at H
   have c14b0 := dT c14
   clear c14
   obtain rfl := Option.some.inj H
   go_wp2
   go_ret
   exact ⟨by first | rfl | (simp; done) | (simp [*]; done), by repeat (first | exact Drawn0.refl _ | apply Drawn0.step)⟩
def token_may.f (a0 : Int) : Option (Bool) := if a0 = 9 then (some true) else (if a0 = 10 then (some true) else (if a0 = 13 then (some true) else (if a0 ≥ 32 then (if a0 ≤ 1114111 then (if a0 < 55296 then (some true) else (some (decide (a0 > 57343)))) else (some false)) else (some false))))
theorem token_may.calls (a0 : Int) (r : Bool) (w : World) (hG : Glob w) (h : token_may.f a0 = some r) :
 Calls Try.prog 83 #[.int .i64 a0] w fun e w' => e = .returned (.bool r) ∧ Drawn0 w w' := by
 have HG := Aside0.mk hG
 clear hG
 have H : (if a0 = 9 then (some true) else (if a0 = 10 then (some true) else (if a0 = 13 then (some true) else (if a0 ≥ 32 then (if a0 ≤ 1114111 then (if a0 < 55296 then (some true) else (some (decide (a0 > 57343)))) else (some false)) else (some false))))) = some r := h
 clear h
 by_cases c2 : a0 = 9
 ·rw [if_pos c2] at H
  obtain ⟨c2b0, c2b1⟩ := eqT c2
  clear c2
  obtain rfl := Option.some.inj H
  go_enter Try.func83, Try.ntmps83
  go_wp2
  go_ret
  exact ⟨by first | rfl | (simp; done) | (simp [*]; done), by repeat (first | exact Drawn0.refl _ | apply Drawn0.step)⟩
 rw [if_neg c2] at H
 obtain ⟨c2b0, c2b1⟩ := eqF c2
 by_cases c3 : a0 = 10
 ·rw [if_pos c3] at H
  obtain ⟨c3b0, c3b1⟩ := eqT c3
  clear c3
  obtain rfl := Option.some.inj H
  go_enter Try.func83, Try.ntmps83
  go_wp2
  go_ret
  exact ⟨by first | rfl | (simp; done) | (simp [*]; done), by repeat (first | exact Drawn0.refl _ | apply Drawn0.step)⟩
 rw [if_neg c3] at H
 obtain ⟨c3b0, c3b1⟩ := eqF c3
 by_cases c4 : a0 = 13
 ·rw [if_pos c4] at H
  obtain ⟨c4b0, c4b1⟩ := eqT c4
  clear c4
  obtain rfl := Option.some.inj H
  go_enter Try.func83, Try.ntmps83
  go_wp2
  go_ret
  exact ⟨by first | rfl | (simp; done) | (simp [*]; done), by repeat (first | exact Drawn0.refl _ | apply Drawn0.step)⟩
 rw [if_neg c4] at H
 obtain ⟨c4b0, c4b1⟩ := eqF c4
 by_cases c5 : a0 ≥ 32
 rotate_left
 ·rw [if_neg c5] at H
  have c5b0 := dF c5
  clear c5
  obtain rfl := Option.some.inj H
  go_enter Try.func83, Try.ntmps83
  go_wp2
  go_ret
  exact ⟨by first | rfl | (simp; done) | (simp [*]; done), by repeat (first | exact Drawn0.refl _ | apply Drawn0.step)⟩
 rw [if_pos c5] at H
 have c5b0 := dT c5
 clear c5
 by_cases c6 : a0 ≤ 1114111
 rotate_left
 ·rw [if_neg c6] at H
  have c6b0 := dF c6
  clear c6
  obtain rfl := Option.some.inj H
  go_enter Try.func83, Try.ntmps83
  go_wp2
  go_ret
  exact ⟨by first | rfl | (simp; done) | (simp [*]; done), by repeat (first | exact Drawn0.refl _ | apply Drawn0.step)⟩
 rw [if_pos c6] at H
 have c6b0 := dT c6
 clear c6
 by_cases c7 : a0 < 55296
 rotate_left
 ·rw [if_neg c7] at H
  have c7b0 := dF c7
  clear c7
  obtain rfl := Option.some.inj H
  go_enter Try.func83, Try.ntmps83
  go_wp2
  go_ret
  exact ⟨by first | rfl | (simp; done) | (simp [*]; done), by repeat (first | exact Drawn0.refl _ | apply Drawn0.step)⟩
 rw [if_pos c7] at H
 have c7b0 := dT c7
 clear c7
 obtain rfl := Option.some.inj H
 go_enter Try.func83, Try.ntmps83
 go_wp2
 go_ret
 exact ⟨by first | rfl | (simp; done) | (simp [*]; done), by repeat (first | exact Drawn0.refl _ | apply Drawn0.step)⟩
def numB (base : Nat) (l : List UInt8) : List UInt8 × Bool := match Tk.numbered base l with
 | some c => (c, true)
 | none => ([], false)
theorem digit_16 (c : UInt8) : token_digit.f 3 (c.toNat : Int) 16 = some (match Tk.digitOf 16 c with | some n => (n : Int) | none => -1) := Tk.bytes_all (f := fun x => token_digit.f 3 x 16) (g := fun c => match Tk.digitOf 16 c with | some n => (n : Int) | none => -1) (by kernel_rfl) c
theorem digit_10 (c : UInt8) : token_digit.f 3 (c.toNat : Int) 10 = some (match Tk.digitOf 10 c with | some n => (n : Int) | none => -1) := Tk.bytes_all (f := fun x => token_digit.f 3 x 10) (g := fun c => match Tk.digitOf 10 c with | some n => (n : Int) | none => -1) (by kernel_rfl) c
theorem digitOf_lt {base : Nat} {c : UInt8} {n : Nat} (h : Tk.digitOf base c = some n) : n < base := by
 unfold Tk.digitOf at h
 obtain ⟨m, _, h⟩ := Option.bind_eq_some_iff.1 h
 split at h
 ·rename_i hm
  injection h with h
  omega
 ·cases h
theorem may_f (v : Nat) : token_may.f (v : Int) = some (Tk.may v) := by
 unfold token_may.f Tk.may
 by_cases h1 : v = 9
 ·subst h1; rfl
 by_cases h2 : v = 10
 ·subst h2; rfl
 by_cases h3 : v = 13
 ·subst h3; rfl
 rw [if_neg (by omega), if_neg (by omega), if_neg (by omega)]
 have e1 : (v == 9) = false := by simpa using h1
 have e2 : (v == 10) = false := by simpa using h2
 have e3 : (v == 13) = false := by simpa using h3
 rw [e1, e2, e3]
 by_cases h4 : 32 ≤ v
 rotate_left
 ·rw [if_neg (by omega), decide_eq_false h4]; rfl
 rw [if_pos (by omega), decide_eq_true h4]
 by_cases h5 : v ≤ 1114111
 rotate_left
 ·rw [if_neg (by omega), decide_eq_false h5]; rfl
 rw [if_pos (by omega), decide_eq_true h5]
 by_cases h6 : v < 55296
 ·rw [if_pos (by omega), decide_eq_true h6]; rfl
 ·rw [if_neg (by omega), decide_eq_false h6]
  simp only [Bool.false_or, Bool.true_and, Option.some.injEq]
  rw [Bool.eq_iff_iff]
  simp only [decide_eq_true_eq]
  omega
theorem number_drop {base v : Nat} {l : List UInt8} {i : Nat} (h : i < l.length) : Tk.number base v (l.drop i) = (Tk.digitOf base l[i]).bind fun d => Tk.number base (v * base + d) (l.drop (i + 1)) := by
 rw [List.drop_eq_getElem_cons h]; rfl
theorem number_end {base v : Nat} {l : List UInt8} : Tk.number base v (l.drop l.length) = some v := by
 rw [List.drop_length]; rfl
theorem numB_short {base : Nat} {l : List UInt8} (h : l = [] ∨ 6 < l.length) : numB base l = ([], false) := by
 unfold numB Tk.numbered
 rw [if_pos h]
theorem numB_none {base : Nat} {l : List UInt8} (h : Tk.number base 0 l = none) : numB base l = ([], false) := by
 have e : Tk.numbered base l = none := by
  unfold Tk.numbered
  split
  ·rfl
  ·rw [h]; rfl
 unfold numB
 rw [e]
theorem numB_may {base v : Nat} {l : List UInt8} (hs : ¬ (l = [] ∨ 6 < l.length)) (h : Tk.number base 0 l = some v) (hm : Tk.may v = true) : numB base l = ((Utf8.encode (v : Int)).data.toList, true) := by
 unfold numB Tk.numbered
 rw [if_neg hs, h, Option.bind_some, if_pos hm]
theorem numB_not {base v : Nat} {l : List UInt8} (hs : ¬ (l = [] ∨ 6 < l.length)) (h : Tk.number base 0 l = some v) (hm : Tk.may v = false) : numB base l = ([], false) := by
 unfold numB Tk.numbered
 rw [if_neg hs, h, Option.bind_some, if_neg (by rw [hm]; decide)]
theorem bs_data (a : ByteArray) : Tk.bs a.data.toList = a := by
 cases a with
 | mk d => rfl
theorem token_numbered.calls16 (l : List UInt8) (w : World) (hG : Glob w) :
 Calls Try.prog 76 #[.string (Tk.bs (120 :: l))] w fun e w' => e = .returned (.tuple #[.string (Tk.bs (numB 16 l).1), .bool (numB 16 l).2]) ∧ Drawn0 w w' := by
 have CP : ∀ W, Calls Try.prog 74 #[.string (Tk.bs (120 :: l)), .string (Tk.bs [120])] W fun e w' => e = .returned (.bool true) ∧ W = w' := by
  intro W
  refine (Try.strings_HasPrefix (Tk.bs (120 :: l)) (Tk.bs [120]) W).mono ?_
  rintro e w' ⟨rfl, rfl⟩
  exact ⟨by rw [show Lib.hasPrefix (Tk.bs (120 :: l)).data.toList (Tk.bs [120]).data.toList = true from by show List.isPrefixOf [120] (120 :: l) = true; simp [List.isPrefixOf]], rfl⟩
 have hdr := bs_drop (120 :: l) 1
 rw [List.drop_succ_cons, List.drop_zero] at hdr
 have hz0 := bs_size (120 :: l)
 rw [List.length_cons] at hz0
 obtain ⟨s0, hs0⟩ : ∃ s, s = Tk.bs (120 :: l) := ⟨_, rfl⟩
 rw [← hs0] at hdr hz0 CP ⊢
 have q1 : ((1 : Int) ≤ (s0.size : Int)) = True := eq_true (by omega)
 have q2 : (1 ≤ s0.size) = True := eq_true (by omega)
 clear hs0 hz0
 have hsz := bs_size l
 have hbt := bs_bt l
 have htl := bs_toList l
 obtain ⟨s, hs⟩ : ∃ s, s = Tk.bs l := ⟨_, rfl⟩
 rw [← hs] at hsz hbt htl hdr
 have HS := Lib.hid hs
 have HSZ := Lib.hid hsz
 have HBT := Lib.hid hbt
 have HG := Aside0.mk hG
 clear hs hbt hG
 by_cases hsh : l = [] ∨ 6 < l.length
 ·have HR := Lib.hid (numB_short (base := 16) hsh)
  by_cases hcase : l = []
  ·have e1 : s.toList = [] := by rw [htl]; exact hcase
   clear hcase hsh htl hsz
   go_enter Try.func76, Try.ntmps76
   go_wp2_with (first | (go_at_call 74; refine (CP _).mono ?_; rintro e w1 ⟨rfl, rfl⟩))
   go_quiet (fail)
   go_wp2
   go_ret2
   exact ⟨by rw [HR.out]; rfl, (Drawn0.refl _).step _⟩
  have e1 : (s.toList = []) = False := by rw [htl]; exact eq_false hcase
  have e2 : s.toList.isEmpty = false := by rw [htl]; cases l with | nil => exact absurd rfl hcase | cons _ _ => rfl
  have e3 : (s.toList == []) = false := by rw [htl]; cases l with | nil => exact absurd rfl hcase | cons _ _ => rfl
  have hgt : 6 < l.length := hsh.resolve_left hcase
  have e4 : decide ((6 : Int) < (s.size : Int)) = true := decide_eq_true (by omega)
  have e5 : decide (6 < s.size) = true := decide_eq_true (by omega)
  clear hcase hsh htl hsz hgt
  go_enter Try.func76, Try.ntmps76
  go_wp2_with (first | (go_at_call 74; refine (CP _).mono ?_; rintro e w1 ⟨rfl, rfl⟩))
  go_quiet (fail)
  go_wp2
  go_ret2
  exact ⟨by rw [HR.out]; rfl, (Drawn0.refl _).step _⟩
 have hne : l ≠ [] := fun h => hsh (.inl h)
 have h6 : l.length ≤ 6 := Nat.le_of_not_lt fun h => hsh (.inr h)
 have e1 : (s.toList = []) = False := by rw [htl]; exact eq_false hne
 have e2 : s.toList.isEmpty = false := by rw [htl]; cases l with | nil => exact absurd rfl hne | cons _ _ => rfl
 have e3 : (s.toList == []) = false := by rw [htl]; cases l with | nil => exact absurd rfl hne | cons _ _ => rfl
 have e4 : decide ((6 : Int) < (s.size : Int)) = false := decide_eq_false (by omega)
 have e5 : decide (6 < s.size) = false := decide_eq_false (by omega)
 have HSH := Lib.hid hsh
 clear hsh htl hsz hne
 go_enter Try.func76, Try.ntmps76
 go_wp2_with (first | (go_at_call 74; refine (CP _).mono ?_; rintro e w1 ⟨rfl, rfl⟩))
 go_quiet (fail)
 go_wp2
 go_loopg [5, 21] (l.length + 1) (fun gk v5 v21 w' => ∃ (i v : Nat) (x y : Int), i ≤ l.length ∧ i + gk = l.length + 1 ∧ v5 = .int .i64 y ∧ v21 = .int .i64 x ∧ Aside0 (x = (i : Int)) ∧ Aside0 (y = (v : Int)) ∧ Aside0 (v < 16 ^ i) ∧ Aside0 (Tk.number 16 v (l.drop i) = Tk.number 16 0 l) ∧ Aside0 (Drawn0 w w'))
 case atStart => exact ⟨0, 0, 0, 0, by omega, by omega, rfl, rfl, ⟨rfl⟩, ⟨rfl⟩, ⟨by decide⟩, ⟨by rw [List.drop_zero]⟩, ⟨(Drawn0.refl _).step _⟩⟩
 obtain ⟨i, v, x, y, hi, hgk, rfl, rfl, HX, HY, HV, HN, HD⟩ := hrel
 have hG1 : Glob wr := HG.out.drawn HD.out
 have hxi := HX.out
 have hyv := HY.out
 have hvb := HV.out
 have hsz := HSZ.out
 have hpw : 16 ^ i ≤ 16 ^ 6 := Nat.pow_le_pow_right (by decide) (by omega)
 have hpw2 : 16 ^ 6 ≤ 16777216 := by decide
 have HG1 := Aside0.mk hG1
 by_cases hlt : i < l.length
 rotate_left
 ·obtain rfl : i = l.length := by omega
  have d1 : decide (x < (s.size : Int)) = false := decide_eq_false (by omega)
  have hnum : Tk.number 16 0 l = some v := by rw [← HN.out, number_end]
  have hmf : token_may.f y = some (Tk.may v) := by rw [hyv, may_f]
  have hwi : IntKind.i32.wrap y = (v : Int) := by rw [i32_w]; unfold wrap32; omega
  have y0 : 0 ≤ y := by omega
  have y1 : y ≤ 16777216 := by omega
  cases hm : Tk.may v with
  | true =>
   have HR := Lib.hid (numB_may (base := 16) HSH.out hnum hm)
   have HM := Aside0.mk (hmf.trans (congrArg some hm))
   have HWI := Lib.hid hwi
   have HYV := Lib.hid hyv
   clear hmf hm hnum hxi hyv hvb hsz hpw hpw2 hG1 hwi
   go_wp2_with (first | (go_at_call 83; (with_reducible refine (token_may.calls y true _ HG1.out HM.out).mono ?_); rintro e w1 ⟨rfl, ⟨nd, rfl⟩⟩))
   go_ret2
   refine ⟨?_, HD.out.step nd⟩
   rw [HR.out, bs_data, ← HYV.out]; rfl
  | false =>
   have HR := Lib.hid (numB_not (base := 16) HSH.out hnum hm)
   have HM := Aside0.mk (hmf.trans (congrArg some hm))
   clear hmf hm hnum hxi hyv hvb hsz hpw hpw2 hG1 hwi
   go_wp2_with (first | (go_at_call 83; (with_reducible refine (token_may.calls y false _ HG1.out HM.out).mono ?_); rintro e w1 ⟨rfl, ⟨nd, rfl⟩⟩))
   go_ret2
   exact ⟨by rw [HR.out]; rfl, HD.out.step nd⟩
 obtain ⟨g1, rfl⟩ : ∃ g1, gk = g1 + 1 := ⟨gk - 1, by omega⟩
 have d1 : decide (x < (s.size : Int)) = true := decide_eq_true (by omega)
 have p1 := eq_true (show 0 ≤ x by omega)
 have p2 := eq_true (show x < (s.size : Int) by omega)
 have hx := bt_at s x
 have hbx : bt s x = ((l[i]'hlt).toNat : Int) := by rw [hxi, HBT.out i hlt]
 have hnd := number_drop (base := 16) (v := v) hlt
 cases hd : Tk.digitOf 16 (l[i]'hlt) with
 | none =>
  have hf : token_digit.f 3 (bt s x) 16 = some (-1) := by rw [hbx, digit_16, hd]
  have hno2 : Tk.number 16 0 l = none := by rw [← HN.out, hnd, hd]; rfl
  have HR := Lib.hid (numB_none (base := 16) hno2)
  have HF := Aside0.mk hf
  clear hf hno2 hnd hd hbx hxi hyv hvb hsz hpw hpw2 hG1
  go_wp2_with (first | (go_at_call 82; (with_reducible refine (token_digit.calls 3 (bt s x) 16 (-1) _ HG1.out HF.out).mono ?_); rintro e w1 ⟨rfl, ⟨nd, rfl⟩⟩))
  go_ret2
  exact ⟨by rw [HR.out]; rfl, HD.out.step nd⟩
 | some d =>
  have hdl := digitOf_lt hd
  obtain ⟨z, hz⟩ : ∃ z : Int, z = (d : Int) := ⟨_, rfl⟩
  have hf : token_digit.f 3 (bt s x) 16 = some z := by rw [hbx, digit_16, hd, hz]
  have z0 : decide (z < 0) = false := decide_eq_false (by omega)
  have HF := Aside0.mk hf
  have hw1 : wrap64 (x + 1) = ((i + 1 : Nat) : Int) := by unfold wrap64; omega
  have hw2 : wrap64 (wrap64 (y * 16) + z) = ((v * 16 + d : Nat) : Int) := by unfold wrap64; omega
  have hvn : v * 16 + d < 16 ^ (i + 1) := by rw [Nat.pow_succ]; omega
  have hnn : Tk.number 16 (v * 16 + d) (l.drop (i + 1)) = Tk.number 16 0 l := by rw [← HN.out, hnd, hd]; rfl
  have HW1 := Aside0.mk hw1
  have HW2 := Aside0.mk hw2
  have HVN := Aside0.mk hvn
  have HNN := Aside0.mk hnn
  clear hf hnd hd hbx hxi hyv hvb hsz hpw hpw2 hG1 hw1 hw2 hvn hnn hz hdl
  go_wp2_with (first | (go_at_call 82; (with_reducible refine (token_digit.calls 3 (bt s x) 16 z _ HG1.out HF.out).mono ?_); rintro e w1 ⟨rfl, ⟨nd, rfl⟩⟩))
  go_roundg g1
  case measure => omega
  case rel => exact ⟨i + 1, v * 16 + d, _, _, by omega, by omega, by first | rfl | (simp; done), by first | rfl | (simp; done), HW1, HW2, HVN, HNN, ⟨HD.out.step nd⟩⟩
theorem token_numbered.calls10 (l : List UInt8) (w : World) (hG : Glob w) (hno : Lib.hasPrefix l [120] = false) :
 Calls Try.prog 76 #[.string (Tk.bs l)] w fun e w' => e = .returned (.tuple #[.string (Tk.bs (numB 10 l).1), .bool (numB 10 l).2]) ∧ Drawn0 w w' := by
 have CP : ∀ W, Calls Try.prog 74 #[.string (Tk.bs l), .string (Tk.bs [120])] W fun e w' => e = .returned (.bool false) ∧ W = w' := by
  intro W
  refine (Try.strings_HasPrefix (Tk.bs l) (Tk.bs [120]) W).mono ?_
  rintro e w' ⟨rfl, rfl⟩
  exact ⟨by rw [show Lib.hasPrefix (Tk.bs l).data.toList (Tk.bs [120]).data.toList = false from hno], rfl⟩
 clear hno
 have hsz := bs_size l
 have hbt := bs_bt l
 have htl := bs_toList l
 obtain ⟨s, hs⟩ : ∃ s, s = Tk.bs l := ⟨_, rfl⟩
 rw [← hs] at hsz hbt htl CP ⊢
 have HS := Lib.hid hs
 have HSZ := Lib.hid hsz
 have HBT := Lib.hid hbt
 have HG := Aside0.mk hG
 clear hs hbt hG
 by_cases hsh : l = [] ∨ 6 < l.length
 ·have HR := Lib.hid (numB_short (base := 10) hsh)
  by_cases hcase : l = []
  ·have e1 : s.toList = [] := by rw [htl]; exact hcase
   clear hcase hsh htl hsz
   go_enter Try.func76, Try.ntmps76
   go_wp2_with (first | (go_at_call 74; refine (CP _).mono ?_; rintro e w1 ⟨rfl, rfl⟩))
   go_ret2
   exact ⟨by rw [HR.out]; rfl, Drawn0.refl _⟩
  have e1 : (s.toList = []) = False := by rw [htl]; exact eq_false hcase
  have e2 : s.toList.isEmpty = false := by rw [htl]; cases l with | nil => exact absurd rfl hcase | cons _ _ => rfl
  have e3 : (s.toList == []) = false := by rw [htl]; cases l with | nil => exact absurd rfl hcase | cons _ _ => rfl
  have hgt : 6 < l.length := hsh.resolve_left hcase
  have e4 : decide ((6 : Int) < (s.size : Int)) = true := decide_eq_true (by omega)
  have e5 : decide (6 < s.size) = true := decide_eq_true (by omega)
  clear hcase hsh htl hsz hgt
  go_enter Try.func76, Try.ntmps76
  go_wp2_with (first | (go_at_call 74; refine (CP _).mono ?_; rintro e w1 ⟨rfl, rfl⟩))
  go_ret2
  exact ⟨by rw [HR.out]; rfl, Drawn0.refl _⟩
 have hne : l ≠ [] := fun h => hsh (.inl h)
 have h6 : l.length ≤ 6 := Nat.le_of_not_lt fun h => hsh (.inr h)
 have e1 : (s.toList = []) = False := by rw [htl]; exact eq_false hne
 have e2 : s.toList.isEmpty = false := by rw [htl]; cases l with | nil => exact absurd rfl hne | cons _ _ => rfl
 have e3 : (s.toList == []) = false := by rw [htl]; cases l with | nil => exact absurd rfl hne | cons _ _ => rfl
 have e4 : decide ((6 : Int) < (s.size : Int)) = false := decide_eq_false (by omega)
 have e5 : decide (6 < s.size) = false := decide_eq_false (by omega)
 have HSH := Lib.hid hsh
 clear hsh htl hsz hne
 go_enter Try.func76, Try.ntmps76
 go_wp2_with (first | (go_at_call 74; refine (CP _).mono ?_; rintro e w1 ⟨rfl, rfl⟩))
 go_loopg [5, 21] (l.length + 1) (fun gk v5 v21 w' => ∃ (i v : Nat) (x y : Int), i ≤ l.length ∧ i + gk = l.length + 1 ∧ v5 = .int .i64 y ∧ v21 = .int .i64 x ∧ Aside0 (x = (i : Int)) ∧ Aside0 (y = (v : Int)) ∧ Aside0 (v < 10 ^ i) ∧ Aside0 (Tk.number 10 v (l.drop i) = Tk.number 10 0 l) ∧ Aside0 (Drawn0 w w'))
 case atStart => exact ⟨0, 0, 0, 0, by omega, by omega, rfl, rfl, ⟨rfl⟩, ⟨rfl⟩, ⟨by decide⟩, ⟨by rw [List.drop_zero]⟩, ⟨Drawn0.refl _⟩⟩
 obtain ⟨i, v, x, y, hi, hgk, rfl, rfl, HX, HY, HV, HN, HD⟩ := hrel
 have hG1 : Glob wr := HG.out.drawn HD.out
 have hxi := HX.out
 have hyv := HY.out
 have hvb := HV.out
 have hsz := HSZ.out
 have hpw : 10 ^ i ≤ 10 ^ 6 := Nat.pow_le_pow_right (by decide) (by omega)
 have hpw2 : 10 ^ 6 ≤ 16777216 := by decide
 have HG1 := Aside0.mk hG1
 by_cases hlt : i < l.length
 rotate_left
 ·obtain rfl : i = l.length := by omega
  have d1 : decide (x < (s.size : Int)) = false := decide_eq_false (by omega)
  have hnum : Tk.number 10 0 l = some v := by rw [← HN.out, number_end]
  have hmf : token_may.f y = some (Tk.may v) := by rw [hyv, may_f]
  have hwi : IntKind.i32.wrap y = (v : Int) := by rw [i32_w]; unfold wrap32; omega
  have y0 : 0 ≤ y := by omega
  have y1 : y ≤ 16777216 := by omega
  cases hm : Tk.may v with
  | true =>
   have HR := Lib.hid (numB_may (base := 10) HSH.out hnum hm)
   have HM := Aside0.mk (hmf.trans (congrArg some hm))
   have HWI := Lib.hid hwi
   have HYV := Lib.hid hyv
   clear hmf hm hnum hxi hyv hvb hsz hpw hpw2 hG1 hwi
   go_wp2_with (first | (go_at_call 83; (with_reducible refine (token_may.calls y true _ HG1.out HM.out).mono ?_); rintro e w1 ⟨rfl, ⟨nd, rfl⟩⟩))
   go_ret2
   refine ⟨?_, HD.out.step nd⟩
   rw [HR.out, bs_data, ← HYV.out]; rfl
  | false =>
   have HR := Lib.hid (numB_not (base := 10) HSH.out hnum hm)
   have HM := Aside0.mk (hmf.trans (congrArg some hm))
   clear hmf hm hnum hxi hyv hvb hsz hpw hpw2 hG1 hwi
   go_wp2_with (first | (go_at_call 83; (with_reducible refine (token_may.calls y false _ HG1.out HM.out).mono ?_); rintro e w1 ⟨rfl, ⟨nd, rfl⟩⟩))
   go_ret2
   exact ⟨by rw [HR.out]; rfl, HD.out.step nd⟩
 obtain ⟨g1, rfl⟩ : ∃ g1, gk = g1 + 1 := ⟨gk - 1, by omega⟩
 have d1 : decide (x < (s.size : Int)) = true := decide_eq_true (by omega)
 have p1 := eq_true (show 0 ≤ x by omega)
 have p2 := eq_true (show x < (s.size : Int) by omega)
 have hx := bt_at s x
 have hbx : bt s x = ((l[i]'hlt).toNat : Int) := by rw [hxi, HBT.out i hlt]
 have hnd := number_drop (base := 10) (v := v) hlt
 cases hd : Tk.digitOf 10 (l[i]'hlt) with
 | none =>
  have hf : token_digit.f 3 (bt s x) 10 = some (-1) := by rw [hbx, digit_10, hd]
  have hno2 : Tk.number 10 0 l = none := by rw [← HN.out, hnd, hd]; rfl
  have HR := Lib.hid (numB_none (base := 10) hno2)
  have HF := Aside0.mk hf
  clear hf hno2 hnd hd hbx hxi hyv hvb hsz hpw hpw2 hG1
  go_wp2_with (first | (go_at_call 82; (with_reducible refine (token_digit.calls 3 (bt s x) 10 (-1) _ HG1.out HF.out).mono ?_); rintro e w1 ⟨rfl, ⟨nd, rfl⟩⟩))
  go_ret2
  exact ⟨by rw [HR.out]; rfl, HD.out.step nd⟩
 | some d =>
  have hdl := digitOf_lt hd
  obtain ⟨z, hz⟩ : ∃ z : Int, z = (d : Int) := ⟨_, rfl⟩
  have hf : token_digit.f 3 (bt s x) 10 = some z := by rw [hbx, digit_10, hd, hz]
  have z0 : decide (z < 0) = false := decide_eq_false (by omega)
  have HF := Aside0.mk hf
  have hw1 : wrap64 (x + 1) = ((i + 1 : Nat) : Int) := by unfold wrap64; omega
  have hw2 : wrap64 (wrap64 (y * 10) + z) = ((v * 10 + d : Nat) : Int) := by unfold wrap64; omega
  have hvn : v * 10 + d < 10 ^ (i + 1) := by rw [Nat.pow_succ]; omega
  have hnn : Tk.number 10 (v * 10 + d) (l.drop (i + 1)) = Tk.number 10 0 l := by rw [← HN.out, hnd, hd]; rfl
  have HW1 := Aside0.mk hw1
  have HW2 := Aside0.mk hw2
  have HVN := Aside0.mk hvn
  have HNN := Aside0.mk hnn
  clear hf hnd hd hbx hxi hyv hvb hsz hpw hpw2 hG1 hw1 hw2 hvn hnn hz hdl
  go_wp2_with (first | (go_at_call 82; (with_reducible refine (token_digit.calls 3 (bt s x) 10 z _ HG1.out HF.out).mono ?_); rintro e w1 ⟨rfl, ⟨nd, rfl⟩⟩))
  go_roundg g1
  case measure => omega
  case rel => exact ⟨i + 1, v * 10 + d, _, _, by omega, by omega, by first | rfl | (simp; done), by first | rfl | (simp; done), HW1, HW2, HVN, HNN, ⟨HD.out.step nd⟩⟩
theorem space_told (c : UInt8) : chars_Space.f (c.toNat : Int) = some (Tk.space c) := Tk.bytes_all (by kernel_rfl) c
theorem bs_nil_eq (l : List UInt8) : ((Tk.bs l).toList = ([] : List UInt8)) = (l = []) := by rw [toList_data]; rfl
theorem bs_ext {x : ByteArray} {l : List UInt8} (h : x.data.toList = l) : x = Tk.bs l := by subst h; exact (bs_data x).symm
theorem trim_right : ∀ (n : Nat) (l : List UInt8), l.length = n → l.length ≤ 1000000000 → ∃ k r, chars_Trim.l1 k (Tk.bs l) = some r ∧ r.toList.isEmpty = l.all Tk.space := by
 intro n
 induction n with
 | zero =>
  intro l h _
  obtain rfl := List.eq_nil_of_length_eq_zero h
  exact ⟨1, Tk.bs [], by rw [chars_Trim.l1, if_pos (by rw [bs_nil_eq])], by rw [toList_data]; rfl⟩
 | succ n ih =>
  intro l h hl
  have hne : l ≠ [] := fun he => by rw [he] at h; cases h
  have hs := bs_size l
  obtain ⟨m, c, rfl⟩ : ∃ m c, l = m ++ [c] := ⟨l.dropLast, l.getLast hne, (List.dropLast_concat_getLast hne).symm⟩
  rw [List.length_append, List.length_singleton] at h hs hl
  have hw : wrap64 (((Tk.bs (m ++ [c])).size : Int) - 1) = (m.length : Int) := by rw [hs]; unfold wrap64; omega
  have hb : bt (Tk.bs (m ++ [c])) (m.length : Int) = (c.toNat : Int) := by rw [bs_bt (m ++ [c]) m.length (by simp)]; simp
  by_cases hc : Tk.space c = true
  rotate_left
  ·refine ⟨1, Tk.bs (m ++ [c]), ?_, ?_⟩
   ·rw [chars_Trim.l1, if_neg (by rw [bs_nil_eq]; exact hne), hw, if_pos (by omega), if_pos (by rw [hs]; omega), hb, space_told, Option.bind_some, if_neg hc]
   ·rw [toList_data, List.all_append]
    have : Tk.space c = false := Bool.eq_false_iff.2 hc
    simp [Tk.bs, this]
  obtain ⟨k, r, hk, hr⟩ := ih m (by omega) (by omega)
  refine ⟨k + 1, r, ?_, by rw [hr, List.all_append]; simp [hc]⟩
  rw [chars_Trim.l1, if_neg (by rw [bs_nil_eq]; exact hne), hw, if_pos (by omega), if_pos (by rw [hs]; omega), hb, space_told, hc, Option.bind_some, if_pos rfl, if_pos (by rw [hs]; omega)]
  have e : (Tk.bs (m ++ [c])).extract 0 ((m.length : Int)).toNat = Tk.bs m := by
   apply bs_ext
   rw [Int.toNat_natCast]
   simp [Tk.bs, ByteArray.data_extract]
  rw [e]; exact hk
theorem trim_left : ∀ (l : List UInt8), l.length ≤ 1000000000 → ∃ k r, chars_Trim.l0 k (Tk.bs l) = some r ∧ r.toList.isEmpty = l.all Tk.space := by
 intro l
 induction l with
 | nil =>
  intro _
  obtain ⟨k, r, hk, hr⟩ := trim_right 0 [] rfl (by simp)
  exact ⟨k + 2, r, by rw [chars_Trim.l0, if_pos (by rw [bs_nil_eq]), chars_Trim.j1]; exact hk, hr⟩
 | cons c l ih =>
  intro hl
  have hs := bs_size (c :: l)
  rw [List.length_cons] at hs hl
  have hb : bt (Tk.bs (c :: l)) 0 = (c.toNat : Int) := by have := bs_bt (c :: l) 0 (by simp); simpa using this
  by_cases hc : Tk.space c = true
  rotate_left
  ·obtain ⟨k, r, hk, hr⟩ := trim_right _ (c :: l) rfl (by rw [List.length_cons]; omega)
   refine ⟨k + 2, r, ?_, hr⟩
   rw [chars_Trim.l0, if_neg (by rw [bs_nil_eq]; simp), if_pos (by rw [hs]; omega), hb, space_told, Option.bind_some, if_neg hc, chars_Trim.j1]
   exact hk
  obtain ⟨k, r, hk, hr⟩ := ih (by omega)
  refine ⟨k + 1, r, ?_, by rw [hr, List.all_cons, hc, Bool.true_and]⟩
  rw [chars_Trim.l0, if_neg (by rw [bs_nil_eq]; simp), if_pos (by rw [hs]; omega), hb, space_told, hc, Option.bind_some, if_pos rfl, if_pos (by rw [hs]; omega)]
  have e : (Tk.bs (c :: l)).extract 1 (Tk.bs (c :: l)).size = Tk.bs l := by
   apply bs_ext
   rw [hs]
   simp [Tk.bs, ByteArray.data_extract]
  rw [e]; exact hk
theorem trim_blank (s : ByteArray) (hs : s.size ≤ 1000000000) : ∃ k r, chars_Trim.f k s = some r ∧ r.toList.isEmpty = El.blank s := by
 have e : s = Tk.bs s.data.toList := (bs_data s).symm
 have hz := bs_size s.data.toList
 rw [← e] at hz
 obtain ⟨k, r, hk, hr⟩ := trim_left s.data.toList (by omega)
 rw [← e] at hk
 exact ⟨k, r, hk, hr⟩
theorem zeroInt (w : World) : (zeroValue 3).run Try.prog w = .ok (.int .i64 0) w := by kernel_rfl
theorem look_told {m n : Nat} {D : DataW Unit} {w : World} {l : List El.Nd} (hm : w.ownsMap Try.prog 3 (plainElem (H := Unit) Try.prog 3) m n D) (hmi : El.MapIs D l) (p : Int) (hp : (Lit.int .i64 p).wf = true) :
 ∃ c : Int, (∀ W : World, W.heap = w.heap → (Instr.lookup 57 (.map (some m)) (.int .i64 p) true).run Try.prog W = .ok (.tuple #[.int .i64 c, .bool (El.lastI l p).isSome]) W) ∧ ∀ k, El.lastI l p = some k → c = (k : Int) := by
 have one : ∀ W : World, W.heap = w.heap → ∃ c : Int, (Instr.lookup 57 (.map (some m)) (.int .i64 p) true).run Try.prog W = .ok (.tuple #[.int .i64 c, .bool (El.lastI l p).isSome]) W ∧ D.atKey (.int .i64 p) (.lit (.int .i64 0)) = .lit (.int .i64 c) := by
  intro W hW
  obtain ⟨v, ps, hrun, hv⟩ := (map_at hm (w1 := W) (by rw [hW])).look_ok (Maps.int_keyed Try.underlying3) Try.underlying57 (zeroInt W) (plainElem_int Try.underlying3 (by decide)) (Maps.keyOf_int_mk Try.underlying3 hp)
  obtain ⟨c, rfl, hc, _⟩ := plainElem_int_inv Try.underlying3 hv
  rw [(hmi p hp).1] at hrun
  exact ⟨c, hrun, congrArg Prod.fst hc⟩
 obtain ⟨c, _, hat⟩ := one w rfl
 refine ⟨c, fun W hW => ?_, fun k hk => ?_⟩
 ·obtain ⟨c', hrun, hat'⟩ := one W hW
  rw [hat] at hat'
  injection hat' with h3
  injection h3 with _ h3
  rw [h3]; exact hrun
 ·rw [(hmi p hp).2 k hk] at hat
  injection hat with h3
  injection h3 with _ h3
  exact h3.symm
theorem element_builder_text.out (B g N : Nat) (l : List El.Nd) (op : List Int) (s : ByteArray) (r : Int) (w : World) (h : BAt w B g N l op) (hG : Glob w) (hop : op.length ≤ 100000) (hs : s.size ≤ 1000000000) (hneg : El.inner op < 0) (hr : r = if El.blank s = true then 0 else 6) :
 Calls Try.prog 31 #[.pointer (some ⟨g, 0, none⟩), .string s] w fun e w' => e = .returned (.int .i64 r) ∧ Below w.heap.size w w' := by
 have CI := Aside0.mk (fun W (hW : Below w.heap.size w W) => element_builder_inner.calls B g N l op W (h.below hW) hop)
 obtain ⟨p, hp⟩ : ∃ p, p = El.inner op := ⟨_, rfl⟩
 rw [← hp] at CI hneg
 have d1 : decide (p < 0) = true := decide_eq_true hneg
 obtain ⟨k, x, hk, hx⟩ := trim_blank s hs
 have HK := Aside0.mk hk
 have HG := Aside0.mk hG
 have HR := Lib.hid hr
 obtain ⟨b, hb⟩ : ∃ b, b = El.blank s := ⟨_, rfl⟩
 rw [← hb] at hx
 have HBL := Lib.hid hb
 clear h hp hk hG hr hb
 go_enter Try.func31, Try.ntmps31
 cases b with
 | true =>
  go_wp2_with (first | (go_at_call 46; (with_reducible refine (CI.out _ (Below.refl _ _)).mono ?_); rintro e w1 ⟨rfl, ⟨nd1, rfl⟩⟩) | (go_at_call 47; (with_reducible refine (chars_Trim.calls k s x _ (Glob.drawn HG.out ⟨_, rfl⟩) HK.out).mono ?_); rintro e w2 ⟨rfl, ⟨nd2, rfl⟩⟩))
  go_ret
  exact ⟨by rw [HR.out, ← HBL.out, if_pos rfl]; rfl, pw_below_drewN (Below.refl _ _) _⟩
 | false =>
  go_wp2_with (first | (go_at_call 46; (with_reducible refine (CI.out _ (Below.refl _ _)).mono ?_); rintro e w1 ⟨rfl, ⟨nd1, rfl⟩⟩) | (go_at_call 47; (with_reducible refine (chars_Trim.calls k s x _ (Glob.drawn HG.out ⟨_, rfl⟩) HK.out).mono ?_); rintro e w2 ⟨rfl, ⟨nd2, rfl⟩⟩))
  go_ret
  exact ⟨by rw [HR.out, ← HBL.out]; rfl, pw_below_drewN (Below.refl _ _) _⟩
theorem element_builder_text.same (B g N : Nat) (l : List El.Nd) (op : List Int) (s : ByteArray) (w : World) (h : BAt w B g N l op) (hop : op.length ≤ 100000) (h0 : 0 ≤ El.inner op) (hs : s = El.nul) :
 Calls Try.prog 31 #[.pointer (some ⟨g, 0, none⟩), .string s] w fun e w' => e = .returned (.int .i64 0) ∧ Below w.heap.size w w' := by
 have CI := Aside0.mk (fun W (hW : Below w.heap.size w W) => element_builder_inner.calls B g N l op W (h.below hW) hop)
 obtain ⟨p, hp⟩ : ∃ p, p = El.inner op := ⟨_, rfl⟩
 rw [← hp] at CI h0
 have d1 : decide (p < 0) = false := decide_eq_false (by omega)
 have s1 := size_nul s
 rw [decide_eq_true hs] at s1
 clear h hp hs
 go_enter Try.func31, Try.ntmps31
 go_wp2_with (first | (go_at_call 46; (with_reducible refine (CI.out _ (Below.refl _ _)).mono ?_); rintro e w1 ⟨rfl, ⟨nd1, rfl⟩⟩))
 go_ret
 exact ⟨rfl, pw_below_drewN (Below.refl _ _) _⟩
theorem element_builder_text.putfull (B g N : Nat) (l : List El.Nd) (op : List Int) (s : ByteArray) (w : World) (h : BAt w B g N l op) (hop : op.length ≤ 100000) (h0 : 0 ≤ El.inner op) (h1 : El.inner op < (l.length : Int)) (hs : s ≠ El.nul) (hnew : ∀ k, El.lastI l (El.inner op) = some k → ¬ (rd_T29 l (k : Int)).f1 = El.nul) (hl : 2000 ≤ l.length) (hl2 : l.length ≤ 100000) :
 Calls Try.prog 31 #[.pointer (some ⟨g, 0, none⟩), .string s] w fun e w' => e = .returned (.int .i64 3) ∧ Below w.heap.size w w' := by
 have H := Aside0.mk h
 have CI := Aside0.mk (fun W (hW : Below w.heap.size w W) => element_builder_inner.calls B g N l op W (h.below hW) hop)
 obtain ⟨v1, v2, m, n, D, g1, g2, g3, g4, g5, g6, _⟩ := h
 obtain ⟨A1, c1, rfl⟩ := Kd.S_slice g2
 obtain ⟨p, hp⟩ : ∃ p, p = El.inner op := ⟨_, rfl⟩
 have x0 := (blk_cell g1 0).trans rfl
 have x2 := (blk_cell g1 2).trans rfl
 have G1 := Aside0.mk g1
 have G2 := Aside0.mk g2
 have HP := Lib.hid hp
 rw [← hp] at CI h0 h1 hnew
 obtain ⟨c, hrun, hck⟩ := look_told g4 g6 p (int_wf p (by omega) (by omega))
 have hlk : ∀ j, (Instr.lookup 57 (.map (some m)) (.int .i64 p) true).run Try.prog (w.drewN j) = .ok (.tuple #[.int .i64 c, .bool (El.lastI l p).isSome]) (w.drewN j) := fun j => hrun _ rfl
 have d1 : decide (p < 0) = false := decide_eq_false (by omega)
 have s1 := size_nul s
 rw [decide_eq_false hs] at s1
 have hu := Try.underlying59
 have hu2 := Try.underlying29
 clear g1 g2 g3 g4 g5 g6 hp hs hrun
 go_enter Try.func31, Try.ntmps31
 cases hk : El.lastI l p with
 | none =>
  (try rw [hk] at hlk)
  have hlk : ∀ j, (Instr.lookup 57 (.map (some m)) (.int .i64 p) true).run Try.prog (w.drewN j) = .ok (.tuple #[.int .i64 c, .bool false]) (w.drewN j) := fun j => hlk j
  clear hck hnew
  go_wp2_with (first | (go_at_call 46; (with_reducible refine (CI.out _ (Below.refl _ _)).mono ?_); rintro e w1 ⟨rfl, ⟨nd1, rfl⟩⟩) | (go_at_call 44; (with_reducible refine (element_builder_put.full B g N l op (⟨0, (⟨#[]⟩ : ByteArray), s, []⟩ : El.Nd) _ _ (H.out.below (pw_below_drewN (Below.refl _ _) _)) hl hl2).mono ?_); rintro e w2 ⟨rfl, hb2⟩; have B2 := Aside0.mk (below_step (pw_below_drewN (Below.refl _ _) _) hb2); clear hb2))
  go_ret
  exact ⟨rfl, B2.out⟩
 | some k =>
  (try rw [hk] at hlk)
  have hc := hck k hk
  subst hc
  have hkl := El.lastI_lt l p k hk
  obtain ⟨ad, A3, c3, e_, q0, q1, _⟩ := at_T29 (Kd.S_reads' G2.out).2.2 (k : Int) (by omega) (by omega)
  cases e_
  simp only [Int.toNat_natCast] at q0 q1
  have s2 := size_nul (rd_T29 l (k : Int)).f1
  rw [decide_eq_false (hnew k hk)] at s2
  have p1 := eq_true (show (0 : Int) ≤ (k : Int) by omega)
  have p2 := eq_true (show (k : Int) < (l.length : Int) by omega)
  have p3 := eq_true (show k < l.length by omega)
  have hlk : ∀ j, (Instr.lookup 57 (.map (some m)) (.int .i64 p) true).run Try.prog (w.drewN j) = .ok (.tuple #[.int .i64 (k : Int), .bool true]) (w.drewN j) := fun j => hlk j
  clear hck hnew hk hkl
  go_wp2_with (first | (go_at_call 46; (with_reducible refine (CI.out _ (Below.refl _ _)).mono ?_); rintro e w1 ⟨rfl, ⟨nd1, rfl⟩⟩) | (go_at_call 44; (with_reducible refine (element_builder_put.full B g N l op (⟨0, (⟨#[]⟩ : ByteArray), s, []⟩ : El.Nd) _ _ (H.out.below (pw_below_drewN (Below.refl _ _) _)) hl hl2).mono ?_); rintro e w2 ⟨rfl, hb2⟩; have B2 := Aside0.mk (below_step (pw_below_drewN (Below.refl _ _) _) hb2); clear hb2))
  go_ret
  exact ⟨rfl, B2.out⟩
theorem element_builder_text.putroom (B g N : Nat) (l : List El.Nd) (op : List Int) (s : ByteArray) (w : World) (h : BAt w B g N l op) (hop : op.length ≤ 100000) (h0 : 0 ≤ El.inner op) (h1 : El.inner op < (l.length : Int)) (hs : s ≠ El.nul) (hnew : ∀ k, El.lastI l (El.inner op) = some k → ¬ (rd_T29 l (k : Int)).f1 = El.nul) (hl : l.length < 2000) (hN : N ≤ w.heap.size) (hin : ∀ i ∈ op, 0 ≤ i ∧ i < (l.length : Int)) :
 Calls Try.prog 31 #[.pointer (some ⟨g, 0, none⟩), .string s] w fun e w' => e = .returned (.int .i64 0) ∧ BAt w' B g w'.heap.size (l ++ [⟨El.inner op, El.nul, s, []⟩]) op ∧ Below B w w' := by
 have hN' : ∀ j, N ≤ (w.drewN j).heap.size := fun _ => hN
 have H := Aside0.mk h
 have CI := Aside0.mk (fun W (hW : Below w.heap.size w W) => element_builder_inner.calls B g N l op W (h.below hW) hop)
 obtain ⟨v1, v2, m, n, D, g1, g2, g3, g4, g5, g6, _⟩ := h
 obtain ⟨A1, c1, rfl⟩ := Kd.S_slice g2
 obtain ⟨p, hp⟩ : ∃ p, p = El.inner op := ⟨_, rfl⟩
 have x0 := (blk_cell g1 0).trans rfl
 have x2 := (blk_cell g1 2).trans rfl
 have G1 := Aside0.mk g1
 have G2 := Aside0.mk g2
 have HP := Lib.hid hp
 rw [← hp] at CI h0 h1 hnew
 obtain ⟨c, hrun, hck⟩ := look_told g4 g6 p (int_wf p (by omega) (by omega))
 have hlk : ∀ j, (Instr.lookup 57 (.map (some m)) (.int .i64 p) true).run Try.prog (w.drewN j) = .ok (.tuple #[.int .i64 c, .bool (El.lastI l p).isSome]) (w.drewN j) := fun j => hrun _ rfl
 have d1 : decide (p < 0) = false := decide_eq_false (by omega)
 have s1 := size_nul s
 rw [decide_eq_false hs] at s1
 have hu := Try.underlying59
 have hu2 := Try.underlying29
 clear g1 g2 g3 g4 g5 g6 hp hs hrun
 go_enter Try.func31, Try.ntmps31
 cases hk : El.lastI l p with
 | none =>
  (try rw [hk] at hlk)
  have hlk : ∀ j, (Instr.lookup 57 (.map (some m)) (.int .i64 p) true).run Try.prog (w.drewN j) = .ok (.tuple #[.int .i64 c, .bool false]) (w.drewN j) := fun j => hlk j
  clear hck hnew
  go_wp2_with (first | (go_at_call 46; (with_reducible refine (CI.out _ (Below.refl _ _)).mono ?_); rintro e w1 ⟨rfl, ⟨nd1, rfl⟩⟩) | (go_at_call 44; (with_reducible refine (element_builder_put.room B g N l op (⟨0, (⟨#[]⟩ : ByteArray), s, []⟩ : El.Nd) (.slice none 0 0) _ (H.out.below (pw_below_drewN (Below.refl _ _) _)) (hN' _) (Kd.R_nil _ _ _ _ _) hl hop hin).mono ?_); rintro e w2 ⟨rfl, hbt, hb2, _⟩; have B2 := Aside0.mk (show Below B w w2 from (pw_below_drewN (Below.refl B w) _).trans hb2); have T2 := Aside0.mk hbt; clear hb2 hbt))
  go_ret
  exact ⟨rfl, T2.out, B2.out⟩
 | some k =>
  (try rw [hk] at hlk)
  have hc := hck k hk
  subst hc
  have hkl := El.lastI_lt l p k hk
  obtain ⟨ad, A3, c3, e_, q0, q1, _⟩ := at_T29 (Kd.S_reads' G2.out).2.2 (k : Int) (by omega) (by omega)
  cases e_
  simp only [Int.toNat_natCast] at q0 q1
  have s2 := size_nul (rd_T29 l (k : Int)).f1
  rw [decide_eq_false (hnew k hk)] at s2
  have p1 := eq_true (show (0 : Int) ≤ (k : Int) by omega)
  have p2 := eq_true (show (k : Int) < (l.length : Int) by omega)
  have p3 := eq_true (show k < l.length by omega)
  have hlk : ∀ j, (Instr.lookup 57 (.map (some m)) (.int .i64 p) true).run Try.prog (w.drewN j) = .ok (.tuple #[.int .i64 (k : Int), .bool true]) (w.drewN j) := fun j => hlk j
  clear hck hnew hk hkl
  go_wp2_with (first | (go_at_call 46; (with_reducible refine (CI.out _ (Below.refl _ _)).mono ?_); rintro e w1 ⟨rfl, ⟨nd1, rfl⟩⟩) | (go_at_call 44; (with_reducible refine (element_builder_put.room B g N l op (⟨0, (⟨#[]⟩ : ByteArray), s, []⟩ : El.Nd) (.slice none 0 0) _ (H.out.below (pw_below_drewN (Below.refl _ _) _)) (hN' _) (Kd.R_nil _ _ _ _ _) hl hop hin).mono ?_); rintro e w2 ⟨rfl, hbt, hb2, _⟩; have B2 := Aside0.mk (show Below B w w2 from (pw_below_drewN (Below.refl B w) _).trans hb2); have T2 := Aside0.mk hbt; clear hb2 hbt))
  go_ret
  exact ⟨rfl, T2.out, B2.out⟩
theorem element_builder_text.add (B g N : Nat) (l : List El.Nd) (op : List Int) (s : ByteArray) (k : Nat) (w : World) (h : BAt w B g N l op) (hop : op.length ≤ 100000) (h0 : 0 ≤ El.inner op) (h1 : El.inner op < (l.length : Int)) (hl2 : l.length ≤ 100000) (hs : s ≠ El.nul) (hk : El.lastI l (El.inner op) = some k) (hname : (rd_T29 l (k : Int)).f1 = El.nul) (hsz : (rd_T29 l (k : Int)).f2.size + s.size ≤ 1000000000000) :
 Calls Try.prog 31 #[.pointer (some ⟨g, 0, none⟩), .string s] w fun e w' => e = .returned (.int .i64 0) ∧ BAt w' B g w'.heap.size (l.set k { rd_T29 l (k : Int) with f2 := (rd_T29 l (k : Int)).f2 ++ s }) op ∧ Below B w w' := by
 have hkl := El.lastI_lt l _ k hk
 have CI := Aside0.mk (fun W (hW : Below w.heap.size w W) => element_builder_inner.calls B g N l op W (h.below hW) hop)
 obtain ⟨v1, v2, m, n, D, g1, g2, g3, g4, g5, g6, g7, g8, g9⟩ := h
 obtain ⟨gn, c1, rfl, hgn1, hgn2, _⟩ := Kd.S_form g2 (by omega)
 obtain ⟨p, hp⟩ : ∃ p, p = El.inner op := ⟨_, rfl⟩
 obtain ⟨x, hx⟩ : ∃ x, x = rd_T29 l (k : Int) := ⟨_, rfl⟩
 rw [← hx] at hname hsz ⊢
 rw [← hp] at CI h0 h1 hk
 have x0 := (blk_cell g1 0).trans rfl
 have x2 := (blk_cell g1 2).trans rfl
 obtain ⟨c, hrun, hck⟩ := look_told g4 g6 p (int_wf p (by omega) (by omega))
 have hc := hck k hk
 subst hc
 rw [hk] at hrun
 have hlk : ∀ j, (Instr.lookup 57 (.map (some m)) (.int .i64 p) true).run Try.prog (w.drewN j) = .ok (.tuple #[.int .i64 (k : Int), .bool true]) (w.drewN j) := fun j => hrun _ rfl
 obtain ⟨oki, cc, hcl, hM, hcc, hfr, hoki, hH⟩ := Kd.S_elem g2 El.zn (k : Int) (by omega) (by omega)
 have hx' : l.getD ((k : Int)).toNat El.zn = x := hx.symm
 rw [hx'] at hM
 obtain ⟨v3, rfl, hv3⟩ := k29_openM hM
 have q1 : w.cell? ⟨gn, k * 4 + 1, none⟩ = some (.string x.f1) := hcc 1 _ rfl
 have q2 : w.cell? ⟨gn, k * 4 + 2, none⟩ = some (.string x.f2) := hcc 2 _ rfl
 have qf : w.frozen? ⟨gn, k * 4 + 2, none⟩ = false := hfr 2
 have d1 : decide (p < 0) = false := decide_eq_false (by omega)
 have s1 := size_nul s
 rw [decide_eq_false hs] at s1
 have s2 := size_nul x.f1
 rw [decide_eq_true hname] at s2
 have p1 := eq_true (show (0 : Int) ≤ (k : Int) by omega)
 have p2 := eq_true (show (k : Int) < (l.length : Int) by omega)
 have p3 := eq_true (show k < l.length by omega)
 have z1 := eq_false (show ¬ 9223372036854775807 < x.f2.size + s.size by omega)
 have z2 := eq_true (show x.f2.size + s.size ≤ 9223372036854775807 by omega)
 have G1 := Aside0.mk g1
 have G2 := Aside0.mk g2
 have G3 := Aside0.mk g3
 have G4 := Aside0.mk g4
 have HH := Lib.hid (show n ≤ l.length ∧ El.MapIs D l ∧ B ≤ g ∧ B ≤ m ∧ 0 < B from ⟨g5, g6, g7, g8, g9⟩)
 have HX := Lib.hid (show x = rd_T29 l (k : Int) ∧ k < l.length ∧ B ≤ gn from ⟨hx, hkl, hgn1⟩)
 have HM := Aside0.mk (And.intro hH hv3)
 have HOK := Lib.hid hoki
 have hu := Try.underlying59
 have hu2 := Try.underlying29
 clear g1 g2 g3 g4 g5 g6 g7 g8 g9 hp hs hk hname hsz hx hx' hM hcc hfr hoki hH hv3 hrun hck hkl hcl hgn1 hgn2
 go_enter Try.func31, Try.ntmps31
 go_wp2_with (first | (go_at_call 46; (with_reducible refine (CI.out _ (Below.refl _ _)).mono ?_); rintro e w1 ⟨rfl, ⟨nd1, rfl⟩⟩))
 go_ret
 obtain ⟨W, hW⟩ : ∃ W, W = w.drewN nd1 := ⟨_, rfl⟩
 rw [← hW]
 have k1 : W.heap[g]? = some (.cells #[.slice (some ⟨gn, 0, none⟩) l.length c1, v2, .map (some m)] 59 (0, 0)) := by rw [hW]; exact G1.out
 have k2 : Kd.S k29 29 W B (fun k => k < N) (.slice (some ⟨gn, 0, none⟩) l.length c1) l := by rw [hW]; exact Kd.S_drewN G2.out _
 have k3 : Kd.R (Kd.int .i64) 3 W B (fun _ => True) v2 op := by rw [hW]; exact Kd.R_drewN G3.out _
 have k4 : W.ownsMap Try.prog 3 (plainElem (H := Unit) Try.prog 3) m n D := by rw [hW]; exact map_at G4.out rfl
 have kH : Kd.H k29 29 W B (fun k => k < N) (.slice (some ⟨gn, 0, none⟩) l.length c1) l (k : Int) oki [.int .i64 x.f0, .string x.f1, .string x.f2, v3] := by rw [hW]; exact Kd.H_drewN HM.out.1 _
 have kv : Kd.R k68 68 W B oki v3 x.f3 := by rw [hW]; exact Kd.R_drewN HM.out.2 _
 have kB : Below B w W := by rw [hW]; exact pw_below_drewN (Below.refl _ _) _
 clear hW
 have hkl := HX.out.2.1
 obtain ⟨r1, r2⟩ := Kd.S_seg (okg := fun _ => False) (okp := oki) (Kd.H_mono (ok' := fun k => k < N ∧ ¬ False) kH (fun k hk => ⟨hk, fun h => h⟩)) (by omega) (by omega) (seg := [.string (x.f2 ++ s)]) (j := 2) (by show 2 + 1 ≤ 4; omega) (x' := { x with f2 := x.f2 ++ s }) (k29_mkM _ _ _ { x with f2 := x.f2 ++ s } kv) (fun k hk => .inl hk) (fun _ h => h.elim)
 have ec : W.setCells gn (((k : Int)).toNat * k29.sz + 2) [.string (x.f2 ++ s)] = W.setCell ⟨gn, k * 4 + 2, none⟩ (.string (x.f2 ++ s)) := rfl
 rw [ec] at r1 r2
 have hty := Kd.S_typed k2
 have P1 : (W.setCell ⟨gn, k * 4 + 2, none⟩ (.string (x.f2 ++ s))).heap[g]? = some (.cells #[.slice (some ⟨gn, 0, none⟩) l.length c1, v2, .map (some m)] 59 (0, 0)) := blk_grown k1 r2 (Kd.S_ne k2 k1 (by decide))
 have P3 := Kd.R_over' (v := .slice (some ⟨gn, 0, none⟩) l.length c1) k3 hty (by decide) r2
 have P4 := World.ownsMap.kept k4 r2 (map_off k4 k2)
 have PB := kB.setCell (p := ⟨gn, k * 4 + 2, none⟩) HX.out.2.2 (.string (x.f2 ++ s))
 have hH := HH.out
 refine ⟨rfl, ⟨.slice (some ⟨gn, 0, none⟩) l.length c1, v2, m, n, D, P1, Kd.S_mono (Kd.S_bound r1) (fun k hk => hk.2.2.1), P3, P4, by rw [List.length_set]; exact hH.1, ?_, hH.2.2.1, hH.2.2.2.1, hH.2.2.2.2⟩, PB⟩
 refine El.MapIs.set hH.2.1 k _ (fun y hy => ?_)
 show x.f0 = y.f0
 rw [HX.out.1]
 unfold rd_T29
 rw [Int.toNat_natCast, List.getD_eq_getElem?_getD, hy]
 rfl
def Res (w w' : World) (e : Ending) (B g : Nat) (s : Except Int El.St) : Prop :=
 ∃ r : Int, e = .returned (.int .i64 r) ∧ Below B w w' ∧ ((s = .error r ∧ r ≠ 0) ∨ (r = 0 ∧ ∃ t, s = .ok t ∧ BAt w' B g w'.heap.size t.1 t.2))
def Inv (l : List El.Nd) (op : List Int) (T : Nat) : Prop := l.length ≤ 2000 ∧ op.length ≤ 20 ∧ (∀ i ∈ op, 0 ≤ i ∧ i < (l.length : Int)) ∧ ∀ n ∈ l, n.f2.size ≤ T
theorem inv_nil : Inv [] [] 0 := ⟨Nat.zero_le _, Nat.zero_le _, fun _ h => absurd h (by simp), fun _ h => absurd h (by simp)⟩
theorem inv_put {l : List El.Nd} {op : List Int} {T T' : Nat} (h : Inv l op T) (n : El.Nd) (hl : l.length < 2000) (hn : n.f2.size ≤ T') (ht : T ≤ T') : Inv (l ++ [n]) op T' := by
 obtain ⟨h1, h2, h3, h4⟩ := h
 refine ⟨by rw [List.length_append, List.length_singleton]; omega, h2, fun i hi => ?_, fun x hx => ?_⟩
 ·have := h3 i hi
  rw [List.length_append, List.length_singleton]
  omega
 ·rcases List.mem_append.1 hx with hx | hx
  ·have := h4 x hx; omega
  ·rw [List.mem_singleton] at hx; rw [hx]; exact hn
theorem inner_mem {op : List Int} (h : ¬ El.inner op < 0) : ∃ x, op.getLast? = some x ∧ El.inner op = x := by
 unfold El.inner at *
 cases hx : op.getLast? with
 | none => rw [hx] at h; exact absurd (show (-1 : Int) < 0 by omega) h
 | some x => exact ⟨x, rfl, rfl⟩
theorem inner_in {l : List El.Nd} {op : List Int} {T : Nat} (h : Inv l op T) (hi : ¬ El.inner op < 0) : 0 ≤ El.inner op ∧ El.inner op < (l.length : Int) := by
 obtain ⟨x, hx, e⟩ := inner_mem hi
 rw [e]
 exact h.2.2.1 x (List.mem_of_getLast? hx)
theorem inv_take {l : List El.Nd} {op : List Int} {T : Nat} (h : Inv l op T) (t : El.Tok) (s : El.St) (ht : El.take l op t = .ok s) : Inv s.1 s.2 (T + t.f2.size) := by
 have hm : ∀ n ∈ l, n.f2.size ≤ T + t.f2.size := fun n hn => by have := h.2.2.2 n hn; omega
 have same : Inv l op (T + t.f2.size) := ⟨h.1, h.2.1, h.2.2.1, hm⟩
 have putd : ∀ (nm tx : ByteArray) (at_ : List El.Att) (l' : List El.Nd), tx.size ≤ T + t.f2.size → El.put l op nm tx at_ = some l' → Inv l' op (T + t.f2.size) ∧ l'.length = l.length + 1 := by
  intro nm tx at_ l' htx hp
  unfold El.put at hp
  split at hp
  ·rename_i hl
   injection hp with hp
   rw [← hp]
   exact ⟨inv_put h _ hl htx (by omega), by simp⟩
  ·cases hp
 unfold El.take at ht
 split at ht
 ·injection ht with ht; rw [← ht]; exact same
 split at ht
 ·injection ht with ht; rw [← ht]; exact same
 split at ht
 ·unfold El.begin_ at ht
  split at ht
  ·cases ht
  split at ht
  ·cases ht
  split at ht
  ·cases ht
  rename_i hop
  split at ht
  ·cases ht
  ·rename_i l' hp
   injection ht with ht
   obtain ⟨h1, h2⟩ := putd _ _ _ l' (by show (0 : Nat) ≤ _; omega) hp
   rw [← ht]
   show Inv l' (if t.f4 = true then op else op ++ [(l.length : Int)]) _
   split
   ·exact h1
   ·refine ⟨h1.1, by rw [List.length_append, List.length_singleton]; omega, fun i hi => ?_, h1.2.2.2⟩
    rcases List.mem_append.1 hi with hi | hi
    ·exact h1.2.2.1 i hi
    ·rw [List.mem_singleton] at hi; rw [hi, h2]; omega
 split at ht
 ·unfold El.end_ at ht
  split at ht
  ·cases ht
  split at ht
  ·injection ht with ht
   rw [← ht]
   exact ⟨same.1, by rw [List.length_dropLast]; have := same.2.1; show op.length - 1 ≤ 20; omega, fun i hi => same.2.2.1 i (by have hi : i ∈ op.dropLast := hi; rw [List.dropLast_eq_take] at hi; exact List.mem_of_mem_take hi), hm⟩
  ·cases ht
 split at ht
 ·unfold El.text at ht
  split at ht
  ·split at ht
   ·injection ht with ht; rw [← ht]; exact same
   ·cases ht
  split at ht
  ·injection ht with ht; rw [← ht]; exact same
  split at ht
  ·rename_i k hk
   have hkl := El.lastI_lt l _ k hk
   split at ht
   ·injection ht with ht
    rw [← ht]
    refine ⟨by rw [List.length_set]; exact h.1, h.2.1, fun i hi => by rw [List.length_set]; exact h.2.2.1 i hi, fun n hn => ?_⟩
    rcases List.mem_or_eq_of_mem_set hn with hn | hn
    ·exact hm n hn
    ·rw [hn]
     show ((l.getD k El.zn).f2 ++ t.f2).size ≤ _
     rw [ByteArray.size_append]
     have : (l.getD k El.zn) ∈ l := by rw [List.getD_eq_getElem?_getD, List.getElem?_eq_getElem hkl]; exact List.getElem_mem hkl
     have := h.2.2.2 _ this
     omega
   ·split at ht
    ·cases ht
    ·rename_i l' hp
     injection ht with ht
     rw [← ht]
     exact (putd _ _ _ l' (by omega) hp).1
  ·split at ht
   ·cases ht
   ·rename_i l' hp
    injection ht with ht
    rw [← ht]
    exact (putd _ _ _ l' (by omega) hp).1
 ·cases ht
theorem begin_all (B g N : Nat) (l : List El.Nd) (op : List Int) (T : Nat) (t : El.Tok) (A3 : Option Addr) (c3 : Nat) (w : World) (h : BAt w B g N l op) (hI : Inv l op T) (hc3 : Kd.C k68 w A3 t.f3.length t.f3) (hlen : t.f3.length ≤ 1000000) :
 Calls Try.prog 29 #[.pointer (some ⟨g, 0, none⟩), .agg #[.int .i64 t.f0, .string t.f1, .string t.f2, .slice A3 t.f3.length c3, .bool t.f4]] w fun e w' => Res w w' e B g (El.begin_ l op t) := by
 obtain ⟨hgB, hgl, hpos⟩ := h.ge
 have hBw : B ≤ w.heap.size := Nat.le_of_lt (Nat.lt_of_le_of_lt hgB hgl)
 obtain ⟨i1, i2, i3, i4⟩ := hI
 have early := fun r hr => (element_builder_begin.early B g N l op t (.slice A3 t.f3.length c3) r w h (by omega) (by omega) hr)
 unfold El.begin_
 by_cases c1 : t.f1 = El.nul
 ·rw [if_pos c1]
  refine (early 5 (by rw [if_pos c1])).mono ?_
  rintro e w' ⟨rfl, b⟩
  exact ⟨5, rfl, b.mono hBw, .inl ⟨rfl, by decide⟩⟩
 rw [if_neg c1]
 by_cases c2 : op = [] ∧ l ≠ []
 ·rw [if_pos c2]
  refine (early 6 (by rw [if_neg c1, if_pos c2])).mono ?_
  rintro e w' ⟨rfl, b⟩
  exact ⟨6, rfl, b.mono hBw, .inl ⟨rfl, by decide⟩⟩
 rw [if_neg c2]
 by_cases c4 : 20 ≤ op.length
 ·rw [if_pos c4]
  refine (early 7 (by rw [if_neg c1, if_neg c2, if_pos c4])).mono ?_
  rintro e w' ⟨rfl, b⟩
  exact ⟨7, rfl, b.mono hBw, .inl ⟨rfl, by decide⟩⟩
 rw [if_neg c4]
 unfold El.put
 by_cases c5 : l.length < 2000
 ·rw [if_pos c5]
  refine (element_builder_begin.room B g N l op t A3 c3 w h hc3 hlen c5 (by omega) (by omega) i3 c1 c2).mono ?_
  rintro e w' ⟨rfl, hb, b⟩
  exact ⟨0, rfl, b, .inr ⟨rfl, _, rfl, hb⟩⟩
 ·rw [if_neg c5]
  refine (element_builder_begin.full B g N l op t A3 c3 w h hc3 hlen (by omega) (by omega) (by omega) i3 c1 c2).mono ?_
  rintro e w' ⟨rfl, b⟩
  exact ⟨3, rfl, b.mono hBw, .inl ⟨rfl, by decide⟩⟩
theorem end_all (B g N : Nat) (l : List El.Nd) (op : List Int) (T : Nat) (t : El.Tok) (va : Value) (w : World) (h : BAt w B g N l op) (hI : Inv l op T) :
 Calls Try.prog 30 #[.pointer (some ⟨g, 0, none⟩), .agg #[.int .i64 t.f0, .string t.f1, .string t.f2, va, .bool t.f4]] w fun e w' => Res w w' e B g (El.end_ l op t) := by
 obtain ⟨hgB, hgl, hpos⟩ := h.ge
 have hBw : B ≤ w.heap.size := Nat.le_of_lt (Nat.lt_of_le_of_lt hgB hgl)
 have i1 := hI.1
 have i2 := hI.2.1
 unfold El.end_
 by_cases c1 : El.inner op < 0
 ·rw [if_pos c1]
  refine (element_builder_end.no B g N l op t va w h (by omega) (by omega) c1).mono ?_
  rintro e w' ⟨rfl, b⟩
  exact ⟨6, rfl, b.mono hBw, .inl ⟨rfl, by decide⟩⟩
 rw [if_neg c1]
 obtain ⟨p0, p1⟩ := inner_in hI c1
 by_cases c2 : (l.getD (El.inner op).toNat El.zn).f1 = t.f1
 ·rw [if_pos c2]
  refine (element_builder_end.yes B g N l op t va w h (by omega) (by omega) p0 p1 c2).mono ?_
  rintro e w' ⟨rfl, hb, b⟩
  exact ⟨0, rfl, b, .inr ⟨rfl, _, rfl, hb⟩⟩
 ·rw [if_neg c2]
  refine (element_builder_end.other B g N l op t va w h (by omega) (by omega) p0 p1 c2).mono ?_
  rintro e w' ⟨rfl, b⟩
  exact ⟨6, rfl, b.mono hBw, .inl ⟨rfl, by decide⟩⟩
theorem text_all (B g N : Nat) (l : List El.Nd) (op : List Int) (T : Nat) (s : ByteArray) (w : World) (h : BAt w B g N l op) (hN : N ≤ w.heap.size) (hG : Glob w) (hI : Inv l op T) (hT : T + s.size ≤ 1000000000) :
 Calls Try.prog 31 #[.pointer (some ⟨g, 0, none⟩), .string s] w fun e w' => Res w w' e B g (El.text l op s) := by
 obtain ⟨hgB, hgl, hpos⟩ := h.ge
 have hBw : B ≤ w.heap.size := Nat.le_of_lt (Nat.lt_of_le_of_lt hgB hgl)
 have i1 := hI.1
 have i2 := hI.2.1
 unfold El.text
 by_cases c1 : El.inner op < 0
 ·rw [if_pos c1]
  refine (element_builder_text.out B g N l op s _ w h hG (by omega) (by omega) c1 rfl).mono ?_
  rintro e w' ⟨rfl, b⟩
  by_cases cb : El.blank s = true
  ·rw [if_pos cb, if_pos cb]
   exact ⟨0, rfl, b.mono hBw, .inr ⟨rfl, _, rfl, (h.below b).now⟩⟩
  ·rw [if_neg cb, if_neg cb]
   exact ⟨6, rfl, b.mono hBw, .inl ⟨rfl, by decide⟩⟩
 rw [if_neg c1]
 obtain ⟨p0, p1⟩ := inner_in hI c1
 by_cases c2 : s = El.nul
 ·rw [if_pos c2]
  refine (element_builder_text.same B g N l op s w h (by omega) p0 c2).mono ?_
  rintro e w' ⟨rfl, b⟩
  exact ⟨0, rfl, b.mono hBw, .inr ⟨rfl, _, rfl, (h.below b).now⟩⟩
 rw [if_neg c2]
 have puts : (∀ k, El.lastI l (El.inner op) = some k → ¬ (rd_T29 l (k : Int)).f1 = El.nul) → Calls Try.prog 31 #[.pointer (some ⟨g, 0, none⟩), .string s] w fun e w' => Res w w' e B g (match El.put l op El.nul s [] with | none => .error 3 | some l' => .ok (l', op)) := by
  intro hnew
  unfold El.put
  by_cases c5 : l.length < 2000
  ·rw [if_pos c5]
   refine (element_builder_text.putroom B g N l op s w h (by omega) p0 p1 c2 hnew c5 hN hI.2.2.1).mono ?_
   rintro e w' ⟨rfl, hb, b⟩
   exact ⟨0, rfl, b, .inr ⟨rfl, _, rfl, hb⟩⟩
  ·rw [if_neg c5]
   refine (element_builder_text.putfull B g N l op s w h (by omega) p0 p1 c2 hnew (by omega) (by omega)).mono ?_
   rintro e w' ⟨rfl, b⟩
   exact ⟨3, rfl, b.mono hBw, .inl ⟨rfl, by decide⟩⟩
 cases hk : El.lastI l (El.inner op) with
 | none => exact puts (fun k h => by rw [hk] at h; cases h)
 | some k =>
  have hkl := El.lastI_lt l _ k hk
  by_cases c3 : (l.getD k El.zn).f1 = El.nul
  ·simp only [if_pos c3]
   have hm : (l.getD k El.zn) ∈ l := by rw [List.getD_eq_getElem?_getD, List.getElem?_eq_getElem hkl]; exact List.getElem_mem hkl
   have hz := hI.2.2.2 _ hm
   refine (element_builder_text.add B g N l op s k w h (by omega) p0 p1 (by omega) c2 hk c3 (by show (l.getD k El.zn).f2.size + _ ≤ _; omega)).mono ?_
   rintro e w' ⟨rfl, hb, b⟩
   exact ⟨0, rfl, b, .inr ⟨rfl, _, rfl, hb⟩⟩
  ·simp only [if_neg c3]
   exact puts (fun k' h => by rw [hk] at h; injection h with h; rw [← h]; exact c3)
theorem element_builder_take.all (B g N : Nat) (l : List El.Nd) (op : List Int) (T : Nat) (t : El.Tok) (A3 : Option Addr) (c3 : Nat) (w : World) (h : BAt w B g N l op) (hN : N ≤ w.heap.size) (hG : Glob w) (hI : Inv l op T) (hT : T + t.f2.size ≤ 1000000000) (hc3 : Kd.C k68 w A3 t.f3.length t.f3) (hlen : t.f3.length ≤ 1000000) :
 Calls Try.prog 20 #[.pointer (some ⟨g, 0, none⟩), .agg #[.int .i64 t.f0, .string t.f1, .string t.f2, .slice A3 t.f3.length c3, .bool t.f4]] w fun e w' => Res w w' e B g (El.take l op t) := by
 obtain ⟨hgB, hgl, hpos⟩ := h.ge
 have hBw : B ≤ w.heap.size := Nat.le_of_lt (Nat.lt_of_le_of_lt hgB hgl)
 obtain ⟨W, hW⟩ : ∃ W, W = w.alloc (.cells #[.int .i64 t.f0, .string t.f1, .string t.f2, .slice A3 t.f3.length c3, .bool t.f4] 40) := ⟨_, rfl⟩
 have hX : W.heap[w.heap.size]? = some (.cells #[.int .i64 t.f0, .string t.f1, .string t.f2, .slice A3 t.f3.length c3, .bool t.f4] 40 (0, 0)) := by rw [hW]; exact heap_alloc_new w _
 have hBW : Below w.heap.size w W := by rw [hW]; exact below_alloc (Below.refl _ _) _
 have y0 := (blk_cell hX 0).trans rfl
 have y1 := (blk_cell hX 1).trans rfl
 have y2 := (blk_cell hX 2).trans rfl
 have y3 := (blk_cell hX 3).trans rfl
 have y4 := (blk_cell hX 4).trans rfl
 have hb := h.below hBW
 have hNW : N ≤ W.heap.size := Nat.le_trans hN hBW.size
 have C1 := Aside0.mk (begin_all B g N l op T t A3 c3 W hb hI (Kd.C_below hc3 hBW) hlen)
 have C2 := Aside0.mk (end_all B g N l op T t (.slice A3 t.f3.length c3) W hb hI)
 have C3 := Aside0.mk (text_all B g N l op T t.f2 W hb hNW (hG.step hBW) hI hT)
 have HBW := Aside0.mk (hBW.mono hBw)
 have HSAME := Aside0.mk (show Res w W (.returned (.int .i64 0)) B g (.ok (l, op)) from ⟨0, rfl, hBW.mono hBw, .inr ⟨rfl, _, rfl, hb.now⟩⟩)
 have HBAD := Aside0.mk (show Res w W (.returned (.int .i64 5)) B g (.error 5) from ⟨5, rfl, hBW.mono hBw, .inl ⟨rfl, by decide⟩⟩)
 have ht := Try.underlying40
 rw [hW] at C1 C2 C3 HBW y0 y1 y2 y3 y4 HSAME HBAD
 obtain ⟨kd, hkd⟩ : ∃ kd, kd = t.f0 := ⟨_, rfl⟩
 obtain ⟨ans, hans⟩ : ∃ ans, ans = El.take l op t := ⟨_, rfl⟩
 rw [← hans]
 unfold El.take at hans
 rw [← hkd] at hans C1 C2 C3 HBW y0 y1 y2 y3 y4 HSAME HBAD ⊢
 clear h hN hG hI hT hc3 hlen hb hNW hX hBW hW hgB hgl hpos hBw hkd
 have up : ∀ (V w' : World) (e : Ending) (s : Except Int El.St), Below B w V → Res V w' e B g s → Res w w' e B g s := by
  rintro V w' e s hV ⟨r, he, hb, hr⟩
  exact ⟨r, he, hV.trans hb, hr⟩
 go_enter Try.func20, Try.ntmps20
 by_cases k4 : kd = 4
 ·rw [if_pos k4] at hans
  subst k4
  rw [hans]
  have HS := HSAME.out
  go_wp2
  go_ret
  exact HS
 rw [if_neg k4] at hans
 have b4 : (kd == 4) = false := beq_eq_false_iff_ne.mpr k4
 by_cases k5 : kd = 5
 ·rw [if_pos k5] at hans
  subst k5
  rw [hans]
  have HS := HSAME.out
  go_wp2
  go_ret
  exact HS
 rw [if_neg k5] at hans
 have b5 : (kd == 5) = false := beq_eq_false_iff_ne.mpr k5
 by_cases k1 : kd = 1
 ·rw [if_pos k1] at hans
  subst k1
  rw [hans]
  go_wp2_with (first | (go_at_call 29; (with_reducible refine (C1.out).mono ?_); rintro e w2 ⟨r, rfl, hres⟩))
  go_ret
  exact up _ _ _ _ HBW.out ⟨r, rfl, hres⟩
 rw [if_neg k1] at hans
 have b1 : (kd == 1) = false := beq_eq_false_iff_ne.mpr k1
 by_cases k2 : kd = 2
 ·rw [if_pos k2] at hans
  subst k2
  rw [hans]
  go_wp2_with (first | (go_at_call 30; (with_reducible refine (C2.out).mono ?_); rintro e w2 ⟨r, rfl, hres⟩))
  go_ret
  exact up _ _ _ _ HBW.out ⟨r, rfl, hres⟩
 rw [if_neg k2] at hans
 have b2 : (kd == 2) = false := beq_eq_false_iff_ne.mpr k2
 by_cases k3 : kd = 3
 ·rw [if_pos k3] at hans
  subst k3
  rw [hans]
  go_wp2_with (first | (go_at_call 31; (with_reducible refine (C3.out).mono ?_); rintro e w2 ⟨r, rfl, hres⟩))
  go_ret
  exact up _ _ _ _ HBW.out ⟨r, rfl, hres⟩
 rw [if_neg k3] at hans
 have b3 : (kd == 3) = false := beq_eq_false_iff_ne.mpr k3
 rw [hans]
 have HS := HBAD.out
 go_wp2
 go_ret
 exact HS
def El.fits (ts : List El.Tok) : Bool := decide ((ts.map fun t => t.f2.size).sum ≤ 1000000000) && ts.all (fun t => decide (t.f3.length ≤ 1000000)) && decide (ts.length ≤ 1000000000)
def element_Tree.f (l0 : List S40) : Option (List S29 × Int) := if El.fits l0 = true then some (El.tree l0) else none
theorem rd_tok (xs : List S40) (i : Nat) (h : i < xs.length) : rd_T40 xs (i : Int) = xs[i] := by
 simp [rd_T40, List.getD, h]
theorem element_Tree.loop (A0 : Option Addr) (c0 : Nat) (l0 : List S40) (ans : Except Int El.St) (w : World) (hr0 : Kd.C k40 w A0 l0.length l0) (hG : Glob w) (hfit : El.fits l0 = true) (hans : El.all [] [] l0 = ans) :
 Calls Try.prog 13 #[.slice A0 l0.length c0] w fun e w' => Below w.heap.size w w' ∧ (∀ r, ans = .error r → e = .returned (.tuple #[.slice none 0 0, .int .i64 r])) ∧ (∀ s, ans = .ok s → if s.1 = [] ∨ s.2 ≠ [] then e = .returned (.tuple #[.slice none 0 0, .int .i64 6]) else ∃ v0_ : Value, e = .returned (.tuple #[v0_, .int .i64 0]) ∧ Kd.S k29 29 w' w.heap.size (fun _ => True) v0_ s.1) := by
 unfold El.fits at hfit
 simp only [Bool.and_eq_true, decide_eq_true_eq, List.all_eq_true] at hfit
 obtain ⟨⟨hsum, hatt⟩, hlen⟩ := hfit
 have hpos := hG.lt
 obtain ⟨POST, hPOST⟩ : ∃ POST : Ending → World → Prop, POST = fun e w' => Below w.heap.size w w' ∧ (∀ r, ans = .error r → e = .returned (.tuple #[.slice none 0 0, .int .i64 r])) ∧ (∀ s, ans = .ok s → if s.1 = [] ∨ s.2 ≠ [] then e = .returned (.tuple #[.slice none 0 0, .int .i64 6]) else ∃ v0_ : Value, e = .returned (.tuple #[v0_, .int .i64 0]) ∧ Kd.S k29 29 w' w.heap.size (fun _ => True) v0_ s.1) := ⟨_, rfl⟩
 rw [← hPOST]
 have HPO := Lib.hid hPOST
 have HSUM := Lib.hid hsum
 have HATT := Lib.hid hatt
 have HANS := Aside0.mk hans
 have HR := Aside0.mk hr0
 have HG := Aside0.mk hG
 have hu := Try.underlying59
 have ht := Try.underlying40
 clear hPOST hsum hatt hans hr0 hG
 have hmk : (Instr.makeMap 57 none).run Try.prog w = .ok (.map (some w.heap.size)) (w.alloc (.map #[] 0)) := run_makeMap 57 w
 have hms : (w.alloc (.map #[] 0)).heap.size = w.heap.size + 1 := by show Array.size (Array.push _ _) = _; exact Array.size_push _
 go_enter Try.func13, Try.ntmps13
 go_wp2
 refine wp_scope_loop 0 (by rfl) ?_
 go_wp2_with (fail)
 obtain ⟨W, hW⟩ : ∃ W, W = (w.alloc (.map #[] 0)).alloc (.cells #[.slice none 0 0, .slice none 0 0, .map (some w.heap.size)] 59) := ⟨_, rfl⟩
 obtain ⟨g, hg⟩ : ∃ g, g = w.heap.size + 1 := ⟨_, rfl⟩
 obtain ⟨B, hBe⟩ : ∃ B, B = w.heap.size := ⟨_, rfl⟩
 obtain ⟨wb, hwb⟩ : ∃ wb, wb = w := ⟨_, rfl⟩
 have hblk : W.heap[g]? = some (.cells #[.slice none 0 0, .slice none 0 0, .map (some B)] 59 (0, 0)) := by
  rw [hW, hg, hBe, ← hms]; exact heap_alloc_new _ _
 have hmap : W.ownsMap Try.prog 3 (plainElem (H := Unit) Try.prog 3) B 0 (.map []) := by
  rw [hW, hBe]
  exact (World.ownsMap_made w Try.prog 3 _).alloc _
 have hBW : Below B wb W := by
  rw [hW, hBe, hwb]
  exact below_alloc (below_alloc (Below.refl _ _) _) _
 have H2 := Aside0.mk (show BAt W B g W.heap.size [] [] from ⟨_, _, B, 0, _, hblk, Kd.S_nil _ _ _ _ _, Kd.R_nil _ _ _ _ _, hmap, Nat.zero_le _, El.MapIs.none, by omega, Nat.le_refl _, by omega⟩)
 have B2 := Aside0.mk hBW
 have HGb := Aside0.mk (show Glob wb from by rw [hwb]; exact HG.out)
 have HRb := Aside0.mk (show Kd.C k40 wb A0 l0.length l0 from by rw [hwb]; exact HR.out)
 have HBE := Lib.hid (show B = wb.heap.size ∧ 0 < B from by rw [hBe, hwb]; exact ⟨rfl, hpos⟩)
 have HPB := Lib.hid (show POST = fun e w' => Below B wb w' ∧ (∀ r, ans = .error r → e = .returned (.tuple #[.slice none 0 0, .int .i64 r])) ∧ (∀ s, ans = .ok s → if s.1 = [] ∨ s.2 ≠ [] then e = .returned (.tuple #[.slice none 0 0, .int .i64 6]) else ∃ v0_ : Value, e = .returned (.tuple #[v0_, .int .i64 0]) ∧ Kd.S k29 29 w' B (fun _ => True) v0_ s.1) from by rw [hBe, hwb]; exact HPO.out)
 rw [← hW, ← hg]
 clear hblk hmap hBW hW hg hBe hwb HPO HG HR hmk hms hpos
 refine wp_label ?_
 rename_i hlb
 refine hlb _ _ ?_
 refine wp_at_label ?_
 refine LoopAt.intro (fun aB_ kq_ a1 w1 => ∃ (u2 u3 u5 u6 u10 u11 u12 u13 u14 u15 u16 u17 u18 u19 u20 u21 u22 u23 u24 u25 u26 u27 u28 u29 u30 u31 u32 u33 u34 u35 u36 u37 u38 u39 u40 u41 u42 : Value), (∃ (i : Nat) (l : List El.Nd) (op : List Int) (T : Nat), i ≤ l0.length ∧ i + kq_ = l0.length + 1 ∧ u5 = .int .i64 (i : Int) ∧ Aside0 (El.all l op (l0.drop i) = ans) ∧ Aside0 (Inv l op T) ∧ Aside0 (T + ((l0.drop i).map fun t => t.f2.size).sum ≤ 1000000000) ∧ Aside0 (BAt w1 B g w1.heap.size l op) ∧ Aside0 (Below B wb w1)) ∧ a1 = (((((((((((((((((((((((((((((((((((((aB_.put (some 2) u2).put (some 3) u3).put (some 5) u5).put (some 6) u6).put (some 10) u10).put (some 11) u11).put (some 12) u12).put (some 13) u13).put (some 14) u14).put (some 15) u15).put (some 16) u16).put (some 17) u17).put (some 18) u18).put (some 19) u19).put (some 20) u20).put (some 21) u21).put (some 22) u22).put (some 23) u23).put (some 24) u24).put (some 25) u25).put (some 26) u26).put (some 27) u27).put (some 28) u28).put (some 29) u29).put (some 30) u30).put (some 31) u31).put (some 32) u32).put (some 33) u33).put (some 34) u34).put (some 35) u35).put (some 36) u36).put (some 37) u37).put (some 38) u38).put (some 39) u39).put (some 40) u40).put (some 41) u41).put (some 42) u42)) (l0.length + 1) ?_ ?_
 ·(repeat apply Exists.intro)
  (try simp only [Act.put, List.setIfInBounds_toArray, List.set_cons_zero, List.set_cons_succ])
  refine ⟨?_, rfl⟩
  exact ⟨0, [], [], 0, Nat.zero_le _, by omega, rfl, ⟨by rw [List.drop_zero]; exact HANS.out⟩, ⟨inv_nil⟩, ⟨by rw [List.drop_zero, Nat.zero_add]; exact HSUM.out⟩, H2, B2⟩
 ·intro gk a1 wr hinv
  obtain ⟨u2, u3, u5, u6, u10, u11, u12, u13, u14, u15, u16, u17, u18, u19, u20, u21, u22, u23, u24, u25, u26, u27, u28, u29, u30, u31, u32, u33, u34, u35, u36, u37, u38, u39, u40, u41, u42, hrel, ha⟩ := hinv
  subst ha
  (try simp only [Act.put, List.setIfInBounds_toArray, List.set_cons_zero, List.set_cons_succ])
  intro Js0 Ks0 hJs0 hKs0
  clear H2 B2 HANS
  obtain ⟨i, l, op, T, hi, hgk, rfl, HA, HI, HT, H, HB⟩ := hrel
  obtain ⟨g1, rfl⟩ : ∃ g1, gk = g1 + 1 := ⟨gk - 1, by omega⟩
  have HG1 := Aside0.mk (HGb.out.below HB.out HBE.out.2)
  by_cases hlt : i < l0.length
  ·have d1 : decide ((i : Int) < (l0.length : Int)) = true := decide_eq_true (by omega)
   have d1' : decide (i < l0.length) = true := decide_eq_true hlt
   have p1 := eq_true (show (0 : Int) ≤ (i : Int) by omega)
   have p2 := eq_true (show (i : Int) < (l0.length : Int) by omega)
   have p3 := eq_true hlt
   have hC := Kd.C_below (w1 := wr) HRb.out (by have := HB.out; rw [HBE.out.1] at this; exact this)
   obtain ⟨ad, A3, c3, e_, q0, q1, q2, q3, q4, q5, q6⟩ := at_T40 hC (i : Int) (by omega) (by omega)
   cases e_
   simp only [Int.toNat_natCast] at q0 q1 q2 q3 q4
   obtain ⟨tk, htk⟩ : ∃ tk, tk = rd_T40 l0 (i : Int) := ⟨_, rfl⟩
   rw [← htk] at q0 q1 q2 q3 q4 q6
   have hel : tk = l0[i] := by rw [htk, rd_tok l0 i hlt]
   have hdr : l0.drop i = tk :: l0.drop (i + 1) := by rw [List.drop_eq_getElem_cons hlt, hel]
   have hA := HA.out
   have hT := HT.out
   rw [hdr] at hA hT
   simp only [List.map_cons, List.sum_cons] at hT
   have CT := Aside0.mk (element_builder_take.all B g wr.heap.size l op T tk A3 c3 wr H.out (Nat.le_refl _) HG1.out HI.out (by omega) q6 (HATT.out tk (by rw [hel]; exact List.getElem_mem hlt)))
   have HA1 := Aside0.mk hA
   have HT1 := Aside0.mk hT
   have ew : wrap64 ((i : Int) + 1) = ((i + 1 : Nat) : Int) := by unfold wrap64; omega
   have ew' : wrap64 ((i : Int) + 1) = (i : Int) + 1 := by unfold wrap64; omega
   clear hA hT hdr hel htk hC q5 q6 ew'
   go_wp2_with (go_at_call 20; (with_reducible refine CT.out.mono ?_))
   rintro e wn ⟨r, rfl, bn, hres⟩
   have B3 := Aside0.mk (HB.out.trans bn)
   clear bn CT
   rcases hres with ⟨hs, hr⟩ | ⟨rfl, s, hs, hb⟩
   ·have b0 : (r == 0) = false := beq_eq_false_iff_ne.mpr hr
    have b1 : (r != 0) = true := bne_iff_ne.mpr hr
    have hA := HA1.out
    unfold El.all at hA
    rw [hs] at hA
    have HA2 := Aside0.mk hA
    clear hs hr hA
    go_wp2_with (fail)
    (try simp only [Exit.inBlock, Exit.then, jump_ret])
    (try go_ret2)
    rw [HPB.out]
    refine ⟨B3.out, fun r' h => ?_, fun s h => ?_⟩
    ·rw [← HA2.out] at h; injection h with h; subst h; rfl
    ·rw [← HA2.out] at h; cases h
   ·have hA := HA1.out
    unfold El.all at hA
    rw [hs] at hA
    have hI' := inv_take HI.out tk s hs
    have HA2 := Aside0.mk (show El.all s.1 s.2 (l0.drop (i + 1)) = ans from hA)
    have HI2 := Aside0.mk hI'
    have HT2 := Aside0.mk (show T + tk.f2.size + ((l0.drop (i + 1)).map fun t => t.f2.size).sum ≤ 1000000000 from by have := HT1.out; omega)
    have H3 := Aside0.mk hb
    clear hA hI' hs hb
    go_wp2_with (fail)
    refine wp_goto (And.intro rfl ?_)
    refine hKs0 _ _ ?_
    go_roundg g1
    case measure => omega
    case rel => exact ⟨i + 1, s.1, s.2, T + tk.f2.size, by omega, by omega, by first | rfl | (rw [ew]) | (simp; done), HA2, HI2, HT2, H3, B3⟩
  have hil : i = l0.length := by omega
  have hA := HA.out
  rw [hil, List.drop_length] at hA
  have hA : .ok (l, op) = ans := hA
  have d1 : decide ((i : Int) < (l0.length : Int)) = false := decide_eq_false (by omega)
  have d1' : decide (i < l0.length) = false := decide_eq_false hlt
  have HA1 := Aside0.mk hA
  have hb := H.out
  obtain ⟨v1, v2, m, n, D, h1, h2, h3, h4, _⟩ := hb
  obtain ⟨A1, c1, rfl⟩ := Kd.S_slice h2
  obtain ⟨A2, c2, rfl⟩ := Kd.R_slice h3
  have x0 := (blk_cell h1 0).trans rfl
  have x1 := (blk_cell h1 1).trans rfl
  have H2 := Aside0.mk h2
  clear h1 h2 h3 h4 hA hil H
  by_cases hl : l = []
  ·have b0 : ((l.length : Int) == 0) = true := by rw [hl]; rfl
   have b0' : (l.length == 0) = true := by rw [hl]; rfl
   have HL := Lib.hid hl
   clear hl
   go_wp2_with (fail)
   (try simp only [Exit.inBlock, Exit.then, jump_ret])
   (try go_ret2)
   rw [HPB.out]
   refine ⟨HB.out, fun r' h => ?_, fun s h => ?_⟩
   ·rw [← HA1.out] at h; cases h
   ·rw [← HA1.out] at h; injection h with h; rw [← h, if_pos (.inl HL.out)]; rfl
  have hln : l.length ≠ 0 := fun h => hl (List.eq_nil_of_length_eq_zero h)
  have b0 : ((l.length : Int) == 0) = false := beq_eq_false_iff_ne.mpr (by omega)
  have b0' : (l.length == 0) = false := beq_eq_false_iff_ne.mpr hln
  by_cases ho : op = []
  ·have e0 : decide ((0 : Int) < (op.length : Int)) = false := by rw [ho]; rfl
   have e0' : decide (0 < op.length) = false := by rw [ho]; rfl
   have HL := Lib.hid (And.intro hl ho)
   clear hl ho hln
   go_wp2_with (fail)
   (try simp only [Exit.inBlock, Exit.then, jump_ret])
   (try go_ret2)
   rw [HPB.out]
   refine ⟨HB.out, fun r' h => ?_, fun s h => ?_⟩
   ·rw [← HA1.out] at h; cases h
   ·rw [← HA1.out] at h
    injection h with h
    rw [← h, if_neg (fun h => h.elim HL.out.1 (fun h2 => h2 HL.out.2))]
    exact ⟨_, rfl, Kd.S_mono H2.out (fun _ _ => trivial)⟩
  have hon : op.length ≠ 0 := fun h => ho (List.eq_nil_of_length_eq_zero h)
  have e0 : decide ((0 : Int) < (op.length : Int)) = true := decide_eq_true (by omega)
  have e0' : decide (0 < op.length) = true := decide_eq_true (by omega)
  have HL := Lib.hid ho
  clear hl ho hln hon
  go_wp2_with (fail)
  (try simp only [Exit.inBlock, Exit.then, jump_ret])
  (try go_ret2)
  rw [HPB.out]
  refine ⟨HB.out, fun r' h => ?_, fun s h => ?_⟩
  ·rw [← HA1.out] at h; cases h
  ·rw [← HA1.out] at h
   injection h with h
   rw [← h, if_pos (.inr HL.out)]
   rfl
theorem element_Tree.calls (A0 : Option Addr) (c0 : Nat) (l0 : List S40) (r1 : List S29) (r2 : Int) (w : World) (hr0 : Kd.C k40 w A0 l0.length l0) (hc0 : l0.length ≤ c0) (hG : Glob w) (h : element_Tree.f l0 = some (r1, r2)) :
 Calls Try.prog 13 #[.slice A0 l0.length c0] w fun e w' => ∃ v0_ : Value, e = .returned (.tuple #[v0_, .int .i64 r2]) ∧ Kd.S k29 29 w' w.heap.size (fun _ => True) v0_ r1 ∧ Below w.heap.size w w' := by
 unfold element_Tree.f at h
 by_cases hf : El.fits l0 = true
 rotate_left
 ·rw [if_neg hf] at h
  cases h
 rw [if_pos hf] at h
 have h := Option.some.inj h
 unfold El.tree at h
 refine (element_Tree.loop A0 c0 l0 _ w hr0 hG hf rfl).mono ?_
 rintro e w' ⟨b, he, hs⟩
 cases ha : El.all [] [] l0 with
 | error r =>
  rw [ha] at h
  obtain ⟨rfl, rfl⟩ := Prod.mk.inj h
  exact ⟨_, he r ha, Kd.S_nil _ _ _ _ _, b⟩
 | ok s =>
  rw [ha] at h
  have hs := hs s ha
  simp only at h
  by_cases hq : s.1 = [] ∨ s.2 ≠ []
  ·rw [if_pos hq] at h hs
   obtain ⟨rfl, rfl⟩ := Prod.mk.inj h
   exact ⟨_, hs, Kd.S_nil _ _ _ _ _, b⟩
  ·rw [if_neg hq] at h hs
   obtain ⟨rfl, rfl⟩ := Prod.mk.inj h
   obtain ⟨v, rfl, hv⟩ := hs
   exact ⟨_, rfl, hv, b⟩
def chars_Allowed.f (a0 : Int) : Option (Bool) := if a0 > 32 then (some true) else ((chars_Space.f a0).bind fun t101 => (some t101))
theorem chars_Allowed.calls (a0 : Int) (r : Bool) (w : World) (hG : Glob w) (h : chars_Allowed.f a0 = some r) :
 Calls Try.prog 23 #[.int .u8 a0] w fun e w' => e = .returned (.bool r) ∧ Drawn0 w w' := by
 have HG := Aside0.mk hG
 clear hG
 have H : (if a0 > 32 then (some true) else ((chars_Space.f a0).bind fun t101 => (some t101))) = some r := h
 clear h
 by_cases c2 : a0 > 32
 ·rw [if_pos c2] at H
  have c2b0 := dT c2
  clear c2
  obtain rfl := Option.some.inj H
  go_enter Try.func23, Try.ntmps23
  go_wp2
  go_ret
  exact ⟨by first | rfl | (simp; done) | (simp [*]; done), by repeat (first | exact Drawn0.refl _ | apply Drawn0.step)⟩
 rw [if_neg c2] at H
 have c2b0 := dF c2
 clear c2
 replace H := bi H
 obtain ⟨t101, A30, H⟩ := H
 try dsimp only at H
 have A3 := Aside0.mk A30
 clear A30
 obtain rfl := Option.some.inj H
 go_enter Try.func23, Try.ntmps23
 go_wp2_with (first | (go_at_call 33; (with_reducible refine (chars_Space.calls a0 t101 _ ?side1 A3.out).mono ?_); (case side1 => exact Glob.drawn HG.out (by repeat (first | exact Drawn0.refl _ | apply Drawn0.step))); rintro e w' ⟨rfl, ⟨nd, rfl⟩⟩))
 go_ret
 exact ⟨by first | rfl | (simp; done) | (simp [*]; done), by repeat (first | exact Drawn0.refl _ | apply Drawn0.step)⟩
theorem behind_some {x l r : List UInt8} (h : Tk.behind x l = some r) : Lib.hasPrefix l x = true ∧ Lib.trimPrefix l x = r := by
 unfold Tk.behind at h
 split at h
 ·rename_i hp
  injection h with h
  exact ⟨hp, by unfold Lib.trimPrefix; rw [if_pos (show Lib.hasPrefix l x = true from hp), h]⟩
 ·cases h
theorem behind_none {x l : List UInt8} (h : Tk.behind x l = none) : Lib.hasPrefix l x = false ∧ Lib.trimPrefix l x = l := by
 unfold Tk.behind at h
 split at h
 ·cases h
 ·rename_i hp
  have hp' : Lib.hasPrefix l x = false := Bool.eq_false_iff.2 hp
  exact ⟨hp', by unfold Lib.trimPrefix; rw [if_neg (by rw [hp']; decide)]⟩
theorem token_walk_eat.callsK (B g : Nat) {ok : Nat → Prop} (l x : List UInt8) (L : List S40) (w : World) (h : WalkAt w B g ok (Tk.bs l) L) :
 Calls Try.prog 34 #[.pointer (some ⟨g, 0, none⟩), .string (Tk.bs x)] w fun e w' => e = .returned (.bool (Lib.hasPrefix l x)) ∧ WalkAt w' B g ok (Tk.bs (Lib.trimPrefix l x)) L ∧ Below B w w' ∧ KeepBut w w' g none := by
 have c0 := h.cell0
 have f0 := h.frozen 0
 have H := Aside0.mk h
 clear h
 go_enter Try.func34, Try.ntmps34
 go_wp2_with (first | (go_at_call 48; refine (Try.strings_CutPrefix _ _ _).mono ?_; rintro e w' ⟨rfl, rfl⟩))
 go_ret
 exact ⟨rfl, H.out.left _, (Below.refl _ _).setCell (p := ⟨g, 0, none⟩) H.out.ge _, (KeepBut.refl _ _ _).set_ 0 _⟩
theorem token_walk_eat.yesK (B g : Nat) {ok : Nat → Prop} (l x r : List UInt8) (L : List S40) (w : World) (h : WalkAt w B g ok (Tk.bs l) L) (hx : Tk.behind x l = some r) :
 Calls Try.prog 34 #[.pointer (some ⟨g, 0, none⟩), .string (Tk.bs x)] w fun e w' => e = .returned (.bool true) ∧ WalkAt w' B g ok (Tk.bs r) L ∧ Below B w w' ∧ KeepBut w w' g none := by
 have := token_walk_eat.callsK B g l x L w h
 rwa [(behind_some hx).1, (behind_some hx).2] at this
theorem token_walk_eat.noK (B g : Nat) {ok : Nat → Prop} (l x : List UInt8) (L : List S40) (w : World) (h : WalkAt w B g ok (Tk.bs l) L) (hx : Tk.behind x l = none) :
 Calls Try.prog 34 #[.pointer (some ⟨g, 0, none⟩), .string (Tk.bs x)] w fun e w' => e = .returned (.bool false) ∧ WalkAt w' B g ok (Tk.bs l) L ∧ Below B w w' ∧ KeepBut w w' g none := by
 have := token_walk_eat.callsK B g l x L w h
 rwa [(behind_none hx).1, (behind_none hx).2] at this
theorem token_walk_eat.no (B g : Nat) {ok : Nat → Prop} (l x : List UInt8) (L : List S40) (w : World) (h : WalkAt w B g ok (Tk.bs l) L) (hx : Tk.behind x l = none) :
 Calls Try.prog 34 #[.pointer (some ⟨g, 0, none⟩), .string (Tk.bs x)] w fun e w' => e = .returned (.bool false) ∧ WalkAt w' B g ok (Tk.bs l) L ∧ Below B w w' := (token_walk_eat.noK B g l x L w h hx).mono fun e w' h => ⟨h.1, h.2.1, h.2.2.1⟩
theorem contains_no {a x : List UInt8} (h : ¬ 0 ≤ Lib.index a x) : Lib.contains a x = false := by
 unfold Lib.contains
 exact decide_eq_false h
theorem contains_yes {a x : List UInt8} (h : 0 ≤ Lib.index a x) : Lib.contains a x = true := by
 unfold Lib.contains
 exact decide_eq_true h
theorem upto_len {x l a r : List UInt8} (h : Tk.upto x l = some (a, r)) : a.length ≤ l.length ∧ r.length ≤ l.length := by
 unfold Tk.upto at h
 split at h
 ·injection h with h
  injection h with h1 h2
  rw [← h1, ← h2, List.length_take, List.length_drop]
  omega
 ·cases h
theorem token_walk_comment.yes (B g : Nat) {ok : Nat → Prop} (l r : List UInt8) (t : S40) (L : List S40) (w : World) (h : WalkAt w B g ok (Tk.bs l) L) (hG : Glob w) (hl : l.length ≤ 1000000) (hL : L.length ≤ 100000) (hok : ∀ k, w.heap.size ≤ k → ok k) (hx : Tk.comment l = some (t, r)) :
 Calls Try.prog 35 #[.pointer (some ⟨g, 0, none⟩)] w fun e w' => e = .returned (.bool true) ∧ WalkAt w' B g ok (Tk.bs r) (L ++ [t]) ∧ Below B w w' := by
 unfold Tk.comment at hx
 obtain ⟨⟨a, b⟩, hu, hx⟩ := Option.bind_eq_some_iff.1 hx
 simp only at hx
 split at hx
 ·cases hx
 rename_i hn
 obtain ⟨rfl, rfl⟩ := Prod.mk.inj (Option.some.inj hx)
 have hn1 : ¬ 0 ≤ Lib.index a [45, 45] := fun h => hn (.inl h)
 have hn2 : Lib.hasSuffix a [45] = false := Bool.eq_false_iff.2 fun h => hn (.inr h)
 have hal := (upto_len hu).1
 have has : (Tk.bs a).size < 4294967281 := by rw [bs_size]; omega
 have has2 : (Tk.bs a).size ≤ 9223372036854775807 := by omega
 have C1 : ∀ W, Glob W → Calls Try.prog 50 #[.string (Tk.bs a), .string (Tk.bs [45, 45])] W fun e w' => e = .returned (.bool false) ∧ w' = W := by
  intro W hW
  obtain ⟨m, hm⟩ := hW
  refine (Try.strings_Contains (Tk.bs a) (Tk.bs [45, 45]) m W has hm).mono ?_
  rintro e w' ⟨rfl, rfl⟩
  exact ⟨by rw [show Lib.contains (Tk.bs a).data.toList (Tk.bs [45, 45]).data.toList = false from contains_no hn1], rfl⟩
 have C2 : ∀ W, Calls Try.prog 51 #[.string (Tk.bs a), .string (Tk.bs [45])] W fun e w' => e = .returned (.bool false) ∧ w' = W := by
  intro W
  refine (Try.strings_HasSuffix (Tk.bs a) (Tk.bs [45]) W has2).mono ?_
  rintro e w' ⟨rfl, rfl⟩
  exact ⟨by rw [show Lib.hasSuffix (Tk.bs a).data.toList (Tk.bs [45]).data.toList = false from hn2], rfl⟩
 have hB := h.ge
 have hpos := h.pos
 have H := Aside0.mk h
 have HG := Aside0.mk hG
 have HU := Aside0.mk hu
 clear h hG hu hn hn1 hn2 hx has has2
 go_enter Try.func35, Try.ntmps35
 go_wp2_with (first | (go_at_call 49; refine (token_walk_upTo.yesK B g l [45, 45, 62] a _ L _ H.out HG.out hl HU.out).mono ?_; rintro e w1 ⟨rfl, h1, b1, k1⟩; have K1 := Aside0.mk k1; clear k1; have H1 := Aside0.mk h1; have B1 := Aside0.mk b1; have HG1 := Aside0.mk (HG.out.below b1 hpos); clear h1 b1) | (go_at_call 50; refine (C1 _ HG1.out).mono ?_; rintro e w2 ⟨rfl, rfl⟩) | (go_at_call 51; refine (C2 _).mono ?_; rintro e w2 ⟨rfl, rfl⟩) | (go_at_call 52; refine (token_walk_put.calls B g (fun _ => False) _ L (Tk.tk 4 [] a [] false) (.slice none 0 0) _ (H1.out.more (fun k _ hk => ⟨hk, fun h => h⟩)) (Kd.R_nil _ _ _ _ _) (fun _ h => h.elim) (fun k hk => hok k (Nat.le_trans K1.out.1 hk)) hL).mono ?_; rintro e w3 ⟨rfl, h3, b3⟩; have H3 := Aside0.mk h3; have B3 := Aside0.mk b3; clear h3 b3))
 go_ret
 exact ⟨rfl, H3.out, B1.out.trans B3.out⟩
theorem token_walk_comment.no (B g : Nat) {ok : Nat → Prop} (l : List UInt8) (L : List S40) (w : World) (h : WalkAt w B g ok (Tk.bs l) L) (hG : Glob w) (hl : l.length ≤ 1000000) (hx : Tk.comment l = none) :
 Calls Try.prog 35 #[.pointer (some ⟨g, 0, none⟩)] w fun e w' => e = .returned (.bool false) ∧ Below B w w' := by
 have hB := h.ge
 have hpos := h.pos
 unfold Tk.comment at hx
 have H := Aside0.mk h
 have HG := Aside0.mk hG
 clear h hG
 cases hu : Tk.upto [45, 45, 62] l with
 | none =>
  have HU := Aside0.mk hu
  clear hu hx
  go_enter Try.func35, Try.ntmps35
  go_wp2_with (first | (go_at_call 49; refine (token_walk_upTo.no B g l [45, 45, 62] L _ H.out HG.out hl HU.out).mono ?_; rintro e w1 ⟨rfl, h1, b1⟩; have B1 := Aside0.mk b1; clear h1 b1))
  go_ret
  exact ⟨rfl, B1.out⟩
 | some p =>
  obtain ⟨a, r⟩ := p
  rw [hu, Option.bind_some] at hx
  have hn : 0 ≤ Lib.index a [45, 45] ∨ Lib.hasSuffix a [45] = true := by
   refine Classical.byContradiction fun hc => ?_
   rw [if_neg hc] at hx
   cases hx
  have hal := (upto_len hu).1
  have has : (Tk.bs a).size < 4294967281 := by rw [bs_size]; omega
  have has2 : (Tk.bs a).size ≤ 9223372036854775807 := by omega
  have HU := Aside0.mk hu
  clear hu hx
  by_cases h1 : 0 ≤ Lib.index a [45, 45]
  ·have C1 : ∀ W, Glob W → Calls Try.prog 50 #[.string (Tk.bs a), .string (Tk.bs [45, 45])] W fun e w' => e = .returned (.bool true) ∧ w' = W := by
    intro W hW
    obtain ⟨m, hm⟩ := hW
    refine (Try.strings_Contains (Tk.bs a) (Tk.bs [45, 45]) m W has hm).mono ?_
    rintro e w' ⟨rfl, rfl⟩
    exact ⟨by rw [show Lib.contains (Tk.bs a).data.toList (Tk.bs [45, 45]).data.toList = true from contains_yes h1], rfl⟩
   clear hn h1 has has2
   go_enter Try.func35, Try.ntmps35
   go_wp2_with (first | (go_at_call 49; refine (token_walk_upTo.yes B g l [45, 45, 62] a _ L _ H.out HG.out hl HU.out).mono ?_; rintro e w1 ⟨rfl, h1, b1⟩; have B1 := Aside0.mk b1; have HG1 := Aside0.mk (HG.out.below b1 hpos); clear h1 b1) | (go_at_call 50; refine (C1 _ HG1.out).mono ?_; rintro e w2 ⟨rfl, rfl⟩))
   go_ret
   exact ⟨rfl, B1.out⟩
  have h2 := hn.resolve_left h1
  have C1 : ∀ W, Glob W → Calls Try.prog 50 #[.string (Tk.bs a), .string (Tk.bs [45, 45])] W fun e w' => e = .returned (.bool false) ∧ w' = W := by
   intro W hW
   obtain ⟨m, hm⟩ := hW
   refine (Try.strings_Contains (Tk.bs a) (Tk.bs [45, 45]) m W has hm).mono ?_
   rintro e w' ⟨rfl, rfl⟩
   exact ⟨by rw [show Lib.contains (Tk.bs a).data.toList (Tk.bs [45, 45]).data.toList = false from contains_no h1], rfl⟩
  have C2 : ∀ W, Calls Try.prog 51 #[.string (Tk.bs a), .string (Tk.bs [45])] W fun e w' => e = .returned (.bool true) ∧ w' = W := by
   intro W
   refine (Try.strings_HasSuffix (Tk.bs a) (Tk.bs [45]) W has2).mono ?_
   rintro e w' ⟨rfl, rfl⟩
   exact ⟨by rw [show Lib.hasSuffix (Tk.bs a).data.toList (Tk.bs [45]).data.toList = true from h2], rfl⟩
  clear hn h1 h2 has has2
  go_enter Try.func35, Try.ntmps35
  go_wp2_with (first | (go_at_call 49; refine (token_walk_upTo.yes B g l [45, 45, 62] a _ L _ H.out HG.out hl HU.out).mono ?_; rintro e w1 ⟨rfl, h1, b1⟩; have B1 := Aside0.mk b1; have HG1 := Aside0.mk (HG.out.below b1 hpos); clear h1 b1) | (go_at_call 50; refine (C1 _ HG1.out).mono ?_; rintro e w2 ⟨rfl, rfl⟩) | (go_at_call 51; refine (C2 _).mono ?_; rintro e w2 ⟨rfl, rfl⟩))
  go_ret
  exact ⟨rfl, B1.out⟩
theorem token_walk_data.yes (B g : Nat) {ok : Nat → Prop} (l r : List UInt8) (t : S40) (L : List S40) (w : World) (h : WalkAt w B g ok (Tk.bs l) L) (hG : Glob w) (hl : l.length ≤ 1000000) (hL : L.length ≤ 100000) (hok : ∀ k, w.heap.size ≤ k → ok k) (hx : Tk.data l = some (t, r)) :
 Calls Try.prog 36 #[.pointer (some ⟨g, 0, none⟩)] w fun e w' => e = .returned (.bool true) ∧ WalkAt w' B g ok (Tk.bs r) (L ++ [t]) ∧ Below B w w' := by
 unfold Tk.data at hx
 obtain ⟨⟨a, b⟩, hu, hx⟩ := Option.map_eq_some_iff.1 hx
 obtain ⟨rfl, rfl⟩ := Prod.mk.inj hx
 have hB := h.ge
 have hpos := h.pos
 have H := Aside0.mk h
 have HG := Aside0.mk hG
 have HU := Aside0.mk hu
 clear h hG hu hx
 go_enter Try.func36, Try.ntmps36
 go_wp2_with (first | (go_at_call 49; refine (token_walk_upTo.yesK B g l [93, 93, 62] a _ L _ H.out HG.out hl HU.out).mono ?_; rintro e w1 ⟨rfl, h1, b1, k1⟩; have K1 := Aside0.mk k1; clear k1; have H1 := Aside0.mk h1; have B1 := Aside0.mk b1; clear h1 b1) | (go_at_call 52; refine (token_walk_put.calls B g (fun _ => False) _ L (Tk.tk 3 [] a [] false) (.slice none 0 0) _ (H1.out.more (fun k _ hk => ⟨hk, fun h => h⟩)) (Kd.R_nil _ _ _ _ _) (fun _ h => h.elim) (fun k hk => hok k (Nat.le_trans K1.out.1 hk)) hL).mono ?_; rintro e w3 ⟨rfl, h3, b3⟩; have H3 := Aside0.mk h3; have B3 := Aside0.mk b3; clear h3 b3))
 go_ret
 exact ⟨rfl, H3.out, B1.out.trans B3.out⟩
theorem token_walk_data.no (B g : Nat) {ok : Nat → Prop} (l : List UInt8) (L : List S40) (w : World) (h : WalkAt w B g ok (Tk.bs l) L) (hG : Glob w) (hl : l.length ≤ 1000000) (hx : Tk.data l = none) :
 Calls Try.prog 36 #[.pointer (some ⟨g, 0, none⟩)] w fun e w' => e = .returned (.bool false) ∧ Below B w w' := by
 unfold Tk.data at hx
 have hu := Option.map_eq_none_iff.1 hx
 have H := Aside0.mk h
 have HG := Aside0.mk hG
 have HU := Aside0.mk hu
 clear h hG hu hx
 go_enter Try.func36, Try.ntmps36
 go_wp2_with (first | (go_at_call 49; refine (token_walk_upTo.no B g l [93, 93, 62] L _ H.out HG.out hl HU.out).mono ?_; rintro e w1 ⟨rfl, h1, b1⟩; have B1 := Aside0.mk b1; clear h1 b1))
 go_ret
 exact ⟨rfl, B1.out⟩
theorem token_walk_prolog.yes (B g : Nat) {ok : Nat → Prop} (fst : Bool) (l r : List UInt8) (t : S40) (L : List S40) (w : World) (h : WalkAt w B g ok (Tk.bs l) L) (hG : Glob w) (hl : l.length ≤ 1000000) (hL : L.length ≤ 100000) (hok : ∀ k, w.heap.size ≤ k → ok k) (hx : Tk.prolog fst l = some (t, r)) :
 Calls Try.prog 37 #[.pointer (some ⟨g, 0, none⟩), .bool fst] w fun e w' => e = .returned (.bool true) ∧ WalkAt w' B g ok (Tk.bs r) (L ++ [t]) ∧ Below B w w' := by
 unfold Tk.prolog at hx
 obtain ⟨⟨a, b⟩, hu, hx⟩ := Option.bind_eq_some_iff.1 hx
 simp only at hx
 cases fst with
 | false => rw [if_neg (by decide)] at hx; cases hx
 | true =>
 rw [if_pos rfl] at hx
 obtain ⟨rfl, rfl⟩ := Prod.mk.inj (Option.some.inj hx)
 have H := Aside0.mk h
 have HG := Aside0.mk hG
 have HU := Aside0.mk hu
 clear h hG hu hx
 go_enter Try.func37, Try.ntmps37
 go_wp2_with (first | (go_at_call 49; refine (token_walk_upTo.yesK B g l [63, 62] a _ L _ H.out HG.out hl HU.out).mono ?_; rintro e w1 ⟨rfl, h1, b1, k1⟩; have K1 := Aside0.mk k1; clear k1; have H1 := Aside0.mk h1; have B1 := Aside0.mk b1; clear h1 b1) | (go_at_call 52; refine (token_walk_put.calls B g (fun _ => False) _ L (Tk.tk 5 [] a [] false) (.slice none 0 0) _ (H1.out.more (fun k _ hk => ⟨hk, fun h => h⟩)) (Kd.R_nil _ _ _ _ _) (fun _ h => h.elim) (fun k hk => hok k (Nat.le_trans K1.out.1 hk)) hL).mono ?_; rintro e w3 ⟨rfl, h3, b3⟩; have H3 := Aside0.mk h3; have B3 := Aside0.mk b3; clear h3 b3))
 go_ret
 exact ⟨rfl, H3.out, B1.out.trans B3.out⟩
theorem token_walk_prolog.no (B g : Nat) {ok : Nat → Prop} (fst : Bool) (l : List UInt8) (L : List S40) (w : World) (h : WalkAt w B g ok (Tk.bs l) L) (hG : Glob w) (hl : l.length ≤ 1000000) (hx : Tk.prolog fst l = none) :
 Calls Try.prog 37 #[.pointer (some ⟨g, 0, none⟩), .bool fst] w fun e w' => e = .returned (.bool false) ∧ Below B w w' := by
 unfold Tk.prolog at hx
 have H := Aside0.mk h
 have HG := Aside0.mk hG
 clear h hG
 cases hu : Tk.upto [63, 62] l with
 | none =>
  have HU := Aside0.mk hu
  clear hu hx
  go_enter Try.func37, Try.ntmps37
  go_wp2_with (first | (go_at_call 49; refine (token_walk_upTo.no B g l [63, 62] L _ H.out HG.out hl HU.out).mono ?_; rintro e w1 ⟨rfl, h1, b1⟩; have B1 := Aside0.mk b1; clear h1 b1))
  go_ret
  exact ⟨rfl, B1.out⟩
 | some p =>
  obtain ⟨a, r⟩ := p
  rw [hu, Option.bind_some] at hx
  cases fst with
  | true => rw [if_pos rfl] at hx; cases hx
  | false =>
  have HU := Aside0.mk hu
  clear hu hx
  go_enter Try.func37, Try.ntmps37
  go_wp2_with (first | (go_at_call 49; refine (token_walk_upTo.yes B g l [63, 62] a _ L _ H.out HG.out hl HU.out).mono ?_; rintro e w1 ⟨rfl, h1, b1⟩; have B1 := Aside0.mk b1; clear h1 b1))
  go_ret
  exact ⟨rfl, B1.out⟩
theorem skip_len (l : List UInt8) : (Tk.skip l).length ≤ l.length := by
 rw [show Tk.skip l = l.drop (l.takeWhile Tk.space).length from dw_drop l, List.length_drop]; omega
theorem bs_none {l : List UInt8} (h : l = []) : (Tk.bs l).toList = [] := by rw [bs_toList, h]
theorem bs_some {l : List UInt8} (h : l ≠ []) : ((Tk.bs l).toList = []) = False ∧ (Tk.bs l).toList.isEmpty = false ∧ ((Tk.bs l).toList == []) = false ∧ ((Tk.bs l).toList != []) = true := by
 rw [bs_toList]
 refine ⟨eq_false h, ?_, ?_, ?_⟩ <;> cases l <;> first | exact absurd rfl h | rfl
theorem token_walk_end.yes (B g : Nat) {ok : Nat → Prop} (l r : List UInt8) (t : S40) (L : List S40) (w : World) (h : WalkAt w B g ok (Tk.bs l) L) (hG : Glob w) (hl : l.length ≤ 1000000) (hL : L.length ≤ 100000) (hok : ∀ k, w.heap.size ≤ k → ok k) (hx : Tk.close l = some (t, r)) :
 Calls Try.prog 38 #[.pointer (some ⟨g, 0, none⟩)] w fun e w' => e = .returned (.bool true) ∧ WalkAt w' B g ok (Tk.bs r) (L ++ [t]) ∧ Below B w w' := by
 unfold Tk.close at hx
 by_cases hh : Tk.head l = []
 ·rw [if_pos hh] at hx; cases hx
 rw [if_neg hh] at hx
 obtain ⟨b, hu, hx⟩ := Option.map_eq_some_iff.1 hx
 obtain ⟨rfl, rfl⟩ := Prod.mk.inj hx
 obtain ⟨e1, e2, e3, e4⟩ := bs_some hh
 have hpos := h.pos
 have hl1 : (l.drop (Tk.head l).length).length ≤ 1000000 := by rw [List.length_drop]; omega
 have H := Aside0.mk h
 have HG := Aside0.mk hG
 have HU := Aside0.mk hu
 clear h hG hu hx hh
 go_enter Try.func38, Try.ntmps38
 go_wp2_with (first | (go_at_call 53; refine (token_walk_name.callsK B g l L _ H.out HG.out hl).mono ?_; rintro e w1 ⟨rfl, h1, b1, k1⟩; have K1 := Aside0.mk k1; clear k1; have H1 := Aside0.mk h1; have B1 := Aside0.mk b1; have HG1 := Aside0.mk (HG.out.below b1 hpos); clear h1 b1) | (go_at_call 54; refine (token_walk_skip.callsK B g _ L _ H1.out HG1.out hl1).mono ?_; rintro e w2 ⟨rfl, h2, b2, k2⟩; have K2 := Aside0.mk k2; clear k2; have H2 := Aside0.mk h2; have B2 := Aside0.mk b2; clear h2 b2) | (go_at_call 34; refine (token_walk_eat.yesK B g _ [62] _ L _ H2.out HU.out).mono ?_; rintro e w3 ⟨rfl, h3, b3, k3⟩; have K3 := Aside0.mk k3; clear k3; have H3 := Aside0.mk h3; have B3 := Aside0.mk b3; clear h3 b3) | (go_at_call 52; refine (token_walk_put.calls B g (fun _ => False) _ L (Tk.tk 2 (Tk.head l) [] [] false) (.slice none 0 0) _ (H3.out.more (fun k _ hk => ⟨hk, fun h => h⟩)) (Kd.R_nil _ _ _ _ _) (fun _ h => h.elim) (fun k hk => hok k (Nat.le_trans (Nat.le_trans (Nat.le_trans K1.out.1 K2.out.1) K3.out.1) hk)) hL).mono ?_; rintro e w4 ⟨rfl, h4, b4⟩; have H4 := Aside0.mk h4; have B4 := Aside0.mk b4; clear h4 b4))
 go_ret
 exact ⟨rfl, H4.out, ((B1.out.trans B2.out).trans B3.out).trans B4.out⟩
theorem token_walk_end.no (B g : Nat) {ok : Nat → Prop} (l : List UInt8) (L : List S40) (w : World) (h : WalkAt w B g ok (Tk.bs l) L) (hG : Glob w) (hl : l.length ≤ 1000000) (hx : Tk.close l = none) :
 Calls Try.prog 38 #[.pointer (some ⟨g, 0, none⟩)] w fun e w' => e = .returned (.bool false) ∧ Below B w w' := by
 unfold Tk.close at hx
 have hpos := h.pos
 have hl1 : (l.drop (Tk.head l).length).length ≤ 1000000 := by rw [List.length_drop]; omega
 have H := Aside0.mk h
 have HG := Aside0.mk hG
 clear h hG
 by_cases hh : Tk.head l = []
 ·clear hx
  have e1 := bs_none hh
  clear hh
  go_enter Try.func38, Try.ntmps38
  go_wp2_with (first | (go_at_call 53; refine (token_walk_name.calls B g l L _ H.out HG.out hl).mono ?_; rintro e w1 ⟨rfl, h1, b1⟩; have H1 := Aside0.mk h1; have B1 := Aside0.mk b1; have HG1 := Aside0.mk (HG.out.below b1 hpos); clear h1 b1) | (go_at_call 54; refine (token_walk_skip.calls B g _ L _ H1.out HG1.out hl1).mono ?_; rintro e w2 ⟨rfl, h2, b2⟩; have H2 := Aside0.mk h2; have B2 := Aside0.mk b2; clear h2 b2))
  go_ret
  exact ⟨rfl, B1.out.trans B2.out⟩
 rw [if_neg hh] at hx
 have hu := Option.map_eq_none_iff.1 hx
 obtain ⟨e1, e2, e3, e4⟩ := bs_some hh
 have HU := Aside0.mk hu
 clear hx hu hh
 go_enter Try.func38, Try.ntmps38
 go_wp2_with (first | (go_at_call 53; refine (token_walk_name.calls B g l L _ H.out HG.out hl).mono ?_; rintro e w1 ⟨rfl, h1, b1⟩; have H1 := Aside0.mk h1; have B1 := Aside0.mk b1; have HG1 := Aside0.mk (HG.out.below b1 hpos); clear h1 b1) | (go_at_call 54; refine (token_walk_skip.calls B g _ L _ H1.out HG1.out hl1).mono ?_; rintro e w2 ⟨rfl, h2, b2⟩; have H2 := Aside0.mk h2; have B2 := Aside0.mk b2; clear h2 b2) | (go_at_call 34; refine (token_walk_eat.no B g _ [62] L _ H2.out HU.out).mono ?_; rintro e w3 ⟨rfl, h3, b3⟩; have B3 := Aside0.mk b3; clear h3 b3))
 go_ret
 exact ⟨rfl, (B1.out.trans B2.out).trans B3.out⟩
def token_named.f (a0 : ByteArray) : Option (ByteArray) := if a0.toList = ([108, 116] : List UInt8) then (some (⟨#[60]⟩ : ByteArray)) else (if a0.toList = ([103, 116] : List UInt8) then (some (⟨#[62]⟩ : ByteArray)) else (if a0.toList = ([97, 109, 112] : List UInt8) then (some (⟨#[38]⟩ : ByteArray)) else (if a0.toList = ([113, 117, 111, 116] : List UInt8) then (some (⟨#[34]⟩ : ByteArray)) else (if a0.toList = ([97, 112, 111, 115] : List UInt8) then (some (⟨#[39]⟩ : ByteArray)) else (some (⟨#[]⟩ : ByteArray))))))
theorem token_named.calls (a0 : ByteArray) (r : ByteArray) (w : World) (hG : Glob w) (h : token_named.f a0 = some r) :
 Calls Try.prog 77 #[.string a0] w fun e w' => e = .returned (.string r) ∧ Drawn0 w w' := by
 have HG := Aside0.mk hG
 clear hG
 have H : (if a0.toList = ([108, 116] : List UInt8) then (some (⟨#[60]⟩ : ByteArray)) else (if a0.toList = ([103, 116] : List UInt8) then (some (⟨#[62]⟩ : ByteArray)) else (if a0.toList = ([97, 109, 112] : List UInt8) then (some (⟨#[38]⟩ : ByteArray)) else (if a0.toList = ([113, 117, 111, 116] : List UInt8) then (some (⟨#[34]⟩ : ByteArray)) else (if a0.toList = ([97, 112, 111, 115] : List UInt8) then (some (⟨#[39]⟩ : ByteArray)) else (some (⟨#[]⟩ : ByteArray))))))) = some r := h
 clear h
 by_cases c2 : a0.toList = ([108, 116] : List UInt8)
 ·rw [if_pos c2] at H
  obtain ⟨c2b0, c2b1⟩ := eqT c2
  clear c2
  obtain rfl := Option.some.inj H
  go_enter Try.func77, Try.ntmps77
  go_wp2
  go_ret
  exact ⟨by first | rfl | (simp; done) | (simp [*]; done), by repeat (first | exact Drawn0.refl _ | apply Drawn0.step)⟩
 rw [if_neg c2] at H
 obtain ⟨c2b0, c2b1⟩ := eqF c2
 by_cases c3 : a0.toList = ([103, 116] : List UInt8)
 ·rw [if_pos c3] at H
  obtain ⟨c3b0, c3b1⟩ := eqT c3
  clear c3
  obtain rfl := Option.some.inj H
  go_enter Try.func77, Try.ntmps77
  go_wp2
  go_ret
  exact ⟨by first | rfl | (simp; done) | (simp [*]; done), by repeat (first | exact Drawn0.refl _ | apply Drawn0.step)⟩
 rw [if_neg c3] at H
 obtain ⟨c3b0, c3b1⟩ := eqF c3
 by_cases c4 : a0.toList = ([97, 109, 112] : List UInt8)
 ·rw [if_pos c4] at H
  obtain ⟨c4b0, c4b1⟩ := eqT c4
  clear c4
  obtain rfl := Option.some.inj H
  go_enter Try.func77, Try.ntmps77
  go_wp2
  go_ret
  exact ⟨by first | rfl | (simp; done) | (simp [*]; done), by repeat (first | exact Drawn0.refl _ | apply Drawn0.step)⟩
 rw [if_neg c4] at H
 obtain ⟨c4b0, c4b1⟩ := eqF c4
 by_cases c5 : a0.toList = ([113, 117, 111, 116] : List UInt8)
 ·rw [if_pos c5] at H
  obtain ⟨c5b0, c5b1⟩ := eqT c5
  clear c5
  obtain rfl := Option.some.inj H
  go_enter Try.func77, Try.ntmps77
  go_wp2
  go_ret
  exact ⟨by first | rfl | (simp; done) | (simp [*]; done), by repeat (first | exact Drawn0.refl _ | apply Drawn0.step)⟩
 rw [if_neg c5] at H
 obtain ⟨c5b0, c5b1⟩ := eqF c5
 by_cases c6 : a0.toList = ([97, 112, 111, 115] : List UInt8)
 rotate_left
 ·rw [if_neg c6] at H
  obtain ⟨c6b0, c6b1⟩ := eqF c6
  obtain rfl := Option.some.inj H
  go_enter Try.func77, Try.ntmps77
  go_wp2
  go_ret
  exact ⟨by first | rfl | (simp; done) | (simp [*]; done), by repeat (first | exact Drawn0.refl _ | apply Drawn0.step)⟩
 rw [if_pos c6] at H
 obtain ⟨c6b0, c6b1⟩ := eqT c6
 clear c6
 obtain rfl := Option.some.inj H
 go_enter Try.func77, Try.ntmps77
 go_wp2
 go_ret
 exact ⟨by first | rfl | (simp; done) | (simp [*]; done), by repeat (first | exact Drawn0.refl _ | apply Drawn0.step)⟩
def entV (l : List UInt8) : List UInt8 × Bool := match Tk.entity l with
 | some c => (c, true)
 | none => ([], false)
theorem entV_hash16 (l : List UInt8) : entV (35 :: 120 :: l) = numB 16 l := rfl
theorem entV_hash10 (l : List UInt8) (h : Lib.hasPrefix l [120] = false) : entV (35 :: l) = numB 10 l := by
 unfold entV numB
 have : Tk.entity (35 :: l) = Tk.numbered 10 l := by
  unfold Tk.entity
  split
  ·rename_i r heq
   injection heq with _ heq
   subst heq
   exact absurd h (by simp [Lib.hasPrefix, List.isPrefixOf])
  ·rename_i r _ heq
   injection heq with _ heq
   subst heq
   rfl
  ·rename_i h2
   exact absurd rfl (h2 l)
 rw [this]
 try rfl
theorem entV_named (l : List UInt8) (h : Lib.hasPrefix l [35] = false) : Tk.entity l = Tk.named l := by
 unfold Tk.entity
 split
 ·exact absurd h (by simp [Lib.hasPrefix, List.isPrefixOf])
 ·exact absurd h (by simp [Lib.hasPrefix, List.isPrefixOf])
 ·rfl
theorem named_f (l : List UInt8) : token_named.f (Tk.bs l) = some (Tk.bs (match Tk.named l with | some c => c | none => [])) := by
 unfold token_named.f Tk.named
 rw [bs_toList]
 by_cases h1 : l = [108, 116]
 ·rw [if_pos h1, if_pos h1]; rfl
 rw [if_neg h1, if_neg h1]
 by_cases h2 : l = [103, 116]
 ·rw [if_pos h2, if_pos h2]; rfl
 rw [if_neg h2, if_neg h2]
 by_cases h3 : l = [97, 109, 112]
 ·rw [if_pos h3, if_pos h3]; rfl
 rw [if_neg h3, if_neg h3]
 by_cases h4 : l = [113, 117, 111, 116]
 ·rw [if_pos h4, if_pos h4]; rfl
 rw [if_neg h4, if_neg h4]
 by_cases h5 : l = [97, 112, 111, 115]
 ·rw [if_pos h5, if_pos h5]; rfl
 rw [if_neg h5, if_neg h5]; rfl
theorem named_ne {l c : List UInt8} (h : Tk.named l = some c) : c ≠ [] ∧ c.length ≤ 4 := by
 unfold Tk.named at h
 repeat' split at h
 all_goals first | (injection h with h; subst h; exact ⟨by decide, by decide⟩) | cases h
theorem token_entity.calls (l : List UInt8) (w : World) (hG : Glob w) :
 Calls Try.prog 68 #[.string (Tk.bs l)] w fun e w' => e = .returned (.tuple #[.string (Tk.bs (entV l).1), .bool (entV l).2]) ∧ Drawn0 w w' := by
 by_cases h35 : Lib.hasPrefix l [35] = true
 ·obtain ⟨r, rfl⟩ : ∃ r, l = 35 :: r := by
   cases l with
   | nil => simp [Lib.hasPrefix, List.isPrefixOf] at h35
   | cons c r =>
    simp [Lib.hasPrefix, List.isPrefixOf] at h35
    exact ⟨r, by rw [← h35]⟩
  have C1 : ∀ W, Calls Try.prog 48 #[.string (Tk.bs (35 :: r)), .string (Tk.bs [35])] W fun e w' => e = .returned (.tuple #[.string (Tk.bs r), .bool true]) ∧ W = w' := by
   intro W
   refine (Try.strings_CutPrefix (Tk.bs (35 :: r)) (Tk.bs [35]) W).mono ?_
   rintro e w' ⟨rfl, rfl⟩
   refine ⟨?_, rfl⟩
   rw [show Lib.hasPrefix (Tk.bs (35 :: r)).data.toList (Tk.bs [35]).data.toList = true from h35]
   rw [show Lib.trimPrefix (Tk.bs (35 :: r)).data.toList (Tk.bs [35]).data.toList = r from by show Lib.trimPrefix (35 :: r) [35] = r; unfold Lib.trimPrefix; rw [if_pos h35]; rfl]
   rfl
  have C2 : ∀ W, Glob W → Calls Try.prog 76 #[.string (Tk.bs r)] W fun e w' => e = .returned (.tuple #[.string (Tk.bs (entV (35 :: r)).1), .bool (entV (35 :: r)).2]) ∧ Drawn0 W w' := by
   intro W hW
   by_cases h120 : Lib.hasPrefix r [120] = true
   rotate_left
   ·have h120' := Bool.eq_false_iff.2 h120
    rw [entV_hash10 r h120']
    exact token_numbered.calls10 r W hW h120'
   obtain ⟨q, rfl⟩ : ∃ q, r = 120 :: q := by
    cases r with
    | nil => simp [Lib.hasPrefix, List.isPrefixOf] at h120
    | cons c q =>
     simp [Lib.hasPrefix, List.isPrefixOf] at h120
     exact ⟨q, by rw [← h120]⟩
   exact token_numbered.calls16 q W hW
  obtain ⟨a, b, hab⟩ : ∃ a b, entV (35 :: r) = (a, b) := ⟨_, _, rfl⟩
  rw [hab] at C2
  have HR := Lib.hid hab
  have HG := Aside0.mk hG
  clear hab hG h35
  go_enter Try.func68, Try.ntmps68
  go_wp2_with (first | (go_at_call 48; refine (C1 _).mono ?_; rintro e w1 ⟨rfl, rfl⟩) | (go_at_call 76; refine (C2 _ HG.out).mono ?_; rintro e w2 ⟨rfl, ⟨nd, rfl⟩⟩))
  go_ret2
  exact ⟨by rw [HR.out]; rfl, (Drawn0.refl _).step _⟩
 have h35' := Bool.eq_false_iff.2 h35
 have C1 : ∀ W, Calls Try.prog 48 #[.string (Tk.bs l), .string (Tk.bs [35])] W fun e w' => e = .returned (.tuple #[.string (Tk.bs l), .bool false]) ∧ W = w' := by
  intro W
  refine (Try.strings_CutPrefix (Tk.bs l) (Tk.bs [35]) W).mono ?_
  rintro e w' ⟨rfl, rfl⟩
  refine ⟨?_, rfl⟩
  rw [show Lib.hasPrefix (Tk.bs l).data.toList (Tk.bs [35]).data.toList = false from h35']
  rw [show Lib.trimPrefix (Tk.bs l).data.toList (Tk.bs [35]).data.toList = l from by show Lib.trimPrefix l [35] = l; unfold Lib.trimPrefix; rw [if_neg h35]]
  rfl
 have hnm := named_f l
 have hen := entV_named l h35'
 have HG := Aside0.mk hG
 clear hG h35 h35'
 cases hn : Tk.named l with
 | none =>
  rw [hn] at hnm
  have hR : entV l = ([], false) := by unfold entV; rw [hen, hn]
  have HR := Lib.hid hR
  have HF := Aside0.mk hnm
  have e1 := bs_none (l := []) rfl
  clear hn hnm hen hR
  go_enter Try.func68, Try.ntmps68
  go_wp2_with (first | (go_at_call 48; refine (C1 _).mono ?_; rintro e w1 ⟨rfl, rfl⟩) | (go_at_call 77; refine (token_named.calls (Tk.bs l) _ _ HG.out HF.out).mono ?_; rintro e w2 ⟨rfl, ⟨nd, rfl⟩⟩))
  go_ret2
  exact ⟨by rw [HR.out]; rfl, (Drawn0.refl _).step _⟩
 | some c =>
  rw [hn] at hnm
  obtain ⟨hne, _⟩ := named_ne hn
  have hR : entV l = (c, true) := by unfold entV; rw [hen, hn]
  have HR := Lib.hid hR
  have HF := Aside0.mk hnm
  obtain ⟨e1, e2, e3, e4⟩ := bs_some hne
  clear hn hnm hen hR hne
  go_enter Try.func68, Try.ntmps68
  go_wp2_with (first | (go_at_call 48; refine (C1 _).mono ?_; rintro e w1 ⟨rfl, rfl⟩) | (go_at_call 77; refine (token_named.calls (Tk.bs l) _ _ HG.out HF.out).mono ?_; rintro e w2 ⟨rfl, ⟨nd, rfl⟩⟩))
  go_ret2
  exact ⟨by rw [HR.out]; rfl, (Drawn0.refl _).step _⟩
def entsV (l : List UInt8) : List UInt8 × Int := match Tk.entities l with
 | some c => (c, 0)
 | none => ([], 5)
theorem entity_len {l c : List UInt8} (h : Tk.entity l = some c) : c.length ≤ 4 := by
 have hn : ∀ base r, Tk.numbered base r = some c → c.length ≤ 4 := by
  intro base r h
  unfold Tk.numbered at h
  split at h
  ·cases h
  ·obtain ⟨v, _, h⟩ := Option.bind_eq_some_iff.1 h
   split at h
   ·injection h with h
    rw [← h]
    have := encode_size_le (v : Int)
    rw [Lib.size_eq] at this
    exact this
   ·cases h
 unfold Tk.entity at h
 split at h
 ·exact hn _ _ h
 ·exact hn _ _ h
 ·exact (named_ne h).2
theorem upto_sum {x l a r : List UInt8} (h : Tk.upto x l = some (a, r)) : a.length + x.length + r.length = l.length := by
 unfold Tk.upto at h
 split at h
 ·rename_i h0
  injection h with h
  injection h with h1 h2
  have := Lib.index_room l x h0
  rw [← h1, ← h2, List.length_take, List.length_drop]
  omega
 ·cases h
theorem bs_append (a b : List UInt8) : Tk.bs a ++ Tk.bs b = Tk.bs (a ++ b) := by
 have : (Tk.bs a ++ Tk.bs b).data.toList = (Tk.bs (a ++ b)).data.toList := by simp [ByteArray.data_append, Tk.bs]
 rw [← bs_data (Tk.bs a ++ Tk.bs b), this]; rfl
theorem ents_none {n : Nat} {l : List UInt8} (h : Tk.upto [38] l = none) : Tk.ents (n + 1) l = some l := by
 rw [Tk.ents, h]
theorem ents_open {n : Nat} {l a b : List UInt8} (h : Tk.upto [38] l = some (a, b)) (h2 : Tk.upto [59] b = none) : Tk.ents (n + 1) l = none := by
 rw [Tk.ents, h]
 simp only [h2]
theorem ents_step {n : Nat} {l a b m r : List UInt8} (h : Tk.upto [38] l = some (a, b)) (h2 : Tk.upto [59] b = some (m, r)) : Tk.ents (n + 1) l = (Tk.entity m).bind fun c => (Tk.ents n r).map fun t => a ++ (c ++ t) := by
 rw [Tk.ents, h]
 simp only [h2]
theorem token_Entities.calls0 (l : List UInt8) (hl : l.length ≤ 1000000) (w : World) (hG : Glob w) :
 Calls Try.prog 59 #[.string (Tk.bs l)] w fun e w' => e = .returned (.tuple #[.string (Tk.bs (entsV l).1), .int .i64 (entsV l).2]) ∧ Below w.heap.size w w' := by
 have hpos := hG.lt
 have HG := Aside0.mk hG
 clear hG
 have hub := Try.underlying50
 go_enter Try.func59, Try.ntmps59
 go_wp2_with (fail)
 have HF := Aside0.mk (Bld.Holds.fresh w)
 have HB0 := Aside0.mk ((Below.refl w.heap.size w).alloc (Nat.le_refl _) (.cells #[.pointer none, .slice none 0 0] 50))
 generalize w.alloc _ = wi at *
 go_loopg [0] (l.length + 1) (fun gk v0 w' => ∃ (m d : List UInt8), v0 = .string (Tk.bs m) ∧ m.length < gk ∧ Aside0 (d.length + 4 * m.length ≤ 4 * l.length) ∧ Aside0 (Tk.entities l = (Tk.ents gk m).map fun t => d ++ t) ∧ Aside0 (Bld.Holds w.heap.size w.heap.size (Tk.bs d) w') ∧ Aside0 (Below w.heap.size w w'))
 case atStart => exact ⟨l, [], rfl, by omega, ⟨by simp⟩, ⟨by unfold Tk.entities; simp⟩, HF, HB0⟩
 clear HF HB0
 obtain ⟨m, d, rfl, hlt, HD, HE, HH, HB⟩ := hrel
 obtain ⟨g1, rfl⟩ : ∃ g1, gk = g1 + 1 := ⟨gk - 1, by omega⟩
 have hG1 : Glob wr := HG.out.below HB.out hpos
 have HG1 := Aside0.mk hG1
 have hd := HD.out
 have hms : (Tk.bs m).size < 4294967281 := by rw [bs_size]; omega
 cases hu : Tk.upto [38] m with
 | none =>
  have C1 : ∀ W, Glob W → Calls Try.prog 61 #[.string (Tk.bs m), .string (⟨#[38]⟩ : ByteArray)] W fun e w' => e = .returned (.tuple #[.string (Tk.bs m), .string (Tk.bs []), .bool false]) ∧ Below W.heap.size W w' := by
   intro W hW
   obtain ⟨q, hq⟩ := hW
   refine (Try.strings_Cut (Tk.bs m) (Tk.bs [38]) q W hms hq).mono ?_
   rintro e w' ⟨rfl, nd, rfl⟩
   refine ⟨?_, pw_below_drewN (Below.refl _ _) nd⟩
   rw [show Lib.cut (Tk.bs m).data.toList (Tk.bs [38]).data.toList = (m, [], false) from upto_none hu]
   rfl
  have hR : entsV l = (d ++ m, 0) := by unfold entsV; rw [HE.out, ents_none hu]; rfl
  have HR := Lib.hid hR
  have hsz : (Tk.bs d).size + (Tk.bs m).size ≤ 140737488355328 := by rw [bs_size, bs_size]; omega
  have HSZ := Lib.hid hsz
  clear hu hms hd hR hG1 hsz
  go_wp2_with (first | (go_at_call 61; (with_reducible refine (C1 _ HG1.out).mono ?_); rintro e w1 ⟨rfl, b1⟩; have B1 := Aside0.mk b1; clear b1) | (go_at_call 18; (with_reducible refine ((HH.out.below B1.out).write HSZ.out).mono ?_); rintro e w2 ⟨rfl, h2, b2⟩; have H2 := Aside0.mk h2; have B2 := Aside0.mk b2; clear h2 b2) | (go_at_call 19; (with_reducible refine H2.out.string.mono ?_); rintro e w3 ⟨rfl, b3⟩; have B3 := Aside0.mk b3; clear b3))
  go_ret2
  refine ⟨?_, ((below_step HB.out B1.out).trans B2.out).trans B3.out⟩
  rw [HR.out, ← bs_append]; rfl
 | some p =>
  obtain ⟨a, b⟩ := p
  have hsm := upto_sum hu
  have hsa : (Tk.bs d).size + (Tk.bs a).size ≤ 140737488355328 := by rw [bs_size, bs_size]; omega
  have hbs : (Tk.bs b).size < 4294967281 := by rw [bs_size]; omega
  have C1 : ∀ W, Glob W → Calls Try.prog 61 #[.string (Tk.bs m), .string (⟨#[38]⟩ : ByteArray)] W fun e w' => e = .returned (.tuple #[.string (Tk.bs a), .string (Tk.bs b), .bool true]) ∧ Below W.heap.size W w' := by
   intro W hW
   obtain ⟨q, hq⟩ := hW
   refine (Try.strings_Cut (Tk.bs m) (Tk.bs [38]) q W hms hq).mono ?_
   rintro e w' ⟨rfl, nd, rfl⟩
   refine ⟨?_, pw_below_drewN (Below.refl _ _) nd⟩
   rw [show Lib.cut (Tk.bs m).data.toList (Tk.bs [38]).data.toList = (a, b, true) from upto_some hu]
   rfl
  have HSA := Lib.hid hsa
  cases hu2 : Tk.upto [59] b with
  | none =>
   have C2 : ∀ W, Glob W → Calls Try.prog 61 #[.string (Tk.bs b), .string (⟨#[59]⟩ : ByteArray)] W fun e w' => e = .returned (.tuple #[.string (Tk.bs b), .string (Tk.bs []), .bool false]) ∧ Below W.heap.size W w' := by
    intro W hW
    obtain ⟨q, hq⟩ := hW
    refine (Try.strings_Cut (Tk.bs b) (Tk.bs [59]) q W hbs hq).mono ?_
    rintro e w' ⟨rfl, nd, rfl⟩
    refine ⟨?_, pw_below_drewN (Below.refl _ _) nd⟩
    rw [show Lib.cut (Tk.bs b).data.toList (Tk.bs [59]).data.toList = (b, [], false) from upto_none hu2]
    rfl
   have hR : entsV l = ([], 5) := by unfold entsV; rw [HE.out, ents_open hu hu2]; rfl
   have HR := Lib.hid hR
   clear hu hu2 hms hd hR hG1 hsa hbs hsm
   go_wp2_with (first | (go_at_call 61; (with_reducible refine (C1 _ HG1.out).mono ?_); rintro e w1 ⟨rfl, b1⟩; have B1 := Aside0.mk b1; clear b1) | (go_at_call 18; (with_reducible refine ((HH.out.below B1.out).write HSA.out).mono ?_); rintro e w2 ⟨rfl, h2, b2⟩; have H2 := Aside0.mk h2; have B2 := Aside0.mk b2; have HG2 := Aside0.mk (HG.out.below ((below_step HB.out B1.out).trans b2) hpos); clear h2 b2) | (go_at_call 61; (with_reducible refine (C2 _ HG2.out).mono ?_); rintro e w4 ⟨rfl, b4⟩; have B4 := Aside0.mk b4; have HG4 := Aside0.mk (HG2.out.step b4); clear b4) | (go_at_call 68; (with_reducible refine (token_entity.calls b _ HG4.out).mono ?_); rintro e w5 ⟨rfl, d5⟩; have B5 := Aside0.mk d5.below; clear d5))
   go_ret2
   exact ⟨by rw [HR.out]; rfl, below_step (below_step ((below_step HB.out B1.out).trans B2.out) B4.out) B5.out⟩
  | some p2 =>
   obtain ⟨nm, r⟩ := p2
   have hsm2 := upto_sum hu2
   have C2 : ∀ W, Glob W → Calls Try.prog 61 #[.string (Tk.bs b), .string (⟨#[59]⟩ : ByteArray)] W fun e w' => e = .returned (.tuple #[.string (Tk.bs nm), .string (Tk.bs r), .bool true]) ∧ Below W.heap.size W w' := by
    intro W hW
    obtain ⟨q, hq⟩ := hW
    refine (Try.strings_Cut (Tk.bs b) (Tk.bs [59]) q W hbs hq).mono ?_
    rintro e w' ⟨rfl, nd, rfl⟩
    refine ⟨?_, pw_below_drewN (Below.refl _ _) nd⟩
    rw [show Lib.cut (Tk.bs b).data.toList (Tk.bs [59]).data.toList = (nm, r, true) from upto_some hu2]
    rfl
   have hst := ents_step (n := g1) hu hu2
   have CE := token_entity.calls nm
   cases hen : Tk.entity nm with
   | none =>
    have hv : entV nm = ([], false) := by unfold entV; rw [hen]
    rw [hv] at CE
    have hR : entsV l = ([], 5) := by unfold entsV; rw [HE.out, hst, hen]; rfl
    have HR := Lib.hid hR
    clear hu hu2 hms hd hR hG1 hsa hbs hsm hsm2 hst hen hv
    go_wp2_with (first | (go_at_call 61; (with_reducible refine (C1 _ HG1.out).mono ?_); rintro e w1 ⟨rfl, b1⟩; have B1 := Aside0.mk b1; clear b1) | (go_at_call 18; (with_reducible refine ((HH.out.below B1.out).write HSA.out).mono ?_); rintro e w2 ⟨rfl, h2, b2⟩; have H2 := Aside0.mk h2; have B2 := Aside0.mk b2; have HG2 := Aside0.mk (HG.out.below ((below_step HB.out B1.out).trans b2) hpos); clear h2 b2) | (go_at_call 61; (with_reducible refine (C2 _ HG2.out).mono ?_); rintro e w4 ⟨rfl, b4⟩; have B4 := Aside0.mk b4; have HG4 := Aside0.mk (HG2.out.step b4); clear b4) | (go_at_call 68; (with_reducible refine (CE _ HG4.out).mono ?_); rintro e w5 ⟨rfl, d5⟩; have B5 := Aside0.mk d5.below; clear d5))
    go_ret2
    exact ⟨by rw [HR.out]; rfl, below_step (below_step ((below_step HB.out B1.out).trans B2.out) B4.out) B5.out⟩
   | some c =>
    have hv : entV nm = (c, true) := by unfold entV; rw [hen]
    rw [hv] at CE
    have hcl := entity_len hen
    have hsc : (Tk.bs d ++ Tk.bs a).size + (Tk.bs c).size ≤ 140737488355328 := by rw [ByteArray.size_append, bs_size, bs_size, bs_size]; omega
    have HSC := Lib.hid hsc
    have hn1 : r.length < g1 := by simp only [List.length_cons, List.length_nil] at hsm hsm2; omega
    have hd1 : (d ++ (a ++ c)).length + 4 * r.length ≤ 4 * l.length := by simp only [List.length_cons, List.length_nil, List.length_append] at hsm hsm2 ⊢; omega
    have hE1 : Tk.entities l = (Tk.ents g1 r).map fun t => (d ++ (a ++ c)) ++ t := by
     rw [HE.out, hst, hen]
     cases Tk.ents g1 r with
     | none => rfl
     | some t => simp
    have HD1 := Aside0.mk hd1
    have HE1 := Aside0.mk hE1
    clear hu hu2 hms hd hG1 hsa hbs hsm hsm2 hst hen hv hsc hd1 hE1 hcl
    go_wp2_with (first | (go_at_call 61; (with_reducible refine (C1 _ HG1.out).mono ?_); rintro e w1 ⟨rfl, b1⟩; have B1 := Aside0.mk b1; clear b1) | (go_at_call 18; (with_reducible refine ((HH.out.below B1.out).write HSA.out).mono ?_); rintro e w2 ⟨rfl, h2, b2⟩; have H2 := Aside0.mk h2; have B2 := Aside0.mk b2; have HG2 := Aside0.mk (HG.out.below ((below_step HB.out B1.out).trans b2) hpos); clear h2 b2) | (go_at_call 61; (with_reducible refine (C2 _ HG2.out).mono ?_); rintro e w4 ⟨rfl, b4⟩; have B4 := Aside0.mk b4; have HG4 := Aside0.mk (HG2.out.step b4); clear b4) | (go_at_call 68; (with_reducible refine (CE _ HG4.out).mono ?_); rintro e w5 ⟨rfl, d5⟩; have B5 := Aside0.mk d5.below; clear d5) | (go_at_call 18; (with_reducible refine (((H2.out.below B4.out).below B5.out).write HSC.out).mono ?_); rintro e w6 ⟨rfl, h6, b6⟩; have H6 := Aside0.mk h6; have B6 := Aside0.mk b6; clear h6 b6))
    go_roundg g1
    case measure => omega
    case rel =>
     refine ⟨r, d ++ (a ++ c), by first | rfl | (simp; done), hn1, HD1, HE1, ?_, ?_⟩
     ·refine ⟨?_⟩
      have := H6.out
      rw [bs_append, bs_append, List.append_assoc] at this
      exact this
     ·exact ⟨(below_step (below_step ((below_step HB.out B1.out).trans B2.out) B4.out) B5.out).trans B6.out⟩
theorem behind_len {x l r : List UInt8} (h : Tk.behind x l = some r) : r.length ≤ l.length := by
 unfold Tk.behind at h
 split at h
 ·injection h with h
  rw [← h, List.length_drop]; omega
 ·cases h
theorem pre_f {l : List UInt8} {x : List UInt8} {b : Bool} (h : x.isPrefixOf l = b) (W : World) : Calls Try.prog 74 #[.string (Tk.bs l), .string (Tk.bs x)] W fun e w' => e = .returned (.bool b) ∧ W = w' := by
 refine (Try.strings_HasPrefix (Tk.bs l) (Tk.bs x) W).mono ?_
 rintro e w' ⟨rfl, rfl⟩
 exact ⟨by rw [show Lib.hasPrefix (Tk.bs l).data.toList (Tk.bs x).data.toList = b from h], rfl⟩
theorem con_f {l : List UInt8} {x : List UInt8} {b : Bool} (h : Lib.contains l x = b) (hl : l.length ≤ 1000000) (W : World) (hG : Glob W) : Calls Try.prog 50 #[.string (Tk.bs l), .string (Tk.bs x)] W fun e w' => e = .returned (.bool b) ∧ W = w' := by
 obtain ⟨m, hm⟩ := hG
 refine (Try.strings_Contains (Tk.bs l) (Tk.bs x) m W (by rw [bs_size]; omega) hm).mono ?_
 rintro e w' ⟨rfl, rfl⟩
 exact ⟨by rw [show Lib.contains (Tk.bs l).data.toList (Tk.bs x).data.toList = b from h], rfl⟩
theorem ent_f {l : List UInt8} {x : List UInt8 × Int} (h : entsV l = x) (hl : l.length ≤ 1000000) (W : World) (hG : Glob W) : Calls Try.prog 59 #[.string (Tk.bs l)] W fun e w' => e = .returned (.tuple #[.string (Tk.bs x.1), .int .i64 x.2]) ∧ Below W.heap.size W w' := by
 rw [← h]
 exact token_Entities.calls0 l hl W hG
theorem token_walk_value.yes34 (B g : Nat) {ok : Nat → Prop} (l r1 a r v : List UInt8) (L : List S40) (w : World) (h : WalkAt w B g ok (Tk.bs l) L) (hG : Glob w) (hl : l.length ≤ 1000000) (hp : [34].isPrefixOf l = true) (he : Tk.behind [34] l = some r1) (hu : Tk.upto [34] r1 = some (a, r)) (hc : Lib.contains a [60] = false) (hv : entsV a = (v, 0)) :
 Calls Try.prog 65 #[.pointer (some ⟨g, 0, none⟩)] w fun e w' => e = .returned (.tuple #[.string (Tk.bs v), .bool true]) ∧ WalkAt w' B g ok (Tk.bs r) L ∧ Below B w w' ∧ KeepBut w w' g none := by
 have hpos := h.pos
 have hsz := h.size
 have c0 := h.cell0
 have hl1 : r1.length ≤ 1000000 := Nat.le_trans (behind_len he) hl
 have hl2 : a.length ≤ 1000000 := Nat.le_trans (upto_len hu).1 hl1
 have H := Aside0.mk h
 have HG := Aside0.mk hG
 have HP := Lib.hid hp
 have HE := Lib.hid he
 have HU := Lib.hid hu
 have HC := Lib.hid hc
 have HV := Lib.hid hv
 clear h hG hp he hu hc hv
 go_enter Try.func65, Try.ntmps65
 go_wp2_with (first | (go_at_call 74; refine (pre_f (x := [34]) (b := true) HP.out _).mono ?_; rintro e w1 ⟨rfl, rfl⟩) | (go_at_call 34; refine (token_walk_eat.yesK B g l [34] r1 L _ H.out HE.out).mono ?_; rintro e w2 ⟨rfl, h2, b2, k2⟩; have K2 := Aside0.mk k2; clear k2; have H2 := Aside0.mk h2; have B2 := Aside0.mk b2; have HG2 := Aside0.mk (HG.out.below b2 hpos); clear h2 b2) | (go_at_call 49; refine (token_walk_upTo.yesK B g r1 [34] a r L _ H2.out HG2.out hl1 HU.out).mono ?_; rintro e w3 ⟨rfl, h3, b3, k3⟩; have K3 := Aside0.mk k3; clear k3; have H3 := Aside0.mk h3; have B3 := Aside0.mk b3; have HG3 := Aside0.mk (HG2.out.below b3 hpos); clear h3 b3) | (go_at_call 50; refine (con_f (x := [60]) (b := false) HC.out hl2 _ HG3.out).mono ?_; rintro e w4 ⟨rfl, rfl⟩) | (go_at_call 59; refine (ent_f (x := (v, 0)) HV.out hl2 _ HG3.out).mono ?_; rintro e w5 ⟨rfl, b5⟩; have B5 := Aside0.mk b5; clear b5))
 go_ret2
 exact ⟨rfl, H3.out.below B5.out, (B2.out.trans B3.out).trans (B5.out.mono (Nat.le_trans hsz (B2.out.trans B3.out).size)), (K2.out.trans K3.out (.inl rfl)).trans (KeepBut.of_below B5.out _ _) (.inl rfl)⟩
theorem token_walk_value.noe34 (B g : Nat) {ok : Nat → Prop} (l : List UInt8) (L : List S40) (w : World) (h : WalkAt w B g ok (Tk.bs l) L) (hG : Glob w) (hl : l.length ≤ 1000000) (hp : [34].isPrefixOf l = true) (he : Tk.behind [34] l = none) :
 Calls Try.prog 65 #[.pointer (some ⟨g, 0, none⟩)] w fun e w' => (∃ x, e = .returned (.tuple #[.string x, .bool false])) ∧ Below B w w' ∧ KeepBut w w' g none := by
 have hpos := h.pos
 have hsz := h.size
 have c0 := h.cell0
 have H := Aside0.mk h
 have HG := Aside0.mk hG
 have HP := Lib.hid hp
 have HE := Lib.hid he
 clear h hG hp he
 go_enter Try.func65, Try.ntmps65
 go_wp2_with (first | (go_at_call 74; refine (pre_f (x := [34]) (b := true) HP.out _).mono ?_; rintro e w1 ⟨rfl, rfl⟩) | (go_at_call 34; refine (token_walk_eat.noK B g l [34] L _ H.out HE.out).mono ?_; rintro e w2 ⟨rfl, h2, b2, k2⟩; have K2 := Aside0.mk k2; clear k2; have H2 := Aside0.mk h2; have B2 := Aside0.mk b2; have HG2 := Aside0.mk (HG.out.below b2 hpos); clear h2 b2))
 go_ret2
 exact ⟨⟨_, rfl⟩, B2.out, K2.out⟩
theorem token_walk_value.nou34 (B g : Nat) {ok : Nat → Prop} (l : List UInt8) (r1 : List UInt8) (L : List S40) (w : World) (h : WalkAt w B g ok (Tk.bs l) L) (hG : Glob w) (hl : l.length ≤ 1000000) (hp : [34].isPrefixOf l = true) (he : Tk.behind [34] l = some r1) (hu : Tk.upto [34] r1 = none) :
 Calls Try.prog 65 #[.pointer (some ⟨g, 0, none⟩)] w fun e w' => (∃ x, e = .returned (.tuple #[.string x, .bool false])) ∧ Below B w w' ∧ KeepBut w w' g none := by
 have hpos := h.pos
 have hsz := h.size
 have c0 := h.cell0
 have hl1 : r1.length ≤ 1000000 := Nat.le_trans (behind_len he) hl
 have H := Aside0.mk h
 have HG := Aside0.mk hG
 have HP := Lib.hid hp
 have HE := Lib.hid he
 have HU := Lib.hid hu
 clear h hG hp he hu
 go_enter Try.func65, Try.ntmps65
 go_wp2_with (first | (go_at_call 74; refine (pre_f (x := [34]) (b := true) HP.out _).mono ?_; rintro e w1 ⟨rfl, rfl⟩) | (go_at_call 34; refine (token_walk_eat.yesK B g l [34] r1 L _ H.out HE.out).mono ?_; rintro e w2 ⟨rfl, h2, b2, k2⟩; have K2 := Aside0.mk k2; clear k2; have H2 := Aside0.mk h2; have B2 := Aside0.mk b2; have HG2 := Aside0.mk (HG.out.below b2 hpos); clear h2 b2) | (go_at_call 49; refine (token_walk_upTo.noK B g r1 [34] L _ H2.out HG2.out hl1 HU.out).mono ?_; rintro e w3 ⟨rfl, h3, b3, k3⟩; have K3 := Aside0.mk k3; clear k3; have H3 := Aside0.mk h3; have B3 := Aside0.mk b3; have HG3 := Aside0.mk (HG2.out.below b3 hpos); clear h3 b3))
 go_ret2
 exact ⟨⟨_, rfl⟩, B2.out.trans B3.out, K2.out.trans K3.out (.inl rfl)⟩
theorem token_walk_value.noc34 (B g : Nat) {ok : Nat → Prop} (l : List UInt8) (r1 a r : List UInt8) (L : List S40) (w : World) (h : WalkAt w B g ok (Tk.bs l) L) (hG : Glob w) (hl : l.length ≤ 1000000) (hp : [34].isPrefixOf l = true) (he : Tk.behind [34] l = some r1) (hu : Tk.upto [34] r1 = some (a, r)) (hc : Lib.contains a [60] = true) :
 Calls Try.prog 65 #[.pointer (some ⟨g, 0, none⟩)] w fun e w' => (∃ x, e = .returned (.tuple #[.string x, .bool false])) ∧ Below B w w' ∧ KeepBut w w' g none := by
 have hpos := h.pos
 have hsz := h.size
 have c0 := h.cell0
 have hl1 : r1.length ≤ 1000000 := Nat.le_trans (behind_len he) hl
 have hl2 : a.length ≤ 1000000 := Nat.le_trans (upto_len hu).1 hl1
 have H := Aside0.mk h
 have HG := Aside0.mk hG
 have HP := Lib.hid hp
 have HE := Lib.hid he
 have HU := Lib.hid hu
 have HC := Lib.hid hc
 clear h hG hp he hu hc
 go_enter Try.func65, Try.ntmps65
 go_wp2_with (first | (go_at_call 74; refine (pre_f (x := [34]) (b := true) HP.out _).mono ?_; rintro e w1 ⟨rfl, rfl⟩) | (go_at_call 34; refine (token_walk_eat.yesK B g l [34] r1 L _ H.out HE.out).mono ?_; rintro e w2 ⟨rfl, h2, b2, k2⟩; have K2 := Aside0.mk k2; clear k2; have H2 := Aside0.mk h2; have B2 := Aside0.mk b2; have HG2 := Aside0.mk (HG.out.below b2 hpos); clear h2 b2) | (go_at_call 49; refine (token_walk_upTo.yesK B g r1 [34] a r L _ H2.out HG2.out hl1 HU.out).mono ?_; rintro e w3 ⟨rfl, h3, b3, k3⟩; have K3 := Aside0.mk k3; clear k3; have H3 := Aside0.mk h3; have B3 := Aside0.mk b3; have HG3 := Aside0.mk (HG2.out.below b3 hpos); clear h3 b3) | (go_at_call 50; refine (con_f (x := [60]) (b := true) HC.out hl2 _ HG3.out).mono ?_; rintro e w4 ⟨rfl, rfl⟩))
 go_ret2
 exact ⟨⟨_, rfl⟩, B2.out.trans B3.out, K2.out.trans K3.out (.inl rfl)⟩
theorem token_walk_value.nov34 (B g : Nat) {ok : Nat → Prop} (l : List UInt8) (r1 a r : List UInt8) (L : List S40) (w : World) (h : WalkAt w B g ok (Tk.bs l) L) (hG : Glob w) (hl : l.length ≤ 1000000) (hp : [34].isPrefixOf l = true) (he : Tk.behind [34] l = some r1) (hu : Tk.upto [34] r1 = some (a, r)) (hc : Lib.contains a [60] = false) (hv : entsV a = ([], 5)) :
 Calls Try.prog 65 #[.pointer (some ⟨g, 0, none⟩)] w fun e w' => (∃ x, e = .returned (.tuple #[.string x, .bool false])) ∧ Below B w w' ∧ KeepBut w w' g none := by
 have hpos := h.pos
 have hsz := h.size
 have c0 := h.cell0
 have hl1 : r1.length ≤ 1000000 := Nat.le_trans (behind_len he) hl
 have hl2 : a.length ≤ 1000000 := Nat.le_trans (upto_len hu).1 hl1
 have H := Aside0.mk h
 have HG := Aside0.mk hG
 have HP := Lib.hid hp
 have HE := Lib.hid he
 have HU := Lib.hid hu
 have HC := Lib.hid hc
 have HV := Lib.hid hv
 clear h hG hp he hu hc hv
 go_enter Try.func65, Try.ntmps65
 go_wp2_with (first | (go_at_call 74; refine (pre_f (x := [34]) (b := true) HP.out _).mono ?_; rintro e w1 ⟨rfl, rfl⟩) | (go_at_call 34; refine (token_walk_eat.yesK B g l [34] r1 L _ H.out HE.out).mono ?_; rintro e w2 ⟨rfl, h2, b2, k2⟩; have K2 := Aside0.mk k2; clear k2; have H2 := Aside0.mk h2; have B2 := Aside0.mk b2; have HG2 := Aside0.mk (HG.out.below b2 hpos); clear h2 b2) | (go_at_call 49; refine (token_walk_upTo.yesK B g r1 [34] a r L _ H2.out HG2.out hl1 HU.out).mono ?_; rintro e w3 ⟨rfl, h3, b3, k3⟩; have K3 := Aside0.mk k3; clear k3; have H3 := Aside0.mk h3; have B3 := Aside0.mk b3; have HG3 := Aside0.mk (HG2.out.below b3 hpos); clear h3 b3) | (go_at_call 50; refine (con_f (x := [60]) (b := false) HC.out hl2 _ HG3.out).mono ?_; rintro e w4 ⟨rfl, rfl⟩) | (go_at_call 59; refine (ent_f (x := ([], 5)) HV.out hl2 _ HG3.out).mono ?_; rintro e w5 ⟨rfl, b5⟩; have B5 := Aside0.mk b5; clear b5))
 go_ret2
 exact ⟨⟨_, rfl⟩, (B2.out.trans B3.out).trans (B5.out.mono (Nat.le_trans hsz (B2.out.trans B3.out).size)), (K2.out.trans K3.out (.inl rfl)).trans (KeepBut.of_below B5.out _ _) (.inl rfl)⟩
theorem token_walk_value.yes39 (B g : Nat) {ok : Nat → Prop} (l r1 a r v : List UInt8) (L : List S40) (w : World) (h : WalkAt w B g ok (Tk.bs l) L) (hG : Glob w) (hl : l.length ≤ 1000000) (hp : [34].isPrefixOf l = false) (he : Tk.behind [39] l = some r1) (hu : Tk.upto [39] r1 = some (a, r)) (hc : Lib.contains a [60] = false) (hv : entsV a = (v, 0)) :
 Calls Try.prog 65 #[.pointer (some ⟨g, 0, none⟩)] w fun e w' => e = .returned (.tuple #[.string (Tk.bs v), .bool true]) ∧ WalkAt w' B g ok (Tk.bs r) L ∧ Below B w w' ∧ KeepBut w w' g none := by
 have hpos := h.pos
 have hsz := h.size
 have c0 := h.cell0
 have hl1 : r1.length ≤ 1000000 := Nat.le_trans (behind_len he) hl
 have hl2 : a.length ≤ 1000000 := Nat.le_trans (upto_len hu).1 hl1
 have H := Aside0.mk h
 have HG := Aside0.mk hG
 have HP := Lib.hid hp
 have HE := Lib.hid he
 have HU := Lib.hid hu
 have HC := Lib.hid hc
 have HV := Lib.hid hv
 clear h hG hp he hu hc hv
 go_enter Try.func65, Try.ntmps65
 go_wp2_with (first | (go_at_call 74; refine (pre_f (x := [34]) (b := false) HP.out _).mono ?_; rintro e w1 ⟨rfl, rfl⟩) | (go_at_call 34; refine (token_walk_eat.yesK B g l [39] r1 L _ H.out HE.out).mono ?_; rintro e w2 ⟨rfl, h2, b2, k2⟩; have K2 := Aside0.mk k2; clear k2; have H2 := Aside0.mk h2; have B2 := Aside0.mk b2; have HG2 := Aside0.mk (HG.out.below b2 hpos); clear h2 b2) | (go_at_call 49; refine (token_walk_upTo.yesK B g r1 [39] a r L _ H2.out HG2.out hl1 HU.out).mono ?_; rintro e w3 ⟨rfl, h3, b3, k3⟩; have K3 := Aside0.mk k3; clear k3; have H3 := Aside0.mk h3; have B3 := Aside0.mk b3; have HG3 := Aside0.mk (HG2.out.below b3 hpos); clear h3 b3) | (go_at_call 50; refine (con_f (x := [60]) (b := false) HC.out hl2 _ HG3.out).mono ?_; rintro e w4 ⟨rfl, rfl⟩) | (go_at_call 59; refine (ent_f (x := (v, 0)) HV.out hl2 _ HG3.out).mono ?_; rintro e w5 ⟨rfl, b5⟩; have B5 := Aside0.mk b5; clear b5))
 go_ret2
 exact ⟨rfl, H3.out.below B5.out, (B2.out.trans B3.out).trans (B5.out.mono (Nat.le_trans hsz (B2.out.trans B3.out).size)), (K2.out.trans K3.out (.inl rfl)).trans (KeepBut.of_below B5.out _ _) (.inl rfl)⟩
theorem token_walk_value.noe39 (B g : Nat) {ok : Nat → Prop} (l : List UInt8) (L : List S40) (w : World) (h : WalkAt w B g ok (Tk.bs l) L) (hG : Glob w) (hl : l.length ≤ 1000000) (hp : [34].isPrefixOf l = false) (he : Tk.behind [39] l = none) :
 Calls Try.prog 65 #[.pointer (some ⟨g, 0, none⟩)] w fun e w' => (∃ x, e = .returned (.tuple #[.string x, .bool false])) ∧ Below B w w' ∧ KeepBut w w' g none := by
 have hpos := h.pos
 have hsz := h.size
 have c0 := h.cell0
 have H := Aside0.mk h
 have HG := Aside0.mk hG
 have HP := Lib.hid hp
 have HE := Lib.hid he
 clear h hG hp he
 go_enter Try.func65, Try.ntmps65
 go_wp2_with (first | (go_at_call 74; refine (pre_f (x := [34]) (b := false) HP.out _).mono ?_; rintro e w1 ⟨rfl, rfl⟩) | (go_at_call 34; refine (token_walk_eat.noK B g l [39] L _ H.out HE.out).mono ?_; rintro e w2 ⟨rfl, h2, b2, k2⟩; have K2 := Aside0.mk k2; clear k2; have H2 := Aside0.mk h2; have B2 := Aside0.mk b2; have HG2 := Aside0.mk (HG.out.below b2 hpos); clear h2 b2))
 go_ret2
 exact ⟨⟨_, rfl⟩, B2.out, K2.out⟩
theorem token_walk_value.nou39 (B g : Nat) {ok : Nat → Prop} (l : List UInt8) (r1 : List UInt8) (L : List S40) (w : World) (h : WalkAt w B g ok (Tk.bs l) L) (hG : Glob w) (hl : l.length ≤ 1000000) (hp : [34].isPrefixOf l = false) (he : Tk.behind [39] l = some r1) (hu : Tk.upto [39] r1 = none) :
 Calls Try.prog 65 #[.pointer (some ⟨g, 0, none⟩)] w fun e w' => (∃ x, e = .returned (.tuple #[.string x, .bool false])) ∧ Below B w w' ∧ KeepBut w w' g none := by
 have hpos := h.pos
 have hsz := h.size
 have c0 := h.cell0
 have hl1 : r1.length ≤ 1000000 := Nat.le_trans (behind_len he) hl
 have H := Aside0.mk h
 have HG := Aside0.mk hG
 have HP := Lib.hid hp
 have HE := Lib.hid he
 have HU := Lib.hid hu
 clear h hG hp he hu
 go_enter Try.func65, Try.ntmps65
 go_wp2_with (first | (go_at_call 74; refine (pre_f (x := [34]) (b := false) HP.out _).mono ?_; rintro e w1 ⟨rfl, rfl⟩) | (go_at_call 34; refine (token_walk_eat.yesK B g l [39] r1 L _ H.out HE.out).mono ?_; rintro e w2 ⟨rfl, h2, b2, k2⟩; have K2 := Aside0.mk k2; clear k2; have H2 := Aside0.mk h2; have B2 := Aside0.mk b2; have HG2 := Aside0.mk (HG.out.below b2 hpos); clear h2 b2) | (go_at_call 49; refine (token_walk_upTo.noK B g r1 [39] L _ H2.out HG2.out hl1 HU.out).mono ?_; rintro e w3 ⟨rfl, h3, b3, k3⟩; have K3 := Aside0.mk k3; clear k3; have H3 := Aside0.mk h3; have B3 := Aside0.mk b3; have HG3 := Aside0.mk (HG2.out.below b3 hpos); clear h3 b3))
 go_ret2
 exact ⟨⟨_, rfl⟩, B2.out.trans B3.out, K2.out.trans K3.out (.inl rfl)⟩
theorem token_walk_value.noc39 (B g : Nat) {ok : Nat → Prop} (l : List UInt8) (r1 a r : List UInt8) (L : List S40) (w : World) (h : WalkAt w B g ok (Tk.bs l) L) (hG : Glob w) (hl : l.length ≤ 1000000) (hp : [34].isPrefixOf l = false) (he : Tk.behind [39] l = some r1) (hu : Tk.upto [39] r1 = some (a, r)) (hc : Lib.contains a [60] = true) :
 Calls Try.prog 65 #[.pointer (some ⟨g, 0, none⟩)] w fun e w' => (∃ x, e = .returned (.tuple #[.string x, .bool false])) ∧ Below B w w' ∧ KeepBut w w' g none := by
 have hpos := h.pos
 have hsz := h.size
 have c0 := h.cell0
 have hl1 : r1.length ≤ 1000000 := Nat.le_trans (behind_len he) hl
 have hl2 : a.length ≤ 1000000 := Nat.le_trans (upto_len hu).1 hl1
 have H := Aside0.mk h
 have HG := Aside0.mk hG
 have HP := Lib.hid hp
 have HE := Lib.hid he
 have HU := Lib.hid hu
 have HC := Lib.hid hc
 clear h hG hp he hu hc
 go_enter Try.func65, Try.ntmps65
 go_wp2_with (first | (go_at_call 74; refine (pre_f (x := [34]) (b := false) HP.out _).mono ?_; rintro e w1 ⟨rfl, rfl⟩) | (go_at_call 34; refine (token_walk_eat.yesK B g l [39] r1 L _ H.out HE.out).mono ?_; rintro e w2 ⟨rfl, h2, b2, k2⟩; have K2 := Aside0.mk k2; clear k2; have H2 := Aside0.mk h2; have B2 := Aside0.mk b2; have HG2 := Aside0.mk (HG.out.below b2 hpos); clear h2 b2) | (go_at_call 49; refine (token_walk_upTo.yesK B g r1 [39] a r L _ H2.out HG2.out hl1 HU.out).mono ?_; rintro e w3 ⟨rfl, h3, b3, k3⟩; have K3 := Aside0.mk k3; clear k3; have H3 := Aside0.mk h3; have B3 := Aside0.mk b3; have HG3 := Aside0.mk (HG2.out.below b3 hpos); clear h3 b3) | (go_at_call 50; refine (con_f (x := [60]) (b := true) HC.out hl2 _ HG3.out).mono ?_; rintro e w4 ⟨rfl, rfl⟩))
 go_ret2
 exact ⟨⟨_, rfl⟩, B2.out.trans B3.out, K2.out.trans K3.out (.inl rfl)⟩
theorem token_walk_value.nov39 (B g : Nat) {ok : Nat → Prop} (l : List UInt8) (r1 a r : List UInt8) (L : List S40) (w : World) (h : WalkAt w B g ok (Tk.bs l) L) (hG : Glob w) (hl : l.length ≤ 1000000) (hp : [34].isPrefixOf l = false) (he : Tk.behind [39] l = some r1) (hu : Tk.upto [39] r1 = some (a, r)) (hc : Lib.contains a [60] = false) (hv : entsV a = ([], 5)) :
 Calls Try.prog 65 #[.pointer (some ⟨g, 0, none⟩)] w fun e w' => (∃ x, e = .returned (.tuple #[.string x, .bool false])) ∧ Below B w w' ∧ KeepBut w w' g none := by
 have hpos := h.pos
 have hsz := h.size
 have c0 := h.cell0
 have hl1 : r1.length ≤ 1000000 := Nat.le_trans (behind_len he) hl
 have hl2 : a.length ≤ 1000000 := Nat.le_trans (upto_len hu).1 hl1
 have H := Aside0.mk h
 have HG := Aside0.mk hG
 have HP := Lib.hid hp
 have HE := Lib.hid he
 have HU := Lib.hid hu
 have HC := Lib.hid hc
 have HV := Lib.hid hv
 clear h hG hp he hu hc hv
 go_enter Try.func65, Try.ntmps65
 go_wp2_with (first | (go_at_call 74; refine (pre_f (x := [34]) (b := false) HP.out _).mono ?_; rintro e w1 ⟨rfl, rfl⟩) | (go_at_call 34; refine (token_walk_eat.yesK B g l [39] r1 L _ H.out HE.out).mono ?_; rintro e w2 ⟨rfl, h2, b2, k2⟩; have K2 := Aside0.mk k2; clear k2; have H2 := Aside0.mk h2; have B2 := Aside0.mk b2; have HG2 := Aside0.mk (HG.out.below b2 hpos); clear h2 b2) | (go_at_call 49; refine (token_walk_upTo.yesK B g r1 [39] a r L _ H2.out HG2.out hl1 HU.out).mono ?_; rintro e w3 ⟨rfl, h3, b3, k3⟩; have K3 := Aside0.mk k3; clear k3; have H3 := Aside0.mk h3; have B3 := Aside0.mk b3; have HG3 := Aside0.mk (HG2.out.below b3 hpos); clear h3 b3) | (go_at_call 50; refine (con_f (x := [60]) (b := false) HC.out hl2 _ HG3.out).mono ?_; rintro e w4 ⟨rfl, rfl⟩) | (go_at_call 59; refine (ent_f (x := ([], 5)) HV.out hl2 _ HG3.out).mono ?_; rintro e w5 ⟨rfl, b5⟩; have B5 := Aside0.mk b5; clear b5))
 go_ret2
 exact ⟨⟨_, rfl⟩, (B2.out.trans B3.out).trans (B5.out.mono (Nat.le_trans hsz (B2.out.trans B3.out).size)), (K2.out.trans K3.out (.inl rfl)).trans (KeepBut.of_below B5.out _ _) (.inl rfl)⟩
theorem entsV_some {l c : List UInt8} (h : Tk.entities l = some c) : entsV l = (c, 0) := by unfold entsV; rw [h]
theorem entsV_none {l : List UInt8} (h : Tk.entities l = none) : entsV l = ([], 5) := by unfold entsV; rw [h]
theorem token_walk_value.yesK (B g : Nat) {ok : Nat → Prop} (l r v : List UInt8) (L : List S40) (w : World) (h : WalkAt w B g ok (Tk.bs l) L) (hG : Glob w) (hl : l.length ≤ 1000000) (hx : Tk.value l = some (v, r)) :
 Calls Try.prog 65 #[.pointer (some ⟨g, 0, none⟩)] w fun e w' => e = .returned (.tuple #[.string (Tk.bs v), .bool true]) ∧ WalkAt w' B g ok (Tk.bs r) L ∧ Below B w w' ∧ KeepBut w w' g none := by
 unfold Tk.value at hx
 cases hp : [34].isPrefixOf l with
 | true =>
  rw [if_pos hp] at hx
  obtain ⟨r1, he, hx⟩ := Option.bind_eq_some_iff.1 hx
  obtain ⟨⟨a, b⟩, hu, hx⟩ := Option.bind_eq_some_iff.1 hx
  simp only at hx
  by_cases hc : 0 ≤ Lib.index a [60]
  ·rw [if_pos hc] at hx; cases hx
  ·rw [if_neg hc] at hx
   obtain ⟨c, hv, hx⟩ := Option.map_eq_some_iff.1 hx
   obtain ⟨rfl, rfl⟩ := Prod.mk.inj hx
   exact token_walk_value.yes34 B g l r1 a _ _ L w h hG hl hp he hu (contains_no hc) (entsV_some hv)
 | false =>
  rw [if_neg (by rw [hp]; decide)] at hx
  obtain ⟨r1, he, hx⟩ := Option.bind_eq_some_iff.1 hx
  obtain ⟨⟨a, b⟩, hu, hx⟩ := Option.bind_eq_some_iff.1 hx
  simp only at hx
  by_cases hc : 0 ≤ Lib.index a [60]
  ·rw [if_pos hc] at hx; cases hx
  ·rw [if_neg hc] at hx
   obtain ⟨c, hv, hx⟩ := Option.map_eq_some_iff.1 hx
   obtain ⟨rfl, rfl⟩ := Prod.mk.inj hx
   exact token_walk_value.yes39 B g l r1 a _ _ L w h hG hl hp he hu (contains_no hc) (entsV_some hv)
theorem token_walk_value.noK (B g : Nat) {ok : Nat → Prop} (l : List UInt8) (L : List S40) (w : World) (h : WalkAt w B g ok (Tk.bs l) L) (hG : Glob w) (hl : l.length ≤ 1000000) (hx : Tk.value l = none) :
 Calls Try.prog 65 #[.pointer (some ⟨g, 0, none⟩)] w fun e w' => (∃ x, e = .returned (.tuple #[.string x, .bool false])) ∧ Below B w w' ∧ KeepBut w w' g none := by
 unfold Tk.value at hx
 cases hp : [34].isPrefixOf l with
 | true =>
  rw [if_pos hp] at hx
  dsimp only at hx
  cases he : Tk.behind [34] l with
  | none => exact token_walk_value.noe34 B g l L w h hG hl hp he
  | some r1 =>
   rw [he, Option.bind_some] at hx
   cases hu : Tk.upto [34] r1 with
   | none => exact token_walk_value.nou34 B g l r1 L w h hG hl hp he hu
   | some p =>
    obtain ⟨a, r⟩ := p
    rw [hu, Option.bind_some] at hx
    simp only at hx
    by_cases hc : 0 ≤ Lib.index a [60]
    ·exact token_walk_value.noc34 B g l r1 a r L w h hG hl hp he hu (contains_yes hc)
    ·rw [if_neg hc] at hx
     exact token_walk_value.nov34 B g l r1 a r L w h hG hl hp he hu (contains_no hc) (entsV_none (Option.map_eq_none_iff.1 hx))
 | false =>
  rw [if_neg (by rw [hp]; decide)] at hx
  dsimp only at hx
  cases he : Tk.behind [39] l with
  | none => exact token_walk_value.noe39 B g l L w h hG hl hp he
  | some r1 =>
   rw [he, Option.bind_some] at hx
   cases hu : Tk.upto [39] r1 with
   | none => exact token_walk_value.nou39 B g l r1 L w h hG hl hp he hu
   | some p =>
    obtain ⟨a, r⟩ := p
    rw [hu, Option.bind_some] at hx
    simp only at hx
    by_cases hc : 0 ≤ Lib.index a [60]
    ·exact token_walk_value.noc39 B g l r1 a r L w h hG hl hp he hu (contains_yes hc)
    ·rw [if_neg hc] at hx
     exact token_walk_value.nov39 B g l r1 a r L w h hG hl hp he hu (contains_no hc) (entsV_none (Option.map_eq_none_iff.1 hx))
theorem token_walk_attr.yes (B g : Nat) {ok : Nat → Prop} (l r r1 v : List UInt8) (L : List S40) (w : World) (h : WalkAt w B g ok (Tk.bs l) L) (hG : Glob w) (hl : l.length ≤ 1000000) (hh : Tk.head l ≠ []) (he : Tk.behind [61] (Tk.skip (l.drop (Tk.head l).length)) = some r1) (hv : Tk.value (Tk.skip r1) = some (v, r)) :
 Calls Try.prog 55 #[.pointer (some ⟨g, 0, none⟩)] w fun e w' => e = .returned (.tuple #[.agg #[.string (Tk.bs (Tk.head l)), .string (Tk.bs v)], .bool true]) ∧ WalkAt w' B g ok (Tk.bs r) L ∧ Below B w w' ∧ KeepBut w w' g none := by
 obtain ⟨e1, e2, e3, e4⟩ := bs_some hh
 have hpos := h.pos
 have hsz := h.size
 have hu := Try.underlying68
 have hl1 : (l.drop (Tk.head l).length).length ≤ 1000000 := by rw [List.length_drop]; omega
 have hl2 : r1.length ≤ 1000000 := Nat.le_trans (behind_len he) (Nat.le_trans (skip_len _) hl1)
 have hl3 : (Tk.skip r1).length ≤ 1000000 := Nat.le_trans (skip_len _) hl2
 have HG := Aside0.mk hG
 have HE := Aside0.mk he
 have HV := Aside0.mk hv
 have H0 := Aside0.mk h
 clear h hG hh he hv
 go_enter Try.func55, Try.ntmps55
 go_wp2_with (fail)
 have hb0 : Below w.heap.size w (w.alloc (.cells #[.string ⟨#[]⟩, .string ⟨#[]⟩] 68)) := below_alloc (Below.refl _ _) _
 have X0 : (w.alloc (.cells #[.string ⟨#[]⟩, .string ⟨#[]⟩] 68)).heap[w.heap.size]? = some (.cells #[.string ⟨#[]⟩, .string ⟨#[]⟩] 68 (0, 0)) := heap_alloc_new w _
 have hgb : w.heap.size ≠ g := Nat.ne_of_gt H0.out.lt
 have H := Aside0.mk ((H0.out.more (ok' := fun k => ok k ∧ k ≠ w.heap.size) (fun k hk ho => ⟨ho, Nat.ne_of_lt hk⟩)).below hb0)
 have HG0 := Aside0.mk (HG.out.step hb0)
 have B0 := Aside0.mk (hb0.mono hsz)
 have K0 := Aside0.mk (KeepBut.of_below hb0 g none)
 have X := Aside0.mk X0
 clear H0 hb0 X0
 generalize w.alloc _ = w0 at *
 refine (token_walk_name.callsK B g l L _ H.out HG0.out hl).mono ?_
 rintro e w1 ⟨rfl, h1, b1, k1⟩
 have H1 := Aside0.mk h1
 have HG1 := Aside0.mk (HG0.out.below b1 hpos)
 have B1 := Aside0.mk (B0.out.trans b1)
 have K1 := Aside0.mk (K0.out.trans k1 (.inl rfl))
 have X1 := Aside0.mk (k1.blk X.out hgb (by simp))
 clear h1 b1 k1 X H K0 B0
 go_wp2_with (go_at_call 54; refine (token_walk_skip.callsK B g _ L _ H1.out HG1.out hl1).mono ?_)
 rintro e w2 ⟨rfl, h1, b1, k1⟩
 have H2 := Aside0.mk h1
 have HG2 := Aside0.mk (HG1.out.below b1 hpos)
 have B2 := Aside0.mk (B1.out.trans b1)
 have K2 := Aside0.mk (K1.out.trans k1 (.inl rfl))
 have X2 := Aside0.mk (k1.blk X1.out hgb (by simp))
 clear h1 b1 k1 X1 H1 K1 B1
 go_wp2_with (go_at_call 34; refine (token_walk_eat.yesK B g _ [61] r1 L _ H2.out HE.out).mono ?_)
 rintro e w3 ⟨rfl, h1, b1, k1⟩
 have H3 := Aside0.mk h1
 have HG3 := Aside0.mk (HG2.out.below b1 hpos)
 have B3 := Aside0.mk (B2.out.trans b1)
 have K3 := Aside0.mk (K2.out.trans k1 (.inl rfl))
 have X3 := Aside0.mk (k1.blk X2.out hgb (by simp))
 clear h1 b1 k1 X2 H2 K2 B2
 go_wp2_with (go_at_call 54; refine (token_walk_skip.callsK B g r1 L _ H3.out HG3.out hl2).mono ?_)
 rintro e w4 ⟨rfl, h1, b1, k1⟩
 have H4 := Aside0.mk h1
 have HG4 := Aside0.mk (HG3.out.below b1 hpos)
 have B4 := Aside0.mk (B3.out.trans b1)
 have K4 := Aside0.mk (K3.out.trans k1 (.inl rfl))
 have X4 := Aside0.mk (k1.blk X3.out hgb (by simp))
 clear h1 b1 k1 X3 H3 K3 B3
 go_wp2_with (go_at_call 65; refine (token_walk_value.yesK B g _ r v L _ H4.out HG4.out hl3 HV.out).mono ?_)
 rintro e w5 ⟨rfl, h1, b1, k1⟩
 have H5 := Aside0.mk h1
 have HG5 := Aside0.mk (HG4.out.below b1 hpos)
 have B5 := Aside0.mk (B4.out.trans b1)
 have K5 := Aside0.mk (K4.out.trans k1 (.inl rfl))
 have X5 := Aside0.mk (k1.blk X4.out hgb (by simp))
 clear h1 b1 k1 X4 H4 K4 B4
 have x0 := (blk_cell X5.out 0).trans rfl
 have x1 := (blk_cell X5.out 1).trans rfl
 have z0 := blk_frozen X5.out 0
 have z1 := blk_frozen X5.out 1
 go_wp2
 have Y : ∀ a b, ((w5.setCell ⟨w.heap.size, 0, none⟩ (.string a)).setCell ⟨w.heap.size, 1, none⟩ (.string b)).heap[w.heap.size]? = some (.cells #[.string a, .string b] 68 (0, 0)) := fun a b => by
  have h1 := blk_set X5.out 0 (.string a)
  have h2 := blk_set h1 1 (.string b)
  simpa using h2
 refine bodyPost_ret (results_ct rfl _ _ w.heap.size 68 #[.string (Tk.bs (Tk.head l)), .string (Tk.bs v)] (0, 0) _ rfl (Y _ _) Try.underlying68 rfl (by kernel_rfl)) rfl ⟨rfl, ?_, ?_, ?_⟩
 ·exact ((H5.out.far (p := ⟨w.heap.size, 0, none⟩) hgb (fun k hk => hk.2) _).far (p := ⟨w.heap.size, 1, none⟩) hgb (fun k hk => hk.2) _).more (fun k _ hk => hk.1)
 ·exact (B5.out.setCell (p := ⟨w.heap.size, 0, none⟩) hsz _).setCell (p := ⟨w.heap.size, 1, none⟩) hsz _
 ·exact keep_far (keep_far K5.out (Nat.le_refl _) _) (Nat.le_refl _) _
theorem token_walk_attr.noh (B g : Nat) {ok : Nat → Prop} (l : List UInt8) (L : List S40) (w : World) (h : WalkAt w B g ok (Tk.bs l) L) (hG : Glob w) (hl : l.length ≤ 1000000) (hh : Tk.head l = []) :
 Calls Try.prog 55 #[.pointer (some ⟨g, 0, none⟩)] w fun e w' => (∃ x y, e = .returned (.tuple #[.agg #[.string x, .string y], .bool false])) ∧ Below B w w' ∧ KeepBut w w' g none := by
 have e1 := bs_none hh
 have hpos := h.pos
 have hsz := h.size
 have hu := Try.underlying68
 have hl1 : (l.drop (Tk.head l).length).length ≤ 1000000 := by rw [List.length_drop]; omega
 have HG := Aside0.mk hG
 have H0 := Aside0.mk h
 clear h hG hh
 go_enter Try.func55, Try.ntmps55
 go_wp2_with (fail)
 have hb0 : Below w.heap.size w (w.alloc (.cells #[.string ⟨#[]⟩, .string ⟨#[]⟩] 68)) := below_alloc (Below.refl _ _) _
 have X0 : (w.alloc (.cells #[.string ⟨#[]⟩, .string ⟨#[]⟩] 68)).heap[w.heap.size]? = some (.cells #[.string ⟨#[]⟩, .string ⟨#[]⟩] 68 (0, 0)) := heap_alloc_new w _
 have hgb : w.heap.size ≠ g := Nat.ne_of_gt H0.out.lt
 have H := Aside0.mk ((H0.out.more (ok' := fun k => ok k ∧ k ≠ w.heap.size) (fun k hk ho => ⟨ho, Nat.ne_of_lt hk⟩)).below hb0)
 have HG0 := Aside0.mk (HG.out.step hb0)
 have B0 := Aside0.mk (hb0.mono hsz)
 have K0 := Aside0.mk (KeepBut.of_below hb0 g none)
 have X := Aside0.mk X0
 clear H0 hb0 X0
 generalize w.alloc _ = w0 at *
 refine (token_walk_name.callsK B g l L _ H.out HG0.out hl).mono ?_
 rintro e w1 ⟨rfl, h1, b1, k1⟩
 have H1 := Aside0.mk h1
 have HG1 := Aside0.mk (HG0.out.below b1 hpos)
 have B1 := Aside0.mk (B0.out.trans b1)
 have K1 := Aside0.mk (K0.out.trans k1 (.inl rfl))
 have X1 := Aside0.mk (k1.blk X.out hgb (by simp))
 clear h1 b1 k1 X H K0 B0
 go_wp2_with (go_at_call 54; refine (token_walk_skip.callsK B g _ L _ H1.out HG1.out hl1).mono ?_)
 rintro e w2 ⟨rfl, h1, b1, k1⟩
 have H2 := Aside0.mk h1
 have HG2 := Aside0.mk (HG1.out.below b1 hpos)
 have B2 := Aside0.mk (B1.out.trans b1)
 have K2 := Aside0.mk (K1.out.trans k1 (.inl rfl))
 have X2 := Aside0.mk (k1.blk X1.out hgb (by simp))
 clear h1 b1 k1 X1 H1 K1 B1
 have x0 := (blk_cell X2.out 0).trans rfl
 have x1 := (blk_cell X2.out 1).trans rfl
 have z0 := blk_frozen X2.out 0
 have z1 := blk_frozen X2.out 1
 go_wp2
 have Y : ∀ a b, ((w2.setCell ⟨w.heap.size, 0, none⟩ (.string a)).setCell ⟨w.heap.size, 1, none⟩ (.string b)).heap[w.heap.size]? = some (.cells #[.string a, .string b] 68 (0, 0)) := fun a b => by
  have h1 := blk_set X2.out 0 (.string a)
  have h2 := blk_set h1 1 (.string b)
  simpa using h2
 refine bodyPost_ret (results_ct rfl _ _ w.heap.size 68 #[.string ⟨#[]⟩, .string ⟨#[]⟩] (0, 0) _ rfl (Y _ _) Try.underlying68 rfl (by kernel_rfl)) rfl ⟨⟨_, _, rfl⟩, ?_, ?_⟩
 ·exact (B2.out.setCell (p := ⟨w.heap.size, 0, none⟩) hsz _).setCell (p := ⟨w.heap.size, 1, none⟩) hsz _
 ·exact keep_far (keep_far K2.out (Nat.le_refl _) _) (Nat.le_refl _) _
theorem token_walk_attr.noe (B g : Nat) {ok : Nat → Prop} (l : List UInt8) (L : List S40) (w : World) (h : WalkAt w B g ok (Tk.bs l) L) (hG : Glob w) (hl : l.length ≤ 1000000) (hh : Tk.head l ≠ []) (he : Tk.behind [61] (Tk.skip (l.drop (Tk.head l).length)) = none) :
 Calls Try.prog 55 #[.pointer (some ⟨g, 0, none⟩)] w fun e w' => (∃ x y, e = .returned (.tuple #[.agg #[.string x, .string y], .bool false])) ∧ Below B w w' ∧ KeepBut w w' g none := by
 obtain ⟨e1, e2, e3, e4⟩ := bs_some hh
 have hpos := h.pos
 have hsz := h.size
 have hu := Try.underlying68
 have hl1 : (l.drop (Tk.head l).length).length ≤ 1000000 := by rw [List.length_drop]; omega
 have HG := Aside0.mk hG
 have HE := Aside0.mk he
 have H0 := Aside0.mk h
 clear h hG hh he
 go_enter Try.func55, Try.ntmps55
 go_wp2_with (fail)
 have hb0 : Below w.heap.size w (w.alloc (.cells #[.string ⟨#[]⟩, .string ⟨#[]⟩] 68)) := below_alloc (Below.refl _ _) _
 have X0 : (w.alloc (.cells #[.string ⟨#[]⟩, .string ⟨#[]⟩] 68)).heap[w.heap.size]? = some (.cells #[.string ⟨#[]⟩, .string ⟨#[]⟩] 68 (0, 0)) := heap_alloc_new w _
 have hgb : w.heap.size ≠ g := Nat.ne_of_gt H0.out.lt
 have H := Aside0.mk ((H0.out.more (ok' := fun k => ok k ∧ k ≠ w.heap.size) (fun k hk ho => ⟨ho, Nat.ne_of_lt hk⟩)).below hb0)
 have HG0 := Aside0.mk (HG.out.step hb0)
 have B0 := Aside0.mk (hb0.mono hsz)
 have K0 := Aside0.mk (KeepBut.of_below hb0 g none)
 have X := Aside0.mk X0
 clear H0 hb0 X0
 generalize w.alloc _ = w0 at *
 refine (token_walk_name.callsK B g l L _ H.out HG0.out hl).mono ?_
 rintro e w1 ⟨rfl, h1, b1, k1⟩
 have H1 := Aside0.mk h1
 have HG1 := Aside0.mk (HG0.out.below b1 hpos)
 have B1 := Aside0.mk (B0.out.trans b1)
 have K1 := Aside0.mk (K0.out.trans k1 (.inl rfl))
 have X1 := Aside0.mk (k1.blk X.out hgb (by simp))
 clear h1 b1 k1 X H K0 B0
 go_wp2_with (go_at_call 54; refine (token_walk_skip.callsK B g _ L _ H1.out HG1.out hl1).mono ?_)
 rintro e w2 ⟨rfl, h1, b1, k1⟩
 have H2 := Aside0.mk h1
 have HG2 := Aside0.mk (HG1.out.below b1 hpos)
 have B2 := Aside0.mk (B1.out.trans b1)
 have K2 := Aside0.mk (K1.out.trans k1 (.inl rfl))
 have X2 := Aside0.mk (k1.blk X1.out hgb (by simp))
 clear h1 b1 k1 X1 H1 K1 B1
 go_wp2_with (go_at_call 34; refine (token_walk_eat.noK B g _ [61] L _ H2.out HE.out).mono ?_)
 rintro e w3 ⟨rfl, h1, b1, k1⟩
 have H3 := Aside0.mk h1
 have HG3 := Aside0.mk (HG2.out.below b1 hpos)
 have B3 := Aside0.mk (B2.out.trans b1)
 have K3 := Aside0.mk (K2.out.trans k1 (.inl rfl))
 have X3 := Aside0.mk (k1.blk X2.out hgb (by simp))
 clear h1 b1 k1 X2 H2 K2 B2
 have x0 := (blk_cell X3.out 0).trans rfl
 have x1 := (blk_cell X3.out 1).trans rfl
 have z0 := blk_frozen X3.out 0
 have z1 := blk_frozen X3.out 1
 go_wp2
 have Y : ∀ a b, ((w3.setCell ⟨w.heap.size, 0, none⟩ (.string a)).setCell ⟨w.heap.size, 1, none⟩ (.string b)).heap[w.heap.size]? = some (.cells #[.string a, .string b] 68 (0, 0)) := fun a b => by
  have h1 := blk_set X3.out 0 (.string a)
  have h2 := blk_set h1 1 (.string b)
  simpa using h2
 refine bodyPost_ret (results_ct rfl _ _ w.heap.size 68 #[.string ⟨#[]⟩, .string ⟨#[]⟩] (0, 0) _ rfl (Y _ _) Try.underlying68 rfl (by kernel_rfl)) rfl ⟨⟨_, _, rfl⟩, ?_, ?_⟩
 ·exact (B3.out.setCell (p := ⟨w.heap.size, 0, none⟩) hsz _).setCell (p := ⟨w.heap.size, 1, none⟩) hsz _
 ·exact keep_far (keep_far K3.out (Nat.le_refl _) _) (Nat.le_refl _) _
theorem token_walk_attr.nov (B g : Nat) {ok : Nat → Prop} (l r1 : List UInt8) (L : List S40) (w : World) (h : WalkAt w B g ok (Tk.bs l) L) (hG : Glob w) (hl : l.length ≤ 1000000) (hh : Tk.head l ≠ []) (he : Tk.behind [61] (Tk.skip (l.drop (Tk.head l).length)) = some r1) (hv : Tk.value (Tk.skip r1) = none) :
 Calls Try.prog 55 #[.pointer (some ⟨g, 0, none⟩)] w fun e w' => (∃ x y, e = .returned (.tuple #[.agg #[.string x, .string y], .bool false])) ∧ Below B w w' ∧ KeepBut w w' g none := by
 obtain ⟨e1, e2, e3, e4⟩ := bs_some hh
 have hpos := h.pos
 have hsz := h.size
 have hu := Try.underlying68
 have hl1 : (l.drop (Tk.head l).length).length ≤ 1000000 := by rw [List.length_drop]; omega
 have hl2 : r1.length ≤ 1000000 := Nat.le_trans (behind_len he) (Nat.le_trans (skip_len _) hl1)
 have hl3 : (Tk.skip r1).length ≤ 1000000 := Nat.le_trans (skip_len _) hl2
 have HG := Aside0.mk hG
 have HE := Aside0.mk he
 have HV := Aside0.mk hv
 have H0 := Aside0.mk h
 clear h hG hh he hv
 go_enter Try.func55, Try.ntmps55
 go_wp2_with (fail)
 have hb0 : Below w.heap.size w (w.alloc (.cells #[.string ⟨#[]⟩, .string ⟨#[]⟩] 68)) := below_alloc (Below.refl _ _) _
 have X0 : (w.alloc (.cells #[.string ⟨#[]⟩, .string ⟨#[]⟩] 68)).heap[w.heap.size]? = some (.cells #[.string ⟨#[]⟩, .string ⟨#[]⟩] 68 (0, 0)) := heap_alloc_new w _
 have hgb : w.heap.size ≠ g := Nat.ne_of_gt H0.out.lt
 have H := Aside0.mk ((H0.out.more (ok' := fun k => ok k ∧ k ≠ w.heap.size) (fun k hk ho => ⟨ho, Nat.ne_of_lt hk⟩)).below hb0)
 have HG0 := Aside0.mk (HG.out.step hb0)
 have B0 := Aside0.mk (hb0.mono hsz)
 have K0 := Aside0.mk (KeepBut.of_below hb0 g none)
 have X := Aside0.mk X0
 clear H0 hb0 X0
 generalize w.alloc _ = w0 at *
 refine (token_walk_name.callsK B g l L _ H.out HG0.out hl).mono ?_
 rintro e w1 ⟨rfl, h1, b1, k1⟩
 have H1 := Aside0.mk h1
 have HG1 := Aside0.mk (HG0.out.below b1 hpos)
 have B1 := Aside0.mk (B0.out.trans b1)
 have K1 := Aside0.mk (K0.out.trans k1 (.inl rfl))
 have X1 := Aside0.mk (k1.blk X.out hgb (by simp))
 clear h1 b1 k1 X H K0 B0
 go_wp2_with (go_at_call 54; refine (token_walk_skip.callsK B g _ L _ H1.out HG1.out hl1).mono ?_)
 rintro e w2 ⟨rfl, h1, b1, k1⟩
 have H2 := Aside0.mk h1
 have HG2 := Aside0.mk (HG1.out.below b1 hpos)
 have B2 := Aside0.mk (B1.out.trans b1)
 have K2 := Aside0.mk (K1.out.trans k1 (.inl rfl))
 have X2 := Aside0.mk (k1.blk X1.out hgb (by simp))
 clear h1 b1 k1 X1 H1 K1 B1
 go_wp2_with (go_at_call 34; refine (token_walk_eat.yesK B g _ [61] r1 L _ H2.out HE.out).mono ?_)
 rintro e w3 ⟨rfl, h1, b1, k1⟩
 have H3 := Aside0.mk h1
 have HG3 := Aside0.mk (HG2.out.below b1 hpos)
 have B3 := Aside0.mk (B2.out.trans b1)
 have K3 := Aside0.mk (K2.out.trans k1 (.inl rfl))
 have X3 := Aside0.mk (k1.blk X2.out hgb (by simp))
 clear h1 b1 k1 X2 H2 K2 B2
 go_wp2_with (go_at_call 54; refine (token_walk_skip.callsK B g r1 L _ H3.out HG3.out hl2).mono ?_)
 rintro e w4 ⟨rfl, h1, b1, k1⟩
 have H4 := Aside0.mk h1
 have HG4 := Aside0.mk (HG3.out.below b1 hpos)
 have B4 := Aside0.mk (B3.out.trans b1)
 have K4 := Aside0.mk (K3.out.trans k1 (.inl rfl))
 have X4 := Aside0.mk (k1.blk X3.out hgb (by simp))
 clear h1 b1 k1 X3 H3 K3 B3
 go_wp2_with (go_at_call 65; refine (token_walk_value.noK B g _ L _ H4.out HG4.out hl3 HV.out).mono ?_)
 rintro e w5 ⟨⟨xv, rfl⟩, b1, k1⟩
 have B5 := Aside0.mk (B4.out.trans b1)
 have K5 := Aside0.mk (K4.out.trans k1 (.inl rfl))
 have X5 := Aside0.mk (k1.blk X4.out hgb (by simp))
 clear b1 k1 X4 H4 K4 B4
 have x0 := (blk_cell X5.out 0).trans rfl
 have x1 := (blk_cell X5.out 1).trans rfl
 have z0 := blk_frozen X5.out 0
 have z1 := blk_frozen X5.out 1
 go_wp2
 have Y : ∀ a b, ((w5.setCell ⟨w.heap.size, 0, none⟩ (.string a)).setCell ⟨w.heap.size, 1, none⟩ (.string b)).heap[w.heap.size]? = some (.cells #[.string a, .string b] 68 (0, 0)) := fun a b => by
  have h1 := blk_set X5.out 0 (.string a)
  have h2 := blk_set h1 1 (.string b)
  simpa using h2
 refine bodyPost_ret (results_ct rfl _ _ w.heap.size 68 #[.string (Tk.bs (Tk.head l)), .string xv] (0, 0) _ rfl (Y _ _) Try.underlying68 rfl (by kernel_rfl)) rfl ⟨⟨_, _, rfl⟩, ?_, ?_⟩
 ·exact (B5.out.setCell (p := ⟨w.heap.size, 0, none⟩) hsz _).setCell (p := ⟨w.heap.size, 1, none⟩) hsz _
 ·exact keep_far (keep_far K5.out (Nat.le_refl _) _) (Nat.le_refl _) _
theorem token_walk_attr.yesA (B g : Nat) {ok : Nat → Prop} (l r : List UInt8) (x : S68) (L : List S40) (w : World) (h : WalkAt w B g ok (Tk.bs l) L) (hG : Glob w) (hl : l.length ≤ 1000000) (hx : Tk.attr l = some (x, r)) :
 Calls Try.prog 55 #[.pointer (some ⟨g, 0, none⟩)] w fun e w' => e = .returned (.tuple #[.agg #[.string x.f0, .string x.f1], .bool true]) ∧ WalkAt w' B g ok (Tk.bs r) L ∧ Below B w w' ∧ KeepBut w w' g none := by
 unfold Tk.attr at hx
 by_cases hh : Tk.head l = []
 ·rw [if_pos hh] at hx; cases hx
 rw [if_neg hh] at hx
 obtain ⟨r1, he, hx⟩ := Option.bind_eq_some_iff.1 hx
 obtain ⟨⟨v, r2⟩, hv, hx⟩ := Option.map_eq_some_iff.1 hx
 obtain ⟨rfl, rfl⟩ := Prod.mk.inj hx
 exact token_walk_attr.yes B g l r2 r1 v L w h hG hl hh he hv
theorem token_walk_attr.noA (B g : Nat) {ok : Nat → Prop} (l : List UInt8) (L : List S40) (w : World) (h : WalkAt w B g ok (Tk.bs l) L) (hG : Glob w) (hl : l.length ≤ 1000000) (hx : Tk.attr l = none) :
 Calls Try.prog 55 #[.pointer (some ⟨g, 0, none⟩)] w fun e w' => (∃ x y, e = .returned (.tuple #[.agg #[.string x, .string y], .bool false])) ∧ Below B w w' ∧ KeepBut w w' g none := by
 unfold Tk.attr at hx
 by_cases hh : Tk.head l = []
 ·exact token_walk_attr.noh B g l L w h hG hl hh
 rw [if_neg hh] at hx
 cases he : Tk.behind [61] (Tk.skip (l.drop (Tk.head l).length)) with
 | none => exact token_walk_attr.noe B g l L w h hG hl hh he
 | some r1 =>
  rw [he, Option.bind_some] at hx
  exact token_walk_attr.nov B g l r1 L w h hG hl hh he (Option.map_eq_none_iff.1 hx)
def attEq (v0 : ByteArray) (s : S68) : Bool := s.f0.toList == v0.toList
theorem api_Attr_56.calls1 (s : S68) (v0 : ByteArray) (g : Nat) (w : World) (hc : w.cell? ⟨g, 0, none⟩ = some (.string v0)) :
 Calls Try.prog 57 #[.agg #[.string s.f0, .string s.f1], .pointer (some ⟨g, 0, none⟩)] w fun e w' => e = .returned (.bool (s.f0.toList == v0.toList)) ∧ Below w.heap.size w w' := by
 have hu := Try.underlying68
 have hlt := World.block_lt_of_cell? _ _ hc
 have HC := Aside0.mk hc
 clear hc
 go_enter Try.func57, Try.ntmps57
 have HB := Aside0.mk (Below.refl w.heap.size w)
 go_upto_region 1 with (first | (refine be 2 #[.string s.f0, .string s.f1] 68 ?_; intro gb hg w3 hbox hb; have HX := Aside0.mk hbox; replace HB := Aside0.mk (below_step HB.out hb); replace HC := Aside0.mk ((hb.cell (World.block_lt_of_cell? _ _ HC.out)).trans HC.out); clear hb hbox hg))
 have hX0 : w3.cell? ⟨gb, 0, none⟩ = some (.string s.f0) := (blk_cell HX.out 0).trans rfl
 have hX1 : w3.cell? ⟨gb, 1, none⟩ = some (.string s.f1) := (blk_cell HX.out 1).trans rfl
 have hCv := HC.out
 go_wp2
 go_ret
 exact ⟨rfl, HB.out⟩
theorem any_take {α : Type} (p : α → Bool) (xs : List α) (i : Nat) (h : i < xs.length) : (xs.take (i + 1)).any p = ((xs.take i).any p || p xs[i]) := by
 rw [List.take_succ_eq_append_getElem h, List.any_append]
 simp
theorem any_hit {α : Type} {p : α → Bool} {xs : List α} {i : Nat} (h : i < xs.length) (hp : p xs[i] = true) : xs.any p = true := List.any_eq_true.2 ⟨_, List.getElem_mem h, hp⟩
theorem rdA_at (xs : List S68) (i : Nat) (h : i < xs.length) : rd_T68 xs (i : Int) = xs[i] := by
 simp [rd_T68, List.getD, h]
theorem api_Attr_56.calls2 (A0 : Option Addr) (c0 : Nat) (xs : List S68) (v0 : ByteArray) (g : Nat) (w : World) (hr0 : Kd.C k68 w A0 xs.length xs) (hlen : xs.length ≤ 1000000) (hc : w.cell? ⟨g, 0, none⟩ = some (.string v0)) :
 Calls Try.prog 66 #[.slice A0 xs.length c0, .func (.func 57) #[] #[.pointer (some ⟨g, 0, none⟩)]] w fun e w' => (∃ r : Int, e = .returned (.int .i64 r) ∧ decide (0 ≤ r) = xs.any (attEq v0)) ∧ Below w.heap.size w w' := by
 have hu := Try.underlying68
 have HR0 := Aside0.mk hr0
 have HC := Aside0.mk hc
 clear hr0 hc
 obtain ⟨p, hp⟩ : ∃ p : S68 → Bool, attEq v0 = p := ⟨_, rfl⟩
 have C1 : ∀ (s : S68) (W : World), W.cell? ⟨g, 0, none⟩ = some (.string v0) → Calls Try.prog 57 #[.agg #[.string s.f0, .string s.f1], .pointer (some ⟨g, 0, none⟩)] W fun e w' => e = .returned (.bool (p s)) ∧ Below W.heap.size W w' := by
  intro s W hW
  rw [← hp]
  exact api_Attr_56.calls1 s v0 g W hW
 rw [hp]
 clear hp
 go_enter Try.func66, Try.ntmps66
 go_wp2
 go_loopg [8] (xs.length + 1) (fun gk v8 w' => ∃ (i : Nat) (x : Int), i ≤ xs.length ∧ i + gk = xs.length + 1 ∧ v8 = .int .i64 x ∧ Aside0 (x = (i : Int)) ∧ Aside0 ((xs.take i).any p = false) ∧ Aside0 (Below w.heap.size w w'))
 case atStart => exact ⟨0, 0, by omega, by omega, by first | rfl | (simp; done), ⟨rfl⟩, ⟨by rw [List.take_zero]; rfl⟩, ⟨Below.refl _ _⟩⟩
 obtain ⟨i, x, hi, hgk, rfl, HX, HA, HB⟩ := hrel
 have hxi := HX.out
 by_cases hlt : i < xs.length
 rotate_left
 ·obtain rfl : i = xs.length := by omega
  have d1 : decide (x < (xs.length : Int)) = false := decide_eq_false (by omega)
  have hall : xs.any p = false := by have := HA.out; rwa [List.take_length] at this
  have HALL := Lib.hid hall
  clear hall hxi C1
  go_wp2
  go_ret
  exact ⟨⟨_, rfl, by rw [HALL.out]; rfl⟩, HB.out⟩
 obtain ⟨g1, rfl⟩ : ∃ g1, gk = g1 + 1 := ⟨gk - 1, by omega⟩
 have d1 : decide (x < (xs.length : Int)) = true := decide_eq_true (by omega)
 obtain ⟨ad, e_, hx0, hx1⟩ := at_T68 HR0.out x (by omega) (by omega)
 cases e_
 have hel : rd_T68 xs x = xs[i] := by rw [hxi, rdA_at xs i hlt]
 replace hx0 := (HB.out.cell (World.block_lt_of_cell? w _ hx0)).trans hx0
 replace hx1 := (HB.out.cell (World.block_lt_of_cell? w _ hx1)).trans hx1
 have hcg : wr.cell? ⟨g, 0, none⟩ = some (.string v0) := (HB.out.cell (World.block_lt_of_cell? w _ HC.out)).trans HC.out
 have p_ := eq_true (show 0 ≤ x by omega)
 have q_ := eq_true (show x < (xs.length : Int) by omega)
 have hat := any_take p xs i hlt
 rw [HA.out, ← hel, Bool.false_or] at hat
 have C2 := C1 (rd_T68 xs x) wr hcg
 cases hps : p (rd_T68 xs x) with
 | true =>
  rw [hps] at C2
  have hall : xs.any p = true := any_hit hlt (by rw [← hel]; exact hps)
  have HALL := Lib.hid hall
  have HX0 : decide (0 ≤ x) = true := decide_eq_true (by omega)
  have HXX := Lib.hid HX0
  have C3 := Aside0.mk C2
  clear hps hall hat hel hxi hcg C2 C1 HX0
  go_wp2_with (first | (go_at_call 57; (with_reducible refine (C3.out).mono ?_); rintro e w4 ⟨rfl, hb⟩; have B4 := Aside0.mk hb; clear hb))
  go_ret
  exact ⟨⟨_, rfl, by rw [HALL.out, HXX.out]⟩, below_step HB.out B4.out⟩
 | false =>
  rw [hps] at C2 hat
  have HAT := Aside0.mk hat
  have C3 := Aside0.mk C2
  have hw1 : wrap64 (x + 1) = ((i + 1 : Nat) : Int) := by unfold wrap64; omega
  have HW1 := Aside0.mk hw1
  clear hps hat hel hxi hcg C2 hw1
  go_wp2_with (first | (go_at_call 57; (with_reducible refine (C3.out).mono ?_); rintro e w4 ⟨rfl, hb⟩; have B4 := Aside0.mk hb; clear hb))
  go_roundg g1
  case measure => omega
  case rel => exact ⟨i + 1, _, by omega, by omega, by first | rfl | (simp; done), HW1, HAT, ⟨below_step HB.out B4.out⟩⟩
theorem api_Attr_56.callsA (A0 : Option Addr) (c0 : Nat) (xs : List S68) (v0 : ByteArray) (g : Nat) (w : World) (hr0 : Kd.C k68 w A0 xs.length xs) (hlen : xs.length ≤ 1000000) (hc : w.cell? ⟨g, 0, none⟩ = some (.string v0)) :
 Calls Try.prog 56 #[.slice A0 xs.length c0, .func (.func 57) #[] #[.pointer (some ⟨g, 0, none⟩)]] w fun e w' => e = .returned (.bool (xs.any (attEq v0))) ∧ Below w.heap.size w w' := by
 have C1 := Aside0.mk (api_Attr_56.calls2 A0 c0 xs v0 g w hr0 hlen hc)
 obtain ⟨b, hb⟩ : ∃ b, b = xs.any (attEq v0) := ⟨_, rfl⟩
 rw [← hb] at C1 ⊢
 clear hr0 hc hb
 go_enter Try.func56, Try.ntmps56
 go_wp2_with (first | (go_at_call 66; (with_reducible refine C1.out.mono ?_); rintro e w4 ⟨⟨r, rfl, hr⟩, hb⟩; have HB := Aside0.mk hb; have HR := Lib.hid hr; clear hb hr))
 go_ret
 refine ⟨?_, HB.out⟩
 rw [← HR.out]
 first | rfl | (simp; done)
theorem value_len {l v r : List UInt8} (h : Tk.value l = some (v, r)) : r.length ≤ l.length := by
 unfold Tk.value at h
 dsimp only at h
 obtain ⟨r1, h1, h⟩ := Option.bind_eq_some_iff.1 h
 obtain ⟨⟨a, b⟩, h2, h⟩ := Option.bind_eq_some_iff.1 h
 dsimp only at h
 split at h
 ·cases h
 ·obtain ⟨c, _, h⟩ := Option.map_eq_some_iff.1 h
  obtain ⟨_, rfl⟩ := Prod.mk.inj h
  exact Nat.le_trans (upto_len h2).2 (behind_len h1)
theorem behind_sum {x l r : List UInt8} (h : Tk.behind x l = some r) : r.length + x.length = l.length := by
 unfold Tk.behind at h
 split at h
 ·rename_i hp
  injection h with h
  have := (List.isPrefixOf_iff_prefix.1 hp).length_le
  rw [← h, List.length_drop]; omega
 ·cases h
theorem attr_len {l r : List UInt8} {x : S68} (h : Tk.attr l = some (x, r)) : r.length < l.length := by
 unfold Tk.attr at h
 split at h
 ·cases h
 ·obtain ⟨r1, h1, h⟩ := Option.bind_eq_some_iff.1 h
  obtain ⟨⟨v, r2⟩, h2, h⟩ := Option.map_eq_some_iff.1 h
  obtain ⟨_, rfl⟩ := Prod.mk.inj h
  have e1 := behind_sum h1
  have e2 := value_len h2
  dsimp only at e2 ⊢
  have e3 := skip_len r1
  have e4 := skip_len (l.drop (Tk.head l).length)
  rw [List.length_drop] at e4
  simp only [List.length_cons, List.length_nil] at e1
  omega
theorem WalkAt.grown {w w1 : World} {B g : Nat} {ok : Nat → Prop} {s : ByteArray} {L : List S40} {row : Option Nat} (h : WalkAt w B g ok s L) (hg : w.grownBy w1 row) (h1 : some g ≠ row) (h2 : ∀ k, ok k → some k ≠ row) : WalkAt w1 B g ok s L := by
 obtain ⟨v, h3, h4, h5⟩ := h
 exact ⟨v, blk_grown h3 hg h1, Kd.S_grown h4 hg (fun k hk => h2 k hk.1), h5⟩
theorem attInfo : (Try.prog.info? 68).map (fun i => (i.zero, i.size, i.bytes)) = some (some (.agg #[.string ⟨#[]⟩, .string ⟨#[]⟩]), 2, 32) := by kernel_rfl
theorem token_walk_begin.walk (B g : Nat) {ok : Nat → Prop} (l : List UInt8) (res : Option (S40 × List UInt8)) (L : List S40) (w : World) (h : WalkAt w B g ok (Tk.bs l) L) (hG : Glob w) (hl : l.length ≤ 100000) (hL : L.length ≤ 100000) (hok : ∀ k, w.heap.size ≤ k → ok k) (hh : Tk.head l ≠ []) (hx : Tk.attrs (l.length + 1) (Tk.head l) [] (l.drop (Tk.head l).length) = res) :
 Calls Try.prog 39 #[.pointer (some ⟨g, 0, none⟩)] w fun e w' => (∀ t r, res = some (t, r) → e = .returned (.bool true) ∧ WalkAt w' B g ok (Tk.bs r) (L ++ [t])) ∧ (res = none → e = .returned (.bool false)) ∧ Below B w w' := by
 obtain ⟨e1, e2, e3, e4⟩ := bs_some hh
 have hpos := h.pos
 have hsz := h.size
 have hglt := h.lt
 have hdl : (l.drop (Tk.head l).length).length ≤ l.length := by rw [List.length_drop]; omega
 have hu1 := Try.underlying68
 have hu2 := Try.underlying40
 have HG := Aside0.mk hG
 have HX := Aside0.mk hx
 have H0 := Aside0.mk (h.more (ok' := fun k => ok k ∧ k < w.heap.size) (fun k hk ho => ⟨ho, hk⟩))
 clear h hG hh hx
 go_enter Try.func39, Try.ntmps39
 go_wp2
 refine wp_scope_loop 0 (by rfl) ?_
 go_wp2_with (go_at_call 53; refine (token_walk_name.callsK B g l L _ H0.out HG.out (by omega)).mono ?_)
 rintro e wa ⟨rfl, h1, b1, k1⟩
 have HG1 := Aside0.mk (HG.out.below b1 hpos)
 have H1 := Aside0.mk h1
 have B1 := Aside0.mk b1
 have K1 := Aside0.mk k1
 have hsa : w.heap.size ≤ wa.heap.size := b1.size
 clear h1 b1 k1
 go_wp2
 have hb0 : Below wa.heap.size wa (wa.alloc (.cells #[.int .i64 1, .string (Tk.bs (Tk.head l)), .string ⟨#[]⟩, .slice none 0 0, .bool false] 40)) := below_alloc (Below.refl _ _) _
 have X0 : (wa.alloc (.cells #[.int .i64 1, .string (Tk.bs (Tk.head l)), .string ⟨#[]⟩, .slice none 0 0, .bool false] 40)).heap[wa.heap.size]? = some (.cells #[.int .i64 1, .string (Tk.bs (Tk.head l)), .string ⟨#[]⟩, .slice none 0 0, .bool false] 40 (0, 0)) := heap_alloc_new wa _
 obtain ⟨gt, hgt⟩ : ∃ gt, gt = wa.heap.size := ⟨_, rfl⟩
 have hgtw : w.heap.size ≤ gt := by omega
 have hgtg : gt ≠ g := by omega
 have hBgt : B ≤ gt := by omega
 have H2 := Aside0.mk (H1.out.below hb0)
 have B2 := Aside0.mk (B1.out.trans (hb0.mono (by omega)))
 have S2 := Aside0.mk (Nat.le_trans hsa hb0.size)
 rw [← hgt] at X0
 rw [← hgt]
 have X2 := Aside0.mk X0
 clear hb0 X0 H1 B1 K1 HG1 H0
 generalize wa.alloc _ = w0 at *
 clear hgt hsa
 refine wp_label ?_
 rename_i hlb
 refine hlb _ _ ?_
 refine wp_at_label ?_
 refine LoopAt.intro (fun aB_ kq_ a1 w1 => ∃ (u2 u4 u5 u6 u13 u14 u15 u16 u17 u18 u19 u20 u21 u22 u23 u24 u25 u26 u27 u28 u29 u30 u31 u32 u33 u34 u35 u36 u37 u38 u39 u40 u41 u42 u43 u44 u45 u46 u47 u48 u49 : Value), (∃ (m : List UInt8) (xs : List S68) (va : Value), m.length < kq_ ∧ Aside0 (m.length ≤ l.length) ∧ Aside0 (xs.length + m.length ≤ l.length) ∧ Aside0 (Tk.attrs kq_ (Tk.head l) xs m = res) ∧ Aside0 (WalkAt w1 B g (fun k => ok k ∧ k < w.heap.size) (Tk.bs m) L) ∧ Aside0 (w1.heap[gt]? = some (.cells #[.int .i64 1, .string (Tk.bs (Tk.head l)), .string ⟨#[]⟩, va, .bool false] 40 (0, 0))) ∧ Aside0 (Kd.R k68 68 w1 B (fun k => w.heap.size ≤ k) va xs) ∧ Aside0 (Below B w w1) ∧ Aside0 (w.heap.size ≤ w1.heap.size)) ∧ a1 = (((((((((((((((((((((((((((((((((((((((((aB_.put (some 2) u2).put (some 4) u4).put (some 5) u5).put (some 6) u6).put (some 13) u13).put (some 14) u14).put (some 15) u15).put (some 16) u16).put (some 17) u17).put (some 18) u18).put (some 19) u19).put (some 20) u20).put (some 21) u21).put (some 22) u22).put (some 23) u23).put (some 24) u24).put (some 25) u25).put (some 26) u26).put (some 27) u27).put (some 28) u28).put (some 29) u29).put (some 30) u30).put (some 31) u31).put (some 32) u32).put (some 33) u33).put (some 34) u34).put (some 35) u35).put (some 36) u36).put (some 37) u37).put (some 38) u38).put (some 39) u39).put (some 40) u40).put (some 41) u41).put (some 42) u42).put (some 43) u43).put (some 44) u44).put (some 45) u45).put (some 46) u46).put (some 47) u47).put (some 48) u48).put (some 49) u49)) (l.length + 1) ?_ ?_
 ·(repeat apply Exists.intro)
  (try simp only [Act.put, List.setIfInBounds_toArray, List.set_cons_zero, List.set_cons_succ])
  refine ⟨?_, rfl⟩
  exact ⟨l.drop (Tk.head l).length, [], .slice none 0 0, Nat.lt_succ_of_le hdl, ⟨hdl⟩, ⟨by simp⟩, HX, H2, X2, ⟨Kd.R_nil _ _ _ _ _⟩, B2, S2⟩
 ·intro gk a1 wr hinv
  obtain ⟨u2, u4, u5, u6, u13, u14, u15, u16, u17, u18, u19, u20, u21, u22, u23, u24, u25, u26, u27, u28, u29, u30, u31, u32, u33, u34, u35, u36, u37, u38, u39, u40, u41, u42, u43, u44, u45, u46, u47, u48, u49, hrel, ha⟩ := hinv
  subst ha
  (try simp only [Act.put, List.setIfInBounds_toArray, List.set_cons_zero, List.set_cons_succ])
  intro Js0 Ks0 hJs0 hKs0
  clear H2 X2 B2 S2 HX
  obtain ⟨m, xs, va, hmk, HML, HXL, HX, H, X, R, HB, HS⟩ := hrel
  obtain ⟨g1, rfl⟩ : ∃ g1, gk = g1 + 1 := ⟨gk - 1, by omega⟩
  obtain ⟨A0, c0, rfl⟩ := Kd.R_slice R.out
  have hml := HML.out
  have hxl := HXL.out
  have hG1 : Glob wr := HG.out.below HB.out hpos
  have HG1 := Aside0.mk hG1
  have hsl : (Tk.skip m).length ≤ m.length := skip_len m
  obtain ⟨bsp, hbsp⟩ : ∃ b, b = decide ((Tk.skip m).length < m.length) := ⟨_, rfl⟩
  clear hG1
  have CS := token_walk_skip.callsK B g m L wr H.out HG1.out (by omega)
  rw [← hbsp] at CS
  have HBSP := Lib.hid hbsp
  clear hbsp
  have CS1 := Aside0.mk CS
  clear CS
  go_wp2_with (go_at_call 54; refine CS1.out.mono ?_)
  rintro e ws ⟨rfl, h1, b1, k1⟩
  have H3 := Aside0.mk h1
  have HG3 := Aside0.mk (HG1.out.below b1 hpos)
  have B3 := Aside0.mk (HB.out.trans b1)
  have S3 := Aside0.mk (Nat.le_trans HS.out k1.1)
  have X3 := Aside0.mk (k1.blk X.out hgtg (by simp))
  have R3 := Aside0.mk (Kd.R_step R.out (fun k hk hlt => k1.2 k hlt (by omega) (by simp)))
  clear h1 b1 k1 H HG1 HB HS X R CS1
  cases hgt1 : Tk.behind [62] (Tk.skip m) with
  | some r =>
   have hres : res = some (Tk.tk 1 (Tk.head l) [] xs false, r) := by
    rw [← HX.out, Tk.attrs]
    simp only [hgt1]
   have HRES := Lib.hid hres
   have HE := Aside0.mk hgt1
   clear hres hgt1 HX
   go_wp2_with (go_at_call 34; refine (token_walk_eat.yesK B g _ [62] r L _ H3.out HE.out).mono ?_)
   rintro e we ⟨rfl, h1, b1, k1⟩
   have H4 := Aside0.mk (h1.more (ok' := fun k => ok k ∧ ¬ w.heap.size ≤ k) (fun k _ hk => ⟨hk.1, Nat.not_le.2 hk.2⟩))
   have B4 := Aside0.mk (B3.out.trans b1)
   have S4 := Aside0.mk (Nat.le_trans S3.out k1.1)
   have X4 := k1.blk X3.out hgtg (by simp)
   have R4 := Aside0.mk (Kd.R_step R3.out (fun k hk hlt => k1.2 k hlt (by omega) (by simp)))
   clear h1 b1 k1 H3 HG3 B3 S3 X3 R3
   have x0 := (blk_cell X4 0).trans rfl
   have x1 := (blk_cell X4 1).trans rfl
   have x2 := (blk_cell X4 2).trans rfl
   have x3 := (blk_cell X4 3).trans rfl
   have x4 := (blk_cell X4 4).trans rfl
   clear X4
   go_wp2_with (go_at_call 52; refine (token_walk_put.calls B g (fun k => w.heap.size ≤ k) (Tk.bs r) L (Tk.tk 1 (Tk.head l) [] xs false) (.slice A0 xs.length c0) _ H4.out R4.out hok (fun k hk => hok k (Nat.le_trans S4.out hk)) hL).mono ?_)
   rintro e wf ⟨rfl, h1, b1⟩
   have H5 := Aside0.mk h1
   have B5 := Aside0.mk (B4.out.trans b1)
   clear h1 b1
   go_wp2
   (try simp only [Exit.inBlock, Exit.then, jump_ret])
   go_ret
   refine ⟨fun t r' h => ?_, fun h => ?_, B5.out⟩
   ·rw [HRES.out] at h
    obtain ⟨rfl, rfl⟩ := Prod.mk.inj (Option.some.inj h)
    exact ⟨rfl, H5.out⟩
   ·rw [HRES.out] at h; cases h
  | none =>
   have HE := Aside0.mk hgt1
   go_wp2_with (go_at_call 34; refine (token_walk_eat.noK B g _ [62] L _ H3.out HE.out).mono ?_)
   rintro e we ⟨rfl, h1, b1, k1⟩
   have H4 := Aside0.mk h1
   have HG4 := Aside0.mk (HG3.out.below b1 hpos)
   have B4 := Aside0.mk (B3.out.trans b1)
   have S4 := Aside0.mk (Nat.le_trans S3.out k1.1)
   have X4 := Aside0.mk (k1.blk X3.out hgtg (by simp))
   have R4 := Aside0.mk (Kd.R_step R3.out (fun k hk hlt => k1.2 k hlt (by omega) (by simp)))
   clear h1 b1 k1 H3 HG3 B3 S3 X3 R3 HE
   cases hgt2 : Tk.behind [47, 62] (Tk.skip m) with
   | some r =>
    have hres : res = some (Tk.tk 1 (Tk.head l) [] xs true, r) := by
     rw [← HX.out, Tk.attrs]
     simp only [hgt1, hgt2]
    have HRES := Lib.hid hres
    have HE := Aside0.mk hgt2
    clear hres hgt1 hgt2 HX
    go_wp2_with (go_at_call 34; refine (token_walk_eat.yesK B g _ [47, 62] r L _ H4.out HE.out).mono ?_)
    rintro e wh ⟨rfl, h1, b1, k1⟩
    have H5 := Aside0.mk h1
    have B5 := Aside0.mk (B4.out.trans b1)
    have S5 := Aside0.mk (Nat.le_trans S4.out k1.1)
    have X5 := Aside0.mk (k1.blk X4.out hgtg (by simp))
    have R5 := Aside0.mk (Kd.R_step R4.out (fun k hk hlt => k1.2 k hlt (by omega) (by simp)))
    clear h1 b1 k1 H4 HG4 B4 S4 X4 R4
    have y4 := (blk_cell X5.out 4).trans rfl
    have z4 := blk_frozen X5.out 4
    have X6' := blk_set X5.out 4 (.bool true)
    have X6 : (wh.setCell ⟨gt, 4, none⟩ (.bool true)).heap[gt]? = some (.cells #[.int .i64 1, .string (Tk.bs (Tk.head l)), .string ⟨#[]⟩, .slice A0 xs.length c0, .bool true] 40 (0, 0)) := by simpa using X6'
    have x0 := (blk_cell X6 0).trans rfl
    have x1 := (blk_cell X6 1).trans rfl
    have x2 := (blk_cell X6 2).trans rfl
    have x3 := (blk_cell X6 3).trans rfl
    have x4 := (blk_cell X6 4).trans rfl
    have H6 := Aside0.mk ((H5.out.far (p := ⟨gt, 4, none⟩) hgtg (fun k hk => by have := hk.2; show k ≠ gt; omega) (.bool true)).more (ok' := fun k => ok k ∧ ¬ w.heap.size ≤ k) (fun k _ hk => ⟨hk.1, Nat.not_le.2 hk.2⟩))
    have R6 := Aside0.mk (Kd.R_set R5.out X5.out (by decide) 4 (.bool true))
    have B6 := Aside0.mk (B5.out.setCell (p := ⟨gt, 4, none⟩) hBgt (.bool true))
    have S6 : w.heap.size ≤ (wh.setCell ⟨gt, 4, none⟩ (.bool true)).heap.size := by simpa using S5.out
    have S7 := Aside0.mk S6
    clear X6 X6' S6
    go_wp2_with (go_at_call 52; refine (token_walk_put.calls B g (fun k => w.heap.size ≤ k) (Tk.bs r) L (Tk.tk 1 (Tk.head l) [] xs true) (.slice A0 xs.length c0) _ H6.out R6.out hok (fun k hk => hok k (Nat.le_trans S7.out hk)) hL).mono ?_)
    rintro e wf ⟨rfl, h1, b1⟩
    have H7 := Aside0.mk h1
    have B7 := Aside0.mk (B6.out.trans b1)
    clear h1 b1
    go_wp2
    (try simp only [Exit.inBlock, Exit.then, jump_ret])
    go_ret
    refine ⟨fun t r' h => ?_, fun h => ?_, B7.out⟩
    ·rw [HRES.out] at h
     obtain ⟨rfl, rfl⟩ := Prod.mk.inj (Option.some.inj h)
     exact ⟨rfl, H7.out⟩
    ·rw [HRES.out] at h; cases h
   | none =>
    have HE := Aside0.mk hgt2
    cases bsp with
    | false =>
     have heq : (Tk.skip m).length = m.length := by
      have := of_decide_eq_false HBSP.out.symm
      omega
     have hres : res = none := by
      rw [← HX.out, Tk.attrs]
      simp only [hgt1, hgt2]
      rw [if_pos heq]
     have HRES := Lib.hid hres
     clear hres hgt1 hgt2 HX HBSP heq
     go_wp2_with (go_at_call 34; refine (token_walk_eat.noK B g _ [47, 62] L _ H4.out HE.out).mono ?_)
     rintro e wh ⟨rfl, h1, b1, k1⟩
     have B5 := Aside0.mk (B4.out.trans b1)
     clear h1 b1 k1
     go_wp2_with (fail)
     (try simp only [Exit.inBlock, Exit.then, jump_ret])
     go_ret
     refine ⟨fun t r' h => ?_, fun h => rfl, B5.out⟩
     rw [HRES.out] at h; cases h
    | true =>
     have hne : ¬ (Tk.skip m).length = m.length := by
      have := of_decide_eq_true HBSP.out.symm
      omega
     have hst : res = (Tk.attr (Tk.skip m)).bind fun p => if xs.any (fun x => x.f0.toList == p.1.f0.toList) then none else Tk.attrs g1 (Tk.head l) (xs ++ [p.1]) p.2 := by
      rw [← HX.out, Tk.attrs]
      simp only [hgt1, hgt2]
      rw [if_neg hne]
     have HST := Lib.hid hst
     clear hst hgt1 hgt2 HX HBSP
     go_wp2_with (go_at_call 34; refine (token_walk_eat.noK B g _ [47, 62] L _ H4.out HE.out).mono ?_)
     rintro e wh ⟨rfl, h1, b1, k1⟩
     have H5 := Aside0.mk h1
     have HG5 := Aside0.mk (HG4.out.below b1 hpos)
     have B5 := Aside0.mk (B4.out.trans b1)
     have S5 := Aside0.mk (Nat.le_trans S4.out k1.1)
     have X5 := Aside0.mk (k1.blk X4.out hgtg (by simp))
     have R5 := Aside0.mk (Kd.R_step R4.out (fun k hk hlt => k1.2 k hlt (by omega) (by simp)))
     clear h1 b1 k1 H4 HG4 B4 S4 X4 R4 HE
     cases hat : Tk.attr (Tk.skip m) with
     | none =>
      have hres : res = none := by rw [HST.out, hat]; rfl
      have HRES := Lib.hid hres
      have HAT := Aside0.mk hat
      clear hres hat HST
      go_wp2_with (go_at_call 55; refine (token_walk_attr.noA B g (Tk.skip m) L _ H5.out HG5.out (by omega) HAT.out).mono ?_)
      rintro e wi ⟨⟨xx, yy, rfl⟩, b1, k1⟩
      have B6 := Aside0.mk (B5.out.trans b1)
      have hsz6 : B ≤ wi.heap.size := Nat.le_trans hsz B6.out.size |> fun h => h
      clear b1 k1
      go_wp2
      (try simp only [Exit.inBlock, Exit.then, jump_ret])
      go_ret
      refine ⟨fun t r' h => ?_, fun h => rfl, ?_⟩
      ·rw [HRES.out] at h; cases h
      ·exact B6.out.alloc hsz6 _
     | some p =>
      obtain ⟨x, r⟩ := p
      have hrl := attr_len hat
      have HAT := Aside0.mk hat
      have hst2 := HST.out
      rw [hat, Option.bind_some] at hst2
      have hst3 : res = if xs.any (attEq x.f0) = true then none else Tk.attrs g1 (Tk.head l) (xs ++ [x]) r := hst2
      have HST3 := Lib.hid hst3
      clear hst2 hst3 hat HST
      have hrd : r.length < m.length := by omega
      go_wp2_with (go_at_call 55; refine (token_walk_attr.yesA B g (Tk.skip m) r x L _ H5.out HG5.out (by omega) HAT.out).mono ?_)
      rintro e wi ⟨rfl, h1, b1, k1⟩
      have H6 := Aside0.mk h1
      have B6 := Aside0.mk (B5.out.trans b1)
      have S6 := Aside0.mk (Nat.le_trans S5.out k1.1)
      have X6 := Aside0.mk (k1.blk X5.out hgtg (by simp))
      have R6 := Aside0.mk (Kd.R_step R5.out (fun k hk hlt => k1.2 k hlt (by omega) (by simp)))
      clear h1 b1 k1 H5 HG5 B5 S5 X5 R5 HAT
      have x3' := fun o => (blk_cell (blk_alloc X6.out o) 3).trans rfl
      go_wp2_with (fail)
      have hb0 : Below wi.heap.size wi (wi.alloc (.cells #[.string x.f0, .string x.f1] 68)) := below_alloc (Below.refl _ _) _
      have Y0 : (wi.alloc (.cells #[.string x.f0, .string x.f1] 68)).heap[wi.heap.size]? = some (.cells #[.string x.f0, .string x.f1] 68 (0, 0)) := heap_alloc_new wi _
      obtain ⟨ga, hga⟩ : ∃ ga, ga = wi.heap.size := ⟨_, rfl⟩
      have H7 := Aside0.mk (H6.out.below hb0)
      have S6' := S6.out
      have B7 := Aside0.mk (B6.out.trans (hb0.mono (by omega)))
      have S7 := Aside0.mk (Nat.le_trans S6.out hb0.size)
      have X7 := Aside0.mk (blk_below X6.out hb0)
      have R7 := Aside0.mk (Kd.R_below R6.out hb0)
      have Y7 := Aside0.mk Y0
      rw [← hga] at Y7
      rw [← hga]
      clear hb0 Y0 H6 B6 S6 X6 R6 x3' S6'
      generalize wi.alloc _ = wj at *
      clear hga
      have hC := (Kd.R_reads' R7.out).2.2
      have cA := (blk_cell Y7.out 0).trans rfl
      refine (api_Attr_56.callsA A0 c0 xs x.f0 ga wj hC (by omega) cA).mono ?_
      rintro e wk ⟨rfl, b1⟩
      have H8 := Aside0.mk (H7.out.below b1)
      have S7' := S7.out
      have B8 := Aside0.mk (B7.out.trans (b1.mono (by omega)))
      have S8 := Aside0.mk (Nat.le_trans S7.out b1.size)
      have X8 := Aside0.mk (blk_below X7.out b1)
      have R8 := Aside0.mk (Kd.R_below R7.out b1)
      have Y8 := Aside0.mk (blk_below Y7.out b1)
      clear b1 hC cA H7 B7 S7 X7 R7 Y7 S7'
      cases han : xs.any (attEq x.f0) with
      | true =>
       have hres : res = none := by rw [HST3.out, if_pos han]
       have HRES := Lib.hid hres
       clear hres han HST3
       go_wp2
       (try simp only [Exit.inBlock, Exit.then, jump_ret])
       go_ret
       refine ⟨fun t r' h => ?_, fun h => rfl, B8.out⟩
       rw [HRES.out] at h; cases h
      | false =>
       have hnx : Tk.attrs g1 (Tk.head l) (xs ++ [x]) r = res := by rw [HST3.out, if_neg (by rw [han]; decide)]
       have HNX := Aside0.mk hnx
       clear hnx han HST3
       have y0 := (blk_cell Y8.out 0).trans rfl
       have y1 := (blk_cell Y8.out 1).trans rfl
       have x3 := (blk_cell X8.out 3).trans rfl
       have S8' := S8.out
       go_wp2_with (at_builtin; refine Kd.R_append k68 (w0 := w) B rfl (.tmp 45) (.tmp 47) 27 68 _ 32 rfl Try.underlying27 attInfo rfl (by decide) (by decide) (.slice A0 xs.length c0) xs x [.string x.f0, .string x.f1] (fun k => w.heap.size ≤ k) (fun _ => False) rfl rfl (k68_mkM _ _ _ x) (fun k hk => hk.elim) (fun k hk => Nat.le_trans S8.out hk) R8.out B8.out (by omega) (by omega) ?_; intro v1 w1 r1 b1 g1_ at1; obtain ⟨A1, c1, rfl⟩ := Kd.R_slice r1; have hngt : some gt ≠ (Value.slice A0 xs.length c0).ownBlock := Kd.R_ne R8.out X8.out (by decide); have X9 := Aside0.mk (blk_grown X8.out g1_ hngt); have H9 := Aside0.mk (H8.out.grown g1_ (fun he => by have := R8.out.1 g he.symm; omega) (fun k hk he => by have := R8.out.1 k he.symm; have := hk.2; omega)); have R9 := Aside0.mk r1; have B9 := Aside0.mk b1; have S9 := Aside0.mk (Nat.le_trans S8.out g1_.size); clear r1 b1 g1_ at1 hngt X8 H8 R8 B8 S8 S8' Y8 y0 y1 x3; have x3 := (blk_cell X9.out 3).trans rfl; have z3 := blk_frozen X9.out 3)
       refine wp_goto (And.intro rfl ?_)
       refine hKs0 _ _ ?_
       go_roundg g1
       case measure => omega
       case rel =>
        have el : (xs ++ [x]).length = xs.length + 1 := by simp
        have XA := blk_set X9.out 3 (.slice A1 (xs ++ [x]).length c1)
        have RA := Kd.R_set R9.out X9.out (by decide) 3 (.slice A1 (xs ++ [x]).length c1)
        have HA := H9.out.far (p := ⟨gt, 3, none⟩) hgtg (fun k hk => by have := hk.2; show k ≠ gt; omega) (.slice A1 (xs ++ [x]).length c1)
        have BA := B9.out.setCell (p := ⟨gt, 3, none⟩) hBgt (.slice A1 (xs ++ [x]).length c1)
        have SA : w.heap.size ≤ (w1.setCell ⟨gt, 3, none⟩ (.slice A1 (xs ++ [x]).length c1)).heap.size := by simpa using S9.out
        rw [el] at XA RA HA BA SA
        exact ⟨r, xs ++ [x], .slice A1 (xs.length + 1) c1, by omega, ⟨by omega⟩, ⟨by rw [el]; omega⟩, HNX, ⟨HA⟩, ⟨by simpa using XA⟩, ⟨RA⟩, ⟨BA⟩, ⟨SA⟩⟩
theorem token_walk_begin.noh (B g : Nat) {ok : Nat → Prop} (l : List UInt8) (L : List S40) (w : World) (h : WalkAt w B g ok (Tk.bs l) L) (hG : Glob w) (hl : l.length ≤ 100000) (hh : Tk.head l = []) :
 Calls Try.prog 39 #[.pointer (some ⟨g, 0, none⟩)] w fun e w' => e = .returned (.bool false) ∧ Below B w w' := by
 have e1 := bs_none hh
 have hpos := h.pos
 have hsz := h.size
 have HG := Aside0.mk hG
 have H0 := Aside0.mk h
 have hu2 := Try.underlying40
 clear h hG hh
 go_enter Try.func39, Try.ntmps39
 go_wp2
 refine wp_scope_loop 0 (by rfl) ?_
 go_wp2_with (go_at_call 53; refine (token_walk_name.callsK B g l L _ H0.out HG.out (by omega)).mono ?_)
 rintro e wa ⟨rfl, h1, b1, k1⟩
 have B1 := Aside0.mk b1
 have S1 : B ≤ wa.heap.size := Nat.le_trans hsz b1.size |> fun h => h
 clear h1 b1 k1
 go_wp2_with (fail)
 (try simp only [Exit.inBlock, Exit.then, jump_ret])
 go_ret
 exact ⟨rfl, B1.out.alloc S1 _⟩
theorem token_walk_begin.all (B g : Nat) {ok : Nat → Prop} (l : List UInt8) (res : Option (S40 × List UInt8)) (L : List S40) (w : World) (h : WalkAt w B g ok (Tk.bs l) L) (hG : Glob w) (hl : l.length ≤ 100000) (hL : L.length ≤ 100000) (hok : ∀ k, w.heap.size ≤ k → ok k) (hx : Tk.opening l = res) :
 Calls Try.prog 39 #[.pointer (some ⟨g, 0, none⟩)] w fun e w' => (∀ t r, res = some (t, r) → e = .returned (.bool true) ∧ WalkAt w' B g ok (Tk.bs r) (L ++ [t])) ∧ (res = none → e = .returned (.bool false)) ∧ Below B w w' := by
 unfold Tk.opening at hx
 by_cases hh : Tk.head l = []
 ·rw [if_pos hh] at hx
  subst hx
  refine (token_walk_begin.noh B g l L w h hG hl hh).mono ?_
  rintro e w' ⟨rfl, b⟩
  exact ⟨(fun t r h => by cases h), fun _ => rfl, b⟩
 ·rw [if_neg hh] at hx
  exact token_walk_begin.walk B g l res L w h hG hl hL hok hh hx
end Go.Proofs.Ytkoogebfdinbnaa.Q
