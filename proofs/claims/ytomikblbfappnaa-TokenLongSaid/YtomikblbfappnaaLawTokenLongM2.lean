/- Texts put together: what functions of the program compute, and plain words about them. -/
import Derived.Test.YtomikblbfappnaaLawTokenLongM1
import Derived.Test.YtomikblbfappnaaProg
import Derived.Lib.SlBytesConst
import Derived.Laws.BytesArg
import Derived.Below
import Derived.Deep.Draws
import Derived.Deep.AppendLies
import Derived.Maps.AppendAt
import Derived.OwnWalk
import Derived.Laws.MakeOwn
import Derived.Laws.OwnMore
import Derived.Deep.OwnRows
import Derived.Tactics
import Derived.Lib.ConvBytes
import Derived.Laws.Slices
import Derived.WalkKit
import Derived.KernelRfl
import Derived.RowKit3
import Derived.Deep.LoopGhost
import Derived.Deep.QuietTactic
import Derived.BigQuiet
import Derived.WideLaws
import Derived.Deep.DeepCutAuto
import Derived.Deep.CutBlock
import Derived.Deep.RegionHeld3
import Derived.Laws.Rows
import Derived.Lib.AppendStr
import Derived.ArgAppend
import Derived.Laws.IdiomCopy
import Derived.OrdersHeld
import Derived.Laws.BitsLemmas
import Derived.RowKit
import Derived.Deep.RegionLaw
import Derived.Lib.Hide
import Derived.Outline
import Derived.Lib.IndexMore
import Derived.Lib.Strings
import Derived.Shelf.Strings.Builder1
import Derived.Shelf.Small.Strs
import Derived.Shelf.Small.Wraps
import Derived.Shelf.Strings.BuilderF
import Derived.Shelf.Strings.BuilderK
import Derived.Shelf.Strings.Search1
import Derived.Shelf.Strings.Search2
import Derived.Shelf.Strings.Search3
import Derived.Shelf.Strings.Cut
import Derived.Shelf.LaysM
import Derived.Shelf.Strings.Shaped
import Derived.Shelf.Strings.Prefix
import Derived.Shelf.Strings.BuilderCap
import Derived.Laws.Runes
import Derived.Lib.Builder
import Derived.Lib.UnsafeStr
import Derived.Lib.Walk
import Derived.Laws.Externs
import Derived.Laws.Cover4
namespace Go.Proofs.Ytomikblbfappnaa.Q
open Go.RowKit Go.Proofs.YtomikblbfappnaaW.PrintWords Go.Proofs.YtomikblbfappnaaW.PrintLast Go.Proofs.YtomikblbfappnaaW.Own Go.Proofs.YtomikblbfappnaaW.PrintMore
set_option linter.unusedVariables false
set_option linter.unusedSimpArgs false
theorem mark_cell_ {w : World} {g n j : Nat} {e : TypeId} {ys : List Int} (h : w.heap[g]? = some (.cells (ys.map (Value.int .u8)).toArray e (n, n + 1))) (hj : j < n) (hn : ys.length = n) :
    w.cell? ⟨g, j, none⟩ = some (.int .u8 (ys.getD j 0)) ∧ w.frozen? ⟨g, j, none⟩ = false := by
  refine ⟨?_, ?_⟩
  · rw [cell_of_row w g j _ e (n, n + 1) h]
    simp [List.getD, hn, hj]
  · unfold World.frozen?
    rw [h]
    show (decide (n ≤ j) && decide (j < n + 1)) = false
    rw [decide_eq_false (by omega), Bool.false_and]
theorem mark_text_ {P : Program} {w : World} {g n j c : Nat} {e src dst : TypeId} {ys : List Int} {x : Int} (h : w.heap[g]? = some (.cells (ys.map (Value.int .u8)).toArray e (n, n + 1))) (hj : j < n) (hn : ys.length = n)
    (hs : P.underlying src = some (.slice e)) (he : P.underlying e = some (.int .u8)) (hd : P.underlying dst = some .string) :
    (convert src dst (.slice (some ⟨g, 0, none⟩) n c)).run P (w.setCell ⟨g, j, none⟩ (.int .u8 x)) = .ok (.string (strOfNums (ys.set j x))) (w.setCell ⟨g, j, none⟩ (.int .u8 x)) := by
  refine run_convert_bytes_arg _ src e hs he g 0 n c (ys.set j x) (by rw [List.length_set]; exact hn) (fun i hi => ?_) dst hd
  rw [Nat.zero_add]
  have hi2 := (mark_cell_ h hi hn).1
  by_cases hij : i = j
  · subst hij
    rw [World.cell?_setCell_same (h := hi2)]
    simp [List.getD, hn, hi]
  · rw [World.cell?_setCell_other (h := show (⟨g, j, none⟩ : Addr) ≠ ⟨g, i, none⟩ from by intro e; injection e with _ e _; exact hij e.symm), hi2]
    simp [List.getD, List.getElem?_set, Ne.symm hij]
end Go.Proofs.Ytomikblbfappnaa.Q
namespace Go.Proofs.Ytomikblbfappnaa.Q
open Go.RowKit Go.Proofs.YtomikblbfappnaaW.PrintWords Go.Proofs.YtomikblbfappnaaW.PrintLast Go.Proofs.YtomikblbfappnaaW.Own Go.Proofs.YtomikblbfappnaaW.PrintMore
attribute [local go_sem] max2_int min2_int max_two min_two max_three min_three max_four min_four   -- for this text's walks alone
set_option linter.unusedVariables false
set_option linter.unusedSimpArgs false
set_option maxHeartbeats 20000000
set_option maxRecDepth 100000
def chars_Space.f (a0 : Int) : Option (Bool) := if a0 = 9 then (some true) else (if a0 = 10 then (some true) else (if a0 = 13 then (some true) else (some (a0 == 32))))
theorem chars_Space.calls (a0 : Int) (r : Bool) (w : World) (hG : Glob w) (h : chars_Space.f a0 = some r) :
 Calls Try.prog 38 #[.int .u8 a0] w fun e w' => e = .returned (.bool r) ∧ Drawn0 w w' := by
 have HG := Aside0.mk hG
 clear hG
 have H : (if a0 = 9 then (some true) else (if a0 = 10 then (some true) else (if a0 = 13 then (some true) else (some (a0 == 32))))) = some r := h
 clear h
 by_cases c2 : a0 = 9
 ·rw [if_pos c2] at H
  obtain ⟨c2b0, c2b1⟩ := eqT c2
  clear c2
  obtain rfl := Option.some.inj H
  go_enter Try.func38, Try.ntmps38
  go_wp2
  go_ret
  exact ⟨by first | rfl | (simp; done) | (simp [*]; done), by repeat (first | exact Drawn0.refl _ | apply Drawn0.step)⟩
 rw [if_neg c2] at H
 obtain ⟨c2b0, c2b1⟩ := eqF c2
 by_cases c3 : a0 = 10
 ·rw [if_pos c3] at H
  obtain ⟨c3b0, c3b1⟩ := eqT c3
  clear c3
  obtain rfl := Option.some.inj H
  go_enter Try.func38, Try.ntmps38
  go_wp2
  go_ret
  exact ⟨by first | rfl | (simp; done) | (simp [*]; done), by repeat (first | exact Drawn0.refl _ | apply Drawn0.step)⟩
 rw [if_neg c3] at H
 obtain ⟨c3b0, c3b1⟩ := eqF c3
 by_cases c4 : a0 = 13
 rotate_left
 ·rw [if_neg c4] at H
  obtain ⟨c4b0, c4b1⟩ := eqF c4
  obtain rfl := Option.some.inj H
  go_enter Try.func38, Try.ntmps38
  go_wp2
  go_ret
  exact ⟨by first | rfl | (simp; done) | (simp [*]; done), by repeat (first | exact Drawn0.refl _ | apply Drawn0.step)⟩
 rw [if_pos c4] at H
 obtain ⟨c4b0, c4b1⟩ := eqT c4
 clear c4
 obtain rfl := Option.some.inj H
 go_enter Try.func38, Try.ntmps38
 go_wp2
 go_ret
 exact ⟨by first | rfl | (simp; done) | (simp [*]; done), by repeat (first | exact Drawn0.refl _ | apply Drawn0.step)⟩
def chars_Allowed.f (a0 : Int) : Option (Bool) := if a0 > 32 then (some true) else ((chars_Space.f a0).bind fun t111 => (some t111))
theorem chars_Allowed.calls (a0 : Int) (r : Bool) (w : World) (hG : Glob w) (h : chars_Allowed.f a0 = some r) :
 Calls Try.prog 24 #[.int .u8 a0] w fun e w' => e = .returned (.bool r) ∧ Drawn0 w w' := by
 have HG := Aside0.mk hG
 clear hG
 have H : (if a0 > 32 then (some true) else ((chars_Space.f a0).bind fun t111 => (some t111))) = some r := h
 clear h
 by_cases c2 : a0 > 32
 ·rw [if_pos c2] at H
  have c2b0 := dT c2
  clear c2
  obtain rfl := Option.some.inj H
  go_enter Try.func24, Try.ntmps24
  go_wp2
  go_ret
  exact ⟨by first | rfl | (simp; done) | (simp [*]; done), by repeat (first | exact Drawn0.refl _ | apply Drawn0.step)⟩
 rw [if_neg c2] at H
 have c2b0 := dF c2
 clear c2
 replace H := bi H
 obtain ⟨t111, A30, H⟩ := H
 try dsimp only at H
 have A3 := Aside0.mk A30
 clear A30
 obtain rfl := Option.some.inj H
 go_enter Try.func24, Try.ntmps24
 go_wp2_with (first | (go_at_call 38; (with_reducible refine (chars_Space.calls a0 t111 _ ?side1 A3.out).mono ?_); (case side1 => exact Glob.drawn HG.out (by repeat (first | exact Drawn0.refl _ | apply Drawn0.step))); rintro e w' ⟨rfl, ⟨nd, rfl⟩⟩))
 go_ret
 exact ⟨by first | rfl | (simp; done) | (simp [*]; done), by repeat (first | exact Drawn0.refl _ | apply Drawn0.step)⟩
def WalkAt (w : World) (B g : Nat) (ok : Nat → Prop) (s : ByteArray) (L : List S32) : Prop :=
 ∃ v, w.heap[g]? = some (.cells #[.string s, v] 54 (0, 0)) ∧ Kd.S k32 32 w B (fun k => ok k ∧ k ≠ g) v L ∧ B ≤ g ∧ 0 < B
theorem WalkAt.below {w w1 : World} {B g : Nat} {ok : Nat → Prop} {s : ByteArray} {L : List S32} (h : WalkAt w B g ok s L) (hb : Below w.heap.size w w1) : WalkAt w1 B g ok s L := by
 obtain ⟨v, h1, h2, h3⟩ := h
 exact ⟨v, blk_below h1 hb, Kd.S_below h2 hb, h3⟩
theorem WalkAt.left {w : World} {B g : Nat} {ok : Nat → Prop} {s : ByteArray} {L : List S32} (h : WalkAt w B g ok s L) (x : ByteArray) : WalkAt (w.setCell ⟨g, 0, none⟩ (.string x)) B g ok x L := by
 obtain ⟨v, h1, h2, h3⟩ := h
 exact ⟨v, by simpa using blk_set h1 0 (.string x), Kd.S_set h2 h1 (by decide) 0 _, h3⟩
theorem WalkAt.more {w : World} {B g : Nat} {ok ok' : Nat → Prop} {s : ByteArray} {L : List S32} (h : WalkAt w B g ok s L) (hk : ∀ k, k < w.heap.size → ok k → ok' k) : WalkAt w B g ok' s L := by
 obtain ⟨v, h1, h2, h3⟩ := h
 exact ⟨v, h1, Kd.S_mono (Kd.S_bound h2) (fun k hk' => ⟨hk k hk'.2.2.1 hk'.1.1, hk'.1.2⟩), h3⟩
theorem WalkAt.far {w : World} {B g : Nat} {ok : Nat → Prop} {s : ByteArray} {L : List S32} (h : WalkAt w B g ok s L) {p : Addr} (hp : p.block ≠ g) (hk : ∀ k, ok k → k ≠ p.block) (u : Value) : WalkAt (w.setCell p u) B g ok s L := by
 obtain ⟨v, h1, h2, h3⟩ := h
 exact ⟨v, blk_far h1 (fun e => hp e.symm) u, Kd.S_far h2 (fun k hk' => hk k hk'.1) u, h3⟩
theorem WalkAt.cell0 {w : World} {B g : Nat} {ok : Nat → Prop} {s : ByteArray} {L : List S32} (h : WalkAt w B g ok s L) : w.cell? ⟨g, 0, none⟩ = some (.string s) := by
 obtain ⟨v, h1, h2, h3⟩ := h
 exact (blk_cell h1 0).trans rfl
theorem WalkAt.frozen {w : World} {B g : Nat} {ok : Nat → Prop} {s : ByteArray} {L : List S32} (h : WalkAt w B g ok s L) (i : Nat) : w.frozen? ⟨g, i, none⟩ = false := by
 obtain ⟨v, h1, h2, h3⟩ := h
 exact blk_frozen h1 i
theorem WalkAt.ge {w : World} {B g : Nat} {ok : Nat → Prop} {s : ByteArray} {L : List S32} (h : WalkAt w B g ok s L) : B ≤ g := h.choose_spec.2.2.1
theorem WalkAt.pos {w : World} {B g : Nat} {ok : Nat → Prop} {s : ByteArray} {L : List S32} (h : WalkAt w B g ok s L) : 0 < B := h.choose_spec.2.2.2
theorem WalkAt.lt {w : World} {B g : Nat} {ok : Nat → Prop} {s : ByteArray} {L : List S32} (h : WalkAt w B g ok s L) : g < w.heap.size := blk_lt h.choose_spec.1
theorem WalkAt.size {w : World} {B g : Nat} {ok : Nat → Prop} {s : ByteArray} {L : List S32} (h : WalkAt w B g ok s L) : B ≤ w.heap.size := Nat.le_of_lt (Nat.lt_of_le_of_lt h.ge h.lt)
theorem WalkAt.apart {w : World} {B g : Nat} {ok okp : Nat → Prop} {v va : Value} {s : ByteArray} {L : List S32} {xs : List S39} (h1 : w.heap[g]? = some (.cells #[.string s, v] 54 (0, 0))) (h2 : Kd.S k32 32 w B ok v L) (ha : Kd.R k39 39 w B okp va xs) :
 Kd.R k39 39 w B (fun k => (okp k ∧ k ≠ g) ∧ some k ≠ v.ownBlock) va xs := by
 refine Kd.R_mono (Kd.R_bound ha) (fun k hk => ?_)
 obtain ⟨hok, _, _, q, hq, cells, hc⟩ := hk
 have hq' : q = 39 := by simpa [k39, Kd.iso, Kd.pair, Kd.string, Kd.scalar] using hq
 subst hq'
 refine ⟨⟨hok, ?_⟩, ?_⟩
 ·rintro rfl
  rw [h1] at hc
  injection hc with hc
  injection hc with _ hc
  exact absurd hc (by decide)
 ·intro he
  obtain ⟨cells', hc'⟩ := Kd.S_typed h2 k he.symm
  rw [hc'] at hc
  injection hc with hc
  injection hc with _ hc
  exact absurd hc (by decide)
theorem tokInfo : (Try.prog.info? 32).map (fun i => (i.zero, i.size, i.bytes)) = some (some (.agg #[.int .i64 0, .string ⟨#[]⟩, .string ⟨#[]⟩, .slice none 0 0, .bool false]), 5, 72) := by kernel_rfl
theorem token_walk_put.calls (B g : Nat) {ok : Nat → Prop} (okp : Nat → Prop) (s : ByteArray) (L : List S32) (t : S32) (va : Value) (w : World) (h : WalkAt w B g (fun k => ok k ∧ ¬ okp k) s L) (ha : Kd.R k39 39 w B okp va t.f3) (hop : ∀ k, okp k → ok k) (hok : ∀ k, w.heap.size ≤ k → ok k) (hl : L.length ≤ 100000) :
 Calls Try.prog 60 #[.pointer (some ⟨g, 0, none⟩), .agg #[.int .i64 t.f0, .string t.f1, .string t.f2, va, .bool t.f4]] w fun e w' => e = .returned (.bool true) ∧ WalkAt w' B g ok s (L ++ [t]) ∧ Below B w w' := by
 have hgB := h.ge
 have hpos := h.pos
 have hsz := h.size
 obtain ⟨v, h1, h2, h3, _⟩ := h
 have ha' := WalkAt.apart h1 h2 ha
 obtain ⟨A0, c0, rfl⟩ := Kd.R_slice ha
 obtain ⟨A1, c1, rfl⟩ := Kd.S_slice h2
 have H1 := Aside0.mk h1
 have H2 := Aside0.mk h2
 have HA := Aside0.mk ha'
 clear h1 h2 ha ha'
 go_enter Try.func60, Try.ntmps60
 go_wp2
 have hb0 : Below w.heap.size w (w.alloc (.cells #[.int .i64 t.f0, .string t.f1, .string t.f2, .slice A0 t.f3.length c0, .bool t.f4] 32)) := below_alloc (Below.refl _ _) _
 have X : (w.alloc (.cells #[.int .i64 t.f0, .string t.f1, .string t.f2, .slice A0 t.f3.length c0, .bool t.f4] 32)).heap[w.heap.size]? = some (.cells #[.int .i64 t.f0, .string t.f1, .string t.f2, .slice A0 t.f3.length c0, .bool t.f4] 32 (0, 0)) := heap_alloc_new w _
 have HT1 := Aside0.mk (blk_below H1.out hb0)
 have HT2 := Aside0.mk (Kd.S_below H2.out hb0)
 have HTA := Aside0.mk (Kd.R_below HA.out hb0)
 have HB := Aside0.mk (hb0.mono hsz)
 have hwW : w.heap.size ≤ (w.alloc (.cells #[.int .i64 t.f0, .string t.f1, .string t.f2, .slice A0 t.f3.length c0, .bool t.f4] 32)).heap.size := hb0.size
 clear H1 H2 HA hb0
 generalize w.alloc _ = W at *
 have HX := Aside0.mk X
 clear X
 have x0 := (blk_cell HX.out 0).trans rfl
 have x1 := (blk_cell HX.out 1).trans rfl
 have x2 := (blk_cell HX.out 2).trans rfl
 have x3 := (blk_cell HX.out 3).trans rfl
 have x4 := (blk_cell HX.out 4).trans rfl
 have y1 := (blk_cell HT1.out 1).trans rfl
 have z1 := blk_frozen HT1.out 1
 have y1a := fun o => (blk_cell (blk_alloc HT1.out o) 1).trans rfl
 have hW : B ≤ W.heap.size := Nat.le_trans hsz HB.out.size
 have hfr : ∀ k, W.drew.heap.size ≤ k → ok k ∧ k ≠ g := fun k hk => by have := blk_lt HT1.out; have e : W.drew.heap.size = W.heap.size := rfl; exact ⟨hok k (by omega), by omega⟩
 go_region_law (refine Kd.S_append_step k32 (w0 := w) (W := W.drew) B (by rfl) (.tmp 9) (.tmp 11) 23 32 _ 72 rfl Try.underlying23 tokInfo rfl (by decide) (by decide) (.slice A1 L.length c1) L t [.int .i64 t.f0, .string t.f1, .string t.f2, .slice A0 t.f3.length c0, .bool t.f4] (fun k => ok k ∧ k ≠ g) (fun k => (okp k ∧ k ≠ g) ∧ some k ≠ (Value.slice A1 L.length c1).ownBlock) rfl rfl (k32_mkM _ _ _ t (Kd.R_drew HTA.out)) (fun k hk => ⟨⟨hop k hk.1.1, hk.1.2⟩, hk.2⟩) hfr (Kd.S_mono (Kd.S_drew HT2.out) (fun k hk => ⟨⟨hk.1.1, hk.2⟩, fun h => hk.1.2 h.1.1⟩)) (below_drew HB.out) hW (by omega) ?_; intro v1 w1 r1 b1 g1 at1; obtain ⟨A2, c2, rfl⟩ := Kd.S_slice r1; have R1 := Aside0.mk r1; have B1 := Aside0.mk b1; have G1 := Aside0.mk (blk_grown (blk_drew HT1.out) g1 (Kd.S_away HT2.out (fun k hk => hk.2))); clear r1 b1 g1 at1; have z2 := blk_frozen G1.out 1; have y2 := (blk_cell G1.out 1).trans rfl)
 all_goals
  go_wp2
  go_ret
  have G2 := blk_set G1.out 1 (.slice A2 (L ++ [t]).length c2)
  have R2 := Kd.S_set R1.out G1.out (by decide) 1 (.slice A2 (L ++ [t]).length c2)
  have B2 := B1.out.setCell (p := ⟨g, 1, none⟩) hgB (.slice A2 (L ++ [t]).length c2)
  have el : (L ++ [t]).length = L.length + 1 := by simp
  rw [el] at G2 R2 B2
  exact ⟨rfl, ⟨_, by simpa using G2, R2, hgB, hpos⟩, B2⟩
end Go.Proofs.Ytomikblbfappnaa.Q
namespace Go.Proofs.Ytomikblbfappnaa.Q
open Go.RowKit Go.Proofs.YtomikblbfappnaaW.PrintWords Go.Proofs.YtomikblbfappnaaW.PrintLast Go.Proofs.YtomikblbfappnaaW.Own Go.Proofs.YtomikblbfappnaaW.PrintMore
set_option linter.unusedVariables false
set_option linter.unusedSimpArgs false
namespace Tk
open Go
abbrev Tok := S32
abbrev Att := S39
def bs (l : List UInt8) : ByteArray := ⟨l.toArray⟩
def letter (c : UInt8) : Bool := (65 ≤ c.toNat && c.toNat ≤ 90) || (97 ≤ c.toNat && c.toNat ≤ 122) || c.toNat == 95
def digit (c : UInt8) : Bool := 48 ≤ c.toNat && c.toNat ≤ 57
def within (c : UInt8) : Bool := letter c || digit c || c.toNat == 45 || c.toNat == 46 || c.toNat == 58
def space (c : UInt8) : Bool := c.toNat == 9 || c.toNat == 10 || c.toNat == 13 || c.toNat == 32
def allowed (c : UInt8) : Bool := decide (32 < c.toNat) || space c
def head : List UInt8 → List UInt8
  | [] => []
  | c :: r => if letter c then c :: r.takeWhile within else []
def skip (l : List UInt8) : List UInt8 := l.dropWhile space
def behind (x l : List UInt8) : Option (List UInt8) := if x.isPrefixOf l then some (l.drop x.length) else none
def upto (x l : List UInt8) : Option (List UInt8 × List UInt8) := if 0 ≤ Lib.index l x then some (l.take (Lib.index l x).toNat, l.drop ((Lib.index l x).toNat + x.length)) else none
def digitOf (base : Nat) (c : UInt8) : Option Nat :=
  let v := if digit c then some (c.toNat - 48) else if 97 ≤ c.toNat ∧ c.toNat ≤ 102 then some (c.toNat - 87) else if 65 ≤ c.toNat ∧ c.toNat ≤ 70 then some (c.toNat - 55) else none
  v.bind fun n => if n < base then some n else none
def number (base : Nat) : Nat → List UInt8 → Option Nat
  | v, [] => some v
  | v, c :: r => (digitOf base c).bind fun d => number base (v * base + d) r
def may (v : Nat) : Bool := v == 9 || v == 10 || v == 13 || (decide (32 ≤ v) && decide (v ≤ 1114111) && (decide (v < 55296) || decide (57343 < v)))
def numbered (base : Nat) (l : List UInt8) : Option (List UInt8) :=
  if l = [] ∨ 6 < l.length then none else (number base 0 l).bind fun v => if may v then some (Utf8.encode (v : Int)).data.toList else none
def named (l : List UInt8) : Option (List UInt8) :=
  if l = [108, 116] then some [60] else if l = [103, 116] then some [62] else if l = [97, 109, 112] then some [38] else if l = [113, 117, 111, 116] then some [34] else if l = [97, 112, 111, 115] then some [39] else none
def entity : List UInt8 → Option (List UInt8)
  | 35 :: 120 :: r => numbered 16 r
  | 35 :: r => numbered 10 r
  | l => named l
def ents : Nat → List UInt8 → Option (List UInt8)
  | 0, _ => none
  | n + 1, l => match upto [38] l with
    | none => some l
    | some (a, b) => match upto [59] b with
      | none => none
      | some (nm, r) => (entity nm).bind fun c => (ents n r).map fun t => a ++ (c ++ t)
def entities (l : List UInt8) : Option (List UInt8) := ents (l.length + 1) l
def tk (kind : Int) (name text : List UInt8) (attrs : List Att) (empty : Bool) : Tok := ⟨kind, bs name, bs text, attrs, empty⟩
def at_ (n v : List UInt8) : Att := ⟨bs n, bs v⟩
def comment (l : List UInt8) : Option (Tok × List UInt8) :=
  (upto [45, 45, 62] l).bind fun p => if 0 ≤ Lib.index p.1 [45, 45] ∨ Lib.hasSuffix p.1 [45] = true then none else some (tk 4 [] p.1 [] false, p.2)
def data (l : List UInt8) : Option (Tok × List UInt8) := (upto [93, 93, 62] l).map fun p => (tk 3 [] p.1 [] false, p.2)
def prolog (first : Bool) (l : List UInt8) : Option (Tok × List UInt8) := (upto [63, 62] l).bind fun p => if first then some (tk 5 [] p.1 [] false, p.2) else none
def close (l : List UInt8) : Option (Tok × List UInt8) :=
  if head l = [] then none else (behind [62] (skip (l.drop (head l).length))).map fun r => (tk 2 (head l) [] [] false, r)
def value (l : List UInt8) : Option (List UInt8 × List UInt8) :=
  let q := if [34].isPrefixOf l then [34] else [39]
  (behind q l).bind fun r => (upto q r).bind fun p => if 0 ≤ Lib.index p.1 [60] then none else (entities p.1).map fun v => (v, p.2)
def attr (l : List UInt8) : Option (Att × List UInt8) :=
  if head l = [] then none else (behind [61] (skip (l.drop (head l).length))).bind fun r => (value (skip r)).map fun p => (at_ (head l) p.1, p.2)
def attrs : Nat → List UInt8 → List Att → List UInt8 → Option (Tok × List UInt8)
  | 0, _, _, _ => none
  | n + 1, nm, ys, l =>
    let l1 := skip l
    match behind [62] l1 with
    | some r => some (tk 1 nm [] ys false, r)
    | none => match behind [47, 62] l1 with
      | some r => some (tk 1 nm [] ys true, r)
      | none => if l1.length = l.length then none else (attr l1).bind fun p => if ys.any (fun x => x.f0.toList == p.1.f0.toList) then none else attrs n nm (ys ++ [p.1]) p.2
def opening (l : List UInt8) : Option (Tok × List UInt8) := if head l = [] then none else attrs (l.length + 1) (head l) [] (l.drop (head l).length)
def text (l : List UInt8) : Option (Tok × List UInt8) :=
  let t := l.takeWhile (· != 60)
  (entities t).map fun x => (tk 3 [] x [] false, l.drop t.length)
def next (first : Bool) (l : List UInt8) : Option (Tok × List UInt8) :=
  match behind [60, 33, 45, 45] l with
  | some r => comment r
  | none => match behind [60, 33, 91, 67, 68, 65, 84, 65, 91] l with
    | some r => data r
    | none => match behind [60, 63] l with
      | some r => prolog first r
      | none => match behind [60, 47] l with
        | some r => close r
        | none => match behind [60] l with
          | some r => opening r
          | none => text l
def pieces : Nat → Bool → List UInt8 → Option (List Tok)
  | 0, _, _ => none
  | n + 1, first, l => if l = [] then some [] else (next first l).bind fun p => (pieces n false p.2).map fun t => p.1 :: t
def split (l : List UInt8) : List Tok × Int :=
  if 20000 < l.length then ([], 3) else if l.any (fun c => !allowed c) then ([], 4) else match pieces (l.length + 1) true l with
    | some t => (t, 0)
    | none => ([], 5)
theorem bytes_all {α : Type} [DecidableEq α] {f : Int → Option α} {g : UInt8 → α} (h : (List.range 256).all (fun n => decide (f (n : Int) = some (g (UInt8.ofNat n)))) = true) (c : UInt8) : f (c.toNat : Int) = some (g c) := by
  have hc : c.toNat < 256 := c.toNat_lt
  have := of_decide_eq_true (List.all_eq_true.1 h c.toNat (List.mem_range.2 hc))
  rwa [UInt8.ofNat_toNat] at this
end Tk
end Go.Proofs.Ytomikblbfappnaa.Q
namespace Go.Proofs
open Go.Shelf
def Try.lays169_ren : Go.Shelf.Ren := ⟨fun | 169 => 30 | n => n, fun | 70 => 61 | 9 => 9 | 0 => 0 | 72 => 63 | 37 => 35 | 127 => 79 | 3 => 3 | 5 => 5 | n => n, fun | n => n⟩
theorem Try.lays169 : Go.Proofs.Lays.n169 Try.prog Try.lays169_ren := {
  mixed := by kernel_rfl
  f169 := Try.func30.trans (congrArg some (by kernel_rfl))
  t0 := Try.underlying0
  a0 := Try.isAgg0
  z0 := Try.sizeOf0
  v0 := Try.zeroValue0
  t3 := Try.underlying3
  a3 := Try.isAgg3
  z3 := Try.sizeOf3
  v3 := Try.zeroValue3
  t9 := Try.underlying9
  a9 := Try.isAgg9
  z9 := Try.sizeOf9
  v9 := Try.zeroValue9
  t37 := Try.underlying35
  a37 := Try.isAgg35
  z37 := Try.sizeOf35
  v37 := Try.zeroValue35
  t70 := Try.underlying61
  a70 := Try.isAgg61
  z70 := Try.sizeOf61
  v70 := Try.zeroValue61
  t72 := Try.underlying63
  a72 := Try.isAgg63
  z72 := Try.sizeOf63
  v72 := Try.zeroValue63
  t127 := Try.underlying79
  a127 := Try.isAgg79
  z127 := Try.sizeOf79
  v127 := Try.zeroValue79 }
theorem Try.Builder_Extra_169 : Builder.Extra Try.prog Try.lays169_ren := {
  sizeBuilder := by kernel_rfl
  liesBuilder := by kernel_rfl
  t5 := Try.underlying5
  a5 := Try.isAgg5
  z5 := Try.sizeOf5
  v5 := Try.zeroValue5
  infoByte := by kernel_rfl
  cellsByte := by kernel_rfl
  sizeByte := by kernel_rfl
  neB5 := by decide }
open Go.RowKit in
theorem Try.Builder_String_any (B b : Nat) (l : List UInt8) (w : World) (h : Lib.IsBuilder 63 5 B b (Lib.byteCells l) w) (hBw : B ≤ w.heap.size) :
    Calls Try.prog 30 #[.pointer (some ⟨b, 0, none⟩)] w fun e w' => e = .returned (.string ⟨l.toArray⟩) ∧ Below B w w' := Any.Builder_String_any Try.lays169 Try.Builder_Extra_169 B b l w h hBw
def Try.lays137_ren : Go.Shelf.Ren := ⟨fun | 137 => 66 | 217 => 83 | 266 => 94 | n => n, fun | 9 => 9 | 5 => 5 | 3 => 3 | n => n, fun | n => n⟩
theorem Try.lays137 : Go.Proofs.Lays.n137 Try.prog Try.lays137_ren := {
  mixed := by kernel_rfl
  f137 := Try.func66.trans (congrArg some (by kernel_rfl))
  f217 := Try.func83.trans (congrArg some (by kernel_rfl))
  f266 := Try.func94.trans (congrArg some (by kernel_rfl))
  t3 := Try.underlying3
  a3 := Try.isAgg3
  z3 := Try.sizeOf3
  v3 := Try.zeroValue3
  t5 := Try.underlying5
  a5 := Try.isAgg5
  z5 := Try.sizeOf5
  v5 := Try.zeroValue5
  t9 := Try.underlying9
  a9 := Try.isAgg9
  z9 := Try.sizeOf9
  v9 := Try.zeroValue9 }
open Go.RowKit in
theorem Try.strings_IndexByte (s : ByteArray) (c : Int) (w : World) :
    Calls Try.prog 66 #[.string s, .int .u8 c] w fun e w' => e = .returned (.int .i64 (Lib.indexByte s.data.toList c.toNat.toUInt8)) ∧ w' = w := Any.strings_IndexByte Try.lays137 s c w
def Try.lays210_ren : Go.Shelf.Ren := ⟨fun | 210 => 72 | 206 => 90 | n => n, fun | 9 => 9 | 4 => 4 | 3 => 3 | n => n, fun | n => n⟩
def Try.lays103_ren : Go.Shelf.Ren := ⟨fun | 103 => 53 | 210 => 72 | 206 => 90 | n => n, fun | 9 => 9 | 4 => 4 | 24 => 71 | 3 => 3 | n => n, fun | n => n⟩
theorem Try.lays103 : Go.Proofs.Lays.n103 Try.prog Try.lays103_ren := {
  mixed := by kernel_rfl
  f103 := Try.func53.trans (congrArg some (by kernel_rfl))
  f206 := Try.func90.trans (congrArg some (by kernel_rfl))
  f210 := Try.func72.trans (congrArg some (by kernel_rfl))
  t3 := Try.underlying3
  a3 := Try.isAgg3
  z3 := Try.sizeOf3
  v3 := Try.zeroValue3
  t4 := Try.underlying4
  a4 := Try.isAgg4
  z4 := Try.sizeOf4
  v4 := Try.zeroValue4
  t9 := Try.underlying9
  a9 := Try.isAgg9
  z9 := Try.sizeOf9
  v9 := Try.zeroValue9
  t24 := Try.underlying71
  a24 := Try.isAgg71
  z24 := Try.sizeOf71
  v24 := Try.zeroValue71 }
open Go.RowKit in
theorem Try.strings_CutPrefix (s p : ByteArray) (w : World) :
    Calls Try.prog 53 #[.string s, .string p] w fun e w' => e = .returned (.tuple #[.string ⟨(Lib.trimPrefix s.data.toList p.data.toList).toArray⟩, .bool (Lib.hasPrefix s.data.toList p.data.toList)]) ∧ w' = w := Any.strings_CutPrefix Try.lays103 s p w
def Try.lays219_ren : Go.Shelf.Ren := ⟨fun | 219 => 70 | 217 => 83 | 225 => 87 | 224 => 88 | 267 => 89 | 266 => 94 | 314 => 96 | n => n, fun | 9 => 9 | 3 => 3 | 4 => 4 | 5 => 5 | 46 => 40 | 146 => 97 | 51 => 96 | n => n, fun | 1 => 0 | n => n⟩
def Try.lays144_ren : Go.Shelf.Ren := ⟨fun | 144 => 58 | 143 => 78 | 219 => 70 | 217 => 83 | 225 => 87 | 224 => 88 | 267 => 89 | 266 => 94 | 314 => 96 | n => n, fun | 9 => 9 | 4 => 4 | 3 => 3 | 5 => 5 | 46 => 40 | 146 => 97 | 51 => 96 | n => n, fun | 1 => 0 | n => n⟩
theorem Try.lays144 : Go.Proofs.Lays.n144 Try.prog Try.lays144_ren := {
  mixed := by kernel_rfl
  f143 := Try.func78.trans (congrArg some (by kernel_rfl))
  f144 := Try.func58.trans (congrArg some (by kernel_rfl))
  f217 := Try.func83.trans (congrArg some (by kernel_rfl))
  f219 := Try.func70.trans (congrArg some (by kernel_rfl))
  f224 := Try.func88.trans (congrArg some (by kernel_rfl))
  f225 := Try.func87.trans (congrArg some (by kernel_rfl))
  f266 := Try.func94.trans (congrArg some (by kernel_rfl))
  f267 := Try.func89.trans (congrArg some (by kernel_rfl))
  f314 := Try.func96.trans (congrArg some (by kernel_rfl))
  t3 := Try.underlying3
  a3 := Try.isAgg3
  z3 := Try.sizeOf3
  v3 := Try.zeroValue3
  t4 := Try.underlying4
  a4 := Try.isAgg4
  z4 := Try.sizeOf4
  v4 := Try.zeroValue4
  t5 := Try.underlying5
  a5 := Try.isAgg5
  z5 := Try.sizeOf5
  v5 := Try.zeroValue5
  t9 := Try.underlying9
  a9 := Try.isAgg9
  z9 := Try.sizeOf9
  v9 := Try.zeroValue9
  t46 := Try.underlying40
  a46 := Try.isAgg40
  z46 := Try.sizeOf40
  v46 := Try.zeroValue40
  t51 := Try.underlying96
  a51 := Try.isAgg96
  z51 := Try.sizeOf96
  v51 := Try.zeroValue96
  t146 := Try.underlying97
  a146 := Try.isAgg97
  z146 := Try.sizeOf97
  v146 := Try.zeroValue97
  g1 := by kernel_rfl }
open Go.RowKit Go.Lib in
theorem Try.strings_Contains (s sub : ByteArray) (m : Int) (w : World) (hs : s.size < 4294967281) (hm : w.cell? ⟨0, 0, none⟩ = some (.int .i64 m)) :
    Calls Try.prog 58 #[.string s, .string sub] w fun e w' => e = .returned (.bool (Lib.contains s.data.toList sub.data.toList)) ∧ w' = w := Any.strings_Contains Try.lays144 s sub m w hs hm
def Try.lays145_ren : Go.Shelf.Ren := ⟨fun | 145 => 28 | 220 => 51 | 219 => 70 | 217 => 83 | 225 => 87 | 224 => 88 | 267 => 89 | 266 => 94 | 314 => 96 | n => n, fun | 9 => 9 | 4 => 4 | 59 => 64 | 3 => 3 | 5 => 5 | 46 => 40 | 146 => 97 | 51 => 96 | n => n, fun | 1 => 0 | n => n⟩
theorem Try.lays145 : Go.Proofs.Lays.n145 Try.prog Try.lays145_ren := {
  mixed := by kernel_rfl
  f145 := Try.func28.trans (congrArg some (by kernel_rfl))
  f217 := Try.func83.trans (congrArg some (by kernel_rfl))
  f219 := Try.func70.trans (congrArg some (by kernel_rfl))
  f220 := Try.func51.trans (congrArg some (by kernel_rfl))
  f224 := Try.func88.trans (congrArg some (by kernel_rfl))
  f225 := Try.func87.trans (congrArg some (by kernel_rfl))
  f266 := Try.func94.trans (congrArg some (by kernel_rfl))
  f267 := Try.func89.trans (congrArg some (by kernel_rfl))
  f314 := Try.func96.trans (congrArg some (by kernel_rfl))
  t3 := Try.underlying3
  a3 := Try.isAgg3
  z3 := Try.sizeOf3
  v3 := Try.zeroValue3
  t4 := Try.underlying4
  a4 := Try.isAgg4
  z4 := Try.sizeOf4
  v4 := Try.zeroValue4
  t5 := Try.underlying5
  a5 := Try.isAgg5
  z5 := Try.sizeOf5
  v5 := Try.zeroValue5
  t9 := Try.underlying9
  a9 := Try.isAgg9
  z9 := Try.sizeOf9
  v9 := Try.zeroValue9
  t46 := Try.underlying40
  a46 := Try.isAgg40
  z46 := Try.sizeOf40
  v46 := Try.zeroValue40
  t51 := Try.underlying96
  a51 := Try.isAgg96
  z51 := Try.sizeOf96
  v51 := Try.zeroValue96
  t59 := Try.underlying64
  a59 := Try.isAgg64
  z59 := Try.sizeOf64
  v59 := Try.zeroValue64
  t146 := Try.underlying97
  a146 := Try.isAgg97
  z146 := Try.sizeOf97
  v146 := Try.zeroValue97
  g1 := by kernel_rfl }
open Go.RowKit Go.Lib in
theorem Try.strings_Cut (s sep : ByteArray) (m : Int) (w : World) (hs : s.size < 4294967281) (hm : w.cell? ⟨0, 0, none⟩ = some (.int .i64 m)) :
    Calls Try.prog 28 #[.string s, .string sep] w fun e w' => e = .returned (.tuple #[.string ⟨(Lib.cut s.data.toList sep.data.toList).1.toArray⟩, .string ⟨(Lib.cut s.data.toList sep.data.toList).2.1.toArray⟩, .bool (Lib.cut s.data.toList sep.data.toList).2.2]) ∧ ∃ n, w' = w.drewN n := Any.strings_Cut Try.lays145 s sep m w hs hm
def Try.lays99_ren : Go.Shelf.Ren := ⟨fun | 99 => 73 | 206 => 90 | n => n, fun | 9 => 9 | 4 => 4 | 3 => 3 | n => n, fun | n => n⟩
theorem Try.lays99 : Go.Proofs.Lays.n99 Try.prog Try.lays99_ren := {
  mixed := by kernel_rfl
  f99 := Try.func73.trans (congrArg some (by kernel_rfl))
  f206 := Try.func90.trans (congrArg some (by kernel_rfl))
  t3 := Try.underlying3
  a3 := Try.isAgg3
  z3 := Try.sizeOf3
  v3 := Try.zeroValue3
  t4 := Try.underlying4
  a4 := Try.isAgg4
  z4 := Try.sizeOf4
  v4 := Try.zeroValue4
  t9 := Try.underlying9
  a9 := Try.isAgg9
  z9 := Try.sizeOf9
  v9 := Try.zeroValue9 }
open Go.RowKit Go.Lib in
theorem Try.strings_HasPrefix (s p : ByteArray) (w : World) :
    Calls Try.prog 73 #[.string s, .string p] w fun e w' => e = .returned (.bool (Lib.hasPrefix s.data.toList p.data.toList)) ∧ w' = w := Any.strings_HasPrefix Try.lays99 s p w
def Try.lays100_ren : Go.Shelf.Ren := ⟨fun | 100 => 59 | 207 => 79 | n => n, fun | 9 => 9 | 4 => 4 | 3 => 3 | n => n, fun | n => n⟩
theorem Try.lays100 : Go.Proofs.Lays.n100 Try.prog Try.lays100_ren := {
  mixed := by kernel_rfl
  f100 := Try.func59.trans (congrArg some (by kernel_rfl))
  f207 := Try.func79.trans (congrArg some (by kernel_rfl))
  t3 := Try.underlying3
  a3 := Try.isAgg3
  z3 := Try.sizeOf3
  v3 := Try.zeroValue3
  t4 := Try.underlying4
  a4 := Try.isAgg4
  z4 := Try.sizeOf4
  v4 := Try.zeroValue4
  t9 := Try.underlying9
  a9 := Try.isAgg9
  z9 := Try.sizeOf9
  v9 := Try.zeroValue9 }
open Go.RowKit Go.Lib in
theorem Try.strings_HasSuffix (s p : ByteArray) (w : World) (hs : s.size ≤ 9223372036854775807) :
    Calls Try.prog 59 #[.string s, .string p] w fun e w' => e = .returned (.bool (Lib.hasSuffix s.data.toList p.data.toList)) ∧ w' = w := Any.strings_HasSuffix Try.lays100 s p w hs
end Go.Proofs
namespace Go.Proofs.Ytomikblbfappnaa.Q
open Go.RowKit Go.Proofs.YtomikblbfappnaaW.PrintWords Go.Proofs.YtomikblbfappnaaW.PrintLast Go.Proofs.YtomikblbfappnaaW.Own Go.Proofs.YtomikblbfappnaaW.PrintMore
attribute [local go_sem] max2_int min2_int max_two min_two max_three min_three max_four min_four   -- for this text's walks alone
set_option linter.unusedVariables false
set_option linter.unusedSimpArgs false
set_option maxHeartbeats 20000000
set_option maxRecDepth 100000
theorem behind_some {x l r : List UInt8} (h : Tk.behind x l = some r) : Lib.hasPrefix l x = true ∧ Lib.trimPrefix l x = r := by
 unfold Tk.behind at h
 split at h
 ·rename_i hp
  injection h with h
  exact ⟨hp, by unfold Lib.trimPrefix; rw [if_pos (show Lib.hasPrefix l x = true from hp), h]⟩
 ·cases h
theorem behind_none {x l : List UInt8} (h : Tk.behind x l = none) : Lib.hasPrefix l x = false ∧ Lib.trimPrefix l x = l := by
 unfold Tk.behind at h
 split at h
 ·cases h
 ·rename_i hp
  have hp' : Lib.hasPrefix l x = false := Bool.eq_false_iff.2 hp
  exact ⟨hp', by unfold Lib.trimPrefix; rw [if_neg (by rw [hp']; decide)]⟩
theorem token_walk_eat.callsK (B g : Nat) {ok : Nat → Prop} (l x : List UInt8) (L : List S32) (w : World) (h : WalkAt w B g ok (Tk.bs l) L) :
 Calls Try.prog 39 #[.pointer (some ⟨g, 0, none⟩), .string (Tk.bs x)] w fun e w' => e = .returned (.bool (Lib.hasPrefix l x)) ∧ WalkAt w' B g ok (Tk.bs (Lib.trimPrefix l x)) L ∧ Below B w w' ∧ KeepBut w w' g none := by
 have c0 := h.cell0
 have f0 := h.frozen 0
 have H := Aside0.mk h
 clear h
 go_enter Try.func39, Try.ntmps39
 go_wp2_with (first | (go_at_call 53; refine (Try.strings_CutPrefix _ _ _).mono ?_; rintro e w' ⟨rfl, rfl⟩))
 go_ret
 exact ⟨rfl, H.out.left _, (Below.refl _ _).setCell (p := ⟨g, 0, none⟩) H.out.ge _, (KeepBut.refl _ _ _).set_ 0 _⟩
theorem token_walk_eat.yesK (B g : Nat) {ok : Nat → Prop} (l x r : List UInt8) (L : List S32) (w : World) (h : WalkAt w B g ok (Tk.bs l) L) (hx : Tk.behind x l = some r) :
 Calls Try.prog 39 #[.pointer (some ⟨g, 0, none⟩), .string (Tk.bs x)] w fun e w' => e = .returned (.bool true) ∧ WalkAt w' B g ok (Tk.bs r) L ∧ Below B w w' ∧ KeepBut w w' g none := by
 have := token_walk_eat.callsK B g l x L w h
 rwa [(behind_some hx).1, (behind_some hx).2] at this
theorem token_walk_eat.noK (B g : Nat) {ok : Nat → Prop} (l x : List UInt8) (L : List S32) (w : World) (h : WalkAt w B g ok (Tk.bs l) L) (hx : Tk.behind x l = none) :
 Calls Try.prog 39 #[.pointer (some ⟨g, 0, none⟩), .string (Tk.bs x)] w fun e w' => e = .returned (.bool false) ∧ WalkAt w' B g ok (Tk.bs l) L ∧ Below B w w' ∧ KeepBut w w' g none := by
 have := token_walk_eat.callsK B g l x L w h
 rwa [(behind_none hx).1, (behind_none hx).2] at this
theorem token_walk_eat.no (B g : Nat) {ok : Nat → Prop} (l x : List UInt8) (L : List S32) (w : World) (h : WalkAt w B g ok (Tk.bs l) L) (hx : Tk.behind x l = none) :
 Calls Try.prog 39 #[.pointer (some ⟨g, 0, none⟩), .string (Tk.bs x)] w fun e w' => e = .returned (.bool false) ∧ WalkAt w' B g ok (Tk.bs l) L ∧ Below B w w' := (token_walk_eat.noK B g l x L w h hx).mono fun e w' h => ⟨h.1, h.2.1, h.2.2.1⟩
theorem upto_some {x l a r : List UInt8} (h : Tk.upto x l = some (a, r)) : Lib.cut l x = (a, r, true) := by
 unfold Tk.upto at h
 unfold Lib.cut
 split at h
 ·rename_i hp
  injection h with h
  injection h with h1 h2
  rw [if_pos hp, h1, h2]
 ·cases h
theorem upto_none {x l : List UInt8} (h : Tk.upto x l = none) : Lib.cut l x = (l, [], false) := by
 unfold Tk.upto at h
 unfold Lib.cut
 split at h
 ·cases h
 ·rename_i hp
  rw [if_neg hp]
theorem bs_size (l : List UInt8) : (Tk.bs l).size = l.length := by rw [Lib.size_eq]; rfl
theorem token_walk_upTo.callsK (B g : Nat) {ok : Nat → Prop} (l x : List UInt8) (L : List S32) (w : World) (h : WalkAt w B g ok (Tk.bs l) L) (hG : Glob w) (hl : l.length ≤ 1000000) :
 Calls Try.prog 57 #[.pointer (some ⟨g, 0, none⟩), .string (Tk.bs x)] w fun e w' => e = .returned (.tuple #[.string (Tk.bs (Lib.cut l x).1), .bool (Lib.cut l x).2.2]) ∧ WalkAt w' B g ok (Tk.bs (Lib.cut l x).2.1) L ∧ Below B w w' ∧ KeepBut w w' g none := by
 have hs : (Tk.bs l).size < 4294967281 := by rw [bs_size]; omega
 have c0 := h.cell0
 have f0 := h.frozen 0
 obtain ⟨m, hm⟩ := hG
 have H := Aside0.mk h
 clear h
 go_enter Try.func57, Try.ntmps57
 go_wp2_with (first | (go_at_call 28; refine (Try.strings_Cut _ _ m _ hs hm).mono ?_; rintro e w' ⟨rfl, nd, rfl⟩))
 go_ret2
 have h1 : WalkAt (w.drewN nd) B g ok (Tk.bs l) L := H.out.below (pw_below_drewN (Below.refl _ _) nd)
 exact ⟨rfl, h1.left _, (pw_below_drewN (Below.refl _ _) nd).setCell (p := ⟨g, 0, none⟩) H.out.ge _, (keep_drewN (KeepBut.refl _ _ _) nd).set_ 0 _⟩
theorem token_walk_upTo.yesK (B g : Nat) {ok : Nat → Prop} (l x a r : List UInt8) (L : List S32) (w : World) (h : WalkAt w B g ok (Tk.bs l) L) (hG : Glob w) (hl : l.length ≤ 1000000) (hx : Tk.upto x l = some (a, r)) :
 Calls Try.prog 57 #[.pointer (some ⟨g, 0, none⟩), .string (Tk.bs x)] w fun e w' => e = .returned (.tuple #[.string (Tk.bs a), .bool true]) ∧ WalkAt w' B g ok (Tk.bs r) L ∧ Below B w w' ∧ KeepBut w w' g none := by
 have := token_walk_upTo.callsK B g l x L w h hG hl
 rwa [upto_some hx] at this
theorem token_walk_upTo.yes (B g : Nat) {ok : Nat → Prop} (l x a r : List UInt8) (L : List S32) (w : World) (h : WalkAt w B g ok (Tk.bs l) L) (hG : Glob w) (hl : l.length ≤ 1000000) (hx : Tk.upto x l = some (a, r)) :
 Calls Try.prog 57 #[.pointer (some ⟨g, 0, none⟩), .string (Tk.bs x)] w fun e w' => e = .returned (.tuple #[.string (Tk.bs a), .bool true]) ∧ WalkAt w' B g ok (Tk.bs r) L ∧ Below B w w' := (token_walk_upTo.yesK B g l x a r L w h hG hl hx).mono fun e w' h => ⟨h.1, h.2.1, h.2.2.1⟩
theorem token_walk_upTo.noK (B g : Nat) {ok : Nat → Prop} (l x : List UInt8) (L : List S32) (w : World) (h : WalkAt w B g ok (Tk.bs l) L) (hG : Glob w) (hl : l.length ≤ 1000000) (hx : Tk.upto x l = none) :
 Calls Try.prog 57 #[.pointer (some ⟨g, 0, none⟩), .string (Tk.bs x)] w fun e w' => e = .returned (.tuple #[.string (Tk.bs l), .bool false]) ∧ WalkAt w' B g ok (Tk.bs []) L ∧ Below B w w' ∧ KeepBut w w' g none := by
 have := token_walk_upTo.callsK B g l x L w h hG hl
 rwa [upto_none hx] at this
theorem token_walk_upTo.no (B g : Nat) {ok : Nat → Prop} (l x : List UInt8) (L : List S32) (w : World) (h : WalkAt w B g ok (Tk.bs l) L) (hG : Glob w) (hl : l.length ≤ 1000000) (hx : Tk.upto x l = none) :
 Calls Try.prog 57 #[.pointer (some ⟨g, 0, none⟩), .string (Tk.bs x)] w fun e w' => e = .returned (.tuple #[.string (Tk.bs l), .bool false]) ∧ WalkAt w' B g ok (Tk.bs []) L ∧ Below B w w' := (token_walk_upTo.noK B g l x L w h hG hl hx).mono fun e w' h => ⟨h.1, h.2.1, h.2.2.1⟩
theorem contains_no {a x : List UInt8} (h : ¬ 0 ≤ Lib.index a x) : Lib.contains a x = false := by
 unfold Lib.contains
 exact decide_eq_false h
theorem contains_yes {a x : List UInt8} (h : 0 ≤ Lib.index a x) : Lib.contains a x = true := by
 unfold Lib.contains
 exact decide_eq_true h
theorem upto_len {x l a r : List UInt8} (h : Tk.upto x l = some (a, r)) : a.length ≤ l.length ∧ r.length ≤ l.length := by
 unfold Tk.upto at h
 split at h
 ·injection h with h
  injection h with h1 h2
  rw [← h1, ← h2, List.length_take, List.length_drop]
  omega
 ·cases h
theorem token_walk_comment.yes (B g : Nat) {ok : Nat → Prop} (l r : List UInt8) (t : S32) (L : List S32) (w : World) (h : WalkAt w B g ok (Tk.bs l) L) (hG : Glob w) (hl : l.length ≤ 1000000) (hL : L.length ≤ 100000) (hok : ∀ k, w.heap.size ≤ k → ok k) (hx : Tk.comment l = some (t, r)) :
 Calls Try.prog 40 #[.pointer (some ⟨g, 0, none⟩)] w fun e w' => e = .returned (.bool true) ∧ WalkAt w' B g ok (Tk.bs r) (L ++ [t]) ∧ Below B w w' := by
 unfold Tk.comment at hx
 obtain ⟨⟨a, b⟩, hu, hx⟩ := Option.bind_eq_some_iff.1 hx
 simp only at hx
 split at hx
 ·cases hx
 rename_i hn
 obtain ⟨rfl, rfl⟩ := Prod.mk.inj (Option.some.inj hx)
 have hn1 : ¬ 0 ≤ Lib.index a [45, 45] := fun h => hn (.inl h)
 have hn2 : Lib.hasSuffix a [45] = false := Bool.eq_false_iff.2 fun h => hn (.inr h)
 have hal := (upto_len hu).1
 have has : (Tk.bs a).size < 4294967281 := by rw [bs_size]; omega
 have has2 : (Tk.bs a).size ≤ 9223372036854775807 := by omega
 have C1 : ∀ W, Glob W → Calls Try.prog 58 #[.string (Tk.bs a), .string (Tk.bs [45, 45])] W fun e w' => e = .returned (.bool false) ∧ w' = W := by
  intro W hW
  obtain ⟨m, hm⟩ := hW
  refine (Try.strings_Contains (Tk.bs a) (Tk.bs [45, 45]) m W has hm).mono ?_
  rintro e w' ⟨rfl, rfl⟩
  exact ⟨by rw [show Lib.contains (Tk.bs a).data.toList (Tk.bs [45, 45]).data.toList = false from contains_no hn1], rfl⟩
 have C2 : ∀ W, Calls Try.prog 59 #[.string (Tk.bs a), .string (Tk.bs [45])] W fun e w' => e = .returned (.bool false) ∧ w' = W := by
  intro W
  refine (Try.strings_HasSuffix (Tk.bs a) (Tk.bs [45]) W has2).mono ?_
  rintro e w' ⟨rfl, rfl⟩
  exact ⟨by rw [show Lib.hasSuffix (Tk.bs a).data.toList (Tk.bs [45]).data.toList = false from hn2], rfl⟩
 have hB := h.ge
 have hpos := h.pos
 have H := Aside0.mk h
 have HG := Aside0.mk hG
 have HU := Aside0.mk hu
 clear h hG hu hn hn1 hn2 hx has has2
 go_enter Try.func40, Try.ntmps40
 go_wp2_with (first | (go_at_call 57; refine (token_walk_upTo.yesK B g l [45, 45, 62] a _ L _ H.out HG.out hl HU.out).mono ?_; rintro e w1 ⟨rfl, h1, b1, k1⟩; have K1 := Aside0.mk k1; clear k1; have H1 := Aside0.mk h1; have B1 := Aside0.mk b1; have HG1 := Aside0.mk (HG.out.below b1 hpos); clear h1 b1) | (go_at_call 58; refine (C1 _ HG1.out).mono ?_; rintro e w2 ⟨rfl, rfl⟩) | (go_at_call 59; refine (C2 _).mono ?_; rintro e w2 ⟨rfl, rfl⟩) | (go_at_call 60; refine (token_walk_put.calls B g (fun _ => False) _ L (Tk.tk 4 [] a [] false) (.slice none 0 0) _ (H1.out.more (fun k _ hk => ⟨hk, fun h => h⟩)) (Kd.R_nil _ _ _ _ _) (fun _ h => h.elim) (fun k hk => hok k (Nat.le_trans K1.out.1 hk)) hL).mono ?_; rintro e w3 ⟨rfl, h3, b3⟩; have H3 := Aside0.mk h3; have B3 := Aside0.mk b3; clear h3 b3))
 go_ret
 exact ⟨rfl, H3.out, B1.out.trans B3.out⟩
theorem token_walk_comment.no (B g : Nat) {ok : Nat → Prop} (l : List UInt8) (L : List S32) (w : World) (h : WalkAt w B g ok (Tk.bs l) L) (hG : Glob w) (hl : l.length ≤ 1000000) (hx : Tk.comment l = none) :
 Calls Try.prog 40 #[.pointer (some ⟨g, 0, none⟩)] w fun e w' => e = .returned (.bool false) ∧ Below B w w' := by
 have hB := h.ge
 have hpos := h.pos
 unfold Tk.comment at hx
 have H := Aside0.mk h
 have HG := Aside0.mk hG
 clear h hG
 cases hu : Tk.upto [45, 45, 62] l with
 | none =>
  have HU := Aside0.mk hu
  clear hu hx
  go_enter Try.func40, Try.ntmps40
  go_wp2_with (first | (go_at_call 57; refine (token_walk_upTo.no B g l [45, 45, 62] L _ H.out HG.out hl HU.out).mono ?_; rintro e w1 ⟨rfl, h1, b1⟩; have B1 := Aside0.mk b1; clear h1 b1))
  go_ret
  exact ⟨rfl, B1.out⟩
 | some p =>
  obtain ⟨a, r⟩ := p
  rw [hu, Option.bind_some] at hx
  have hn : 0 ≤ Lib.index a [45, 45] ∨ Lib.hasSuffix a [45] = true := by
   refine Classical.byContradiction fun hc => ?_
   rw [if_neg hc] at hx
   cases hx
  have hal := (upto_len hu).1
  have has : (Tk.bs a).size < 4294967281 := by rw [bs_size]; omega
  have has2 : (Tk.bs a).size ≤ 9223372036854775807 := by omega
  have HU := Aside0.mk hu
  clear hu hx
  by_cases h1 : 0 ≤ Lib.index a [45, 45]
  ·have C1 : ∀ W, Glob W → Calls Try.prog 58 #[.string (Tk.bs a), .string (Tk.bs [45, 45])] W fun e w' => e = .returned (.bool true) ∧ w' = W := by
    intro W hW
    obtain ⟨m, hm⟩ := hW
    refine (Try.strings_Contains (Tk.bs a) (Tk.bs [45, 45]) m W has hm).mono ?_
    rintro e w' ⟨rfl, rfl⟩
    exact ⟨by rw [show Lib.contains (Tk.bs a).data.toList (Tk.bs [45, 45]).data.toList = true from contains_yes h1], rfl⟩
   clear hn h1 has has2
   go_enter Try.func40, Try.ntmps40
   go_wp2_with (first | (go_at_call 57; refine (token_walk_upTo.yes B g l [45, 45, 62] a _ L _ H.out HG.out hl HU.out).mono ?_; rintro e w1 ⟨rfl, h1, b1⟩; have B1 := Aside0.mk b1; have HG1 := Aside0.mk (HG.out.below b1 hpos); clear h1 b1) | (go_at_call 58; refine (C1 _ HG1.out).mono ?_; rintro e w2 ⟨rfl, rfl⟩))
   go_ret
   exact ⟨rfl, B1.out⟩
  have h2 := hn.resolve_left h1
  have C1 : ∀ W, Glob W → Calls Try.prog 58 #[.string (Tk.bs a), .string (Tk.bs [45, 45])] W fun e w' => e = .returned (.bool false) ∧ w' = W := by
   intro W hW
   obtain ⟨m, hm⟩ := hW
   refine (Try.strings_Contains (Tk.bs a) (Tk.bs [45, 45]) m W has hm).mono ?_
   rintro e w' ⟨rfl, rfl⟩
   exact ⟨by rw [show Lib.contains (Tk.bs a).data.toList (Tk.bs [45, 45]).data.toList = false from contains_no h1], rfl⟩
  have C2 : ∀ W, Calls Try.prog 59 #[.string (Tk.bs a), .string (Tk.bs [45])] W fun e w' => e = .returned (.bool true) ∧ w' = W := by
   intro W
   refine (Try.strings_HasSuffix (Tk.bs a) (Tk.bs [45]) W has2).mono ?_
   rintro e w' ⟨rfl, rfl⟩
   exact ⟨by rw [show Lib.hasSuffix (Tk.bs a).data.toList (Tk.bs [45]).data.toList = true from h2], rfl⟩
  clear hn h1 h2 has has2
  go_enter Try.func40, Try.ntmps40
  go_wp2_with (first | (go_at_call 57; refine (token_walk_upTo.yes B g l [45, 45, 62] a _ L _ H.out HG.out hl HU.out).mono ?_; rintro e w1 ⟨rfl, h1, b1⟩; have B1 := Aside0.mk b1; have HG1 := Aside0.mk (HG.out.below b1 hpos); clear h1 b1) | (go_at_call 58; refine (C1 _ HG1.out).mono ?_; rintro e w2 ⟨rfl, rfl⟩) | (go_at_call 59; refine (C2 _).mono ?_; rintro e w2 ⟨rfl, rfl⟩))
  go_ret
  exact ⟨rfl, B1.out⟩
theorem token_walk_data.yes (B g : Nat) {ok : Nat → Prop} (l r : List UInt8) (t : S32) (L : List S32) (w : World) (h : WalkAt w B g ok (Tk.bs l) L) (hG : Glob w) (hl : l.length ≤ 1000000) (hL : L.length ≤ 100000) (hok : ∀ k, w.heap.size ≤ k → ok k) (hx : Tk.data l = some (t, r)) :
 Calls Try.prog 41 #[.pointer (some ⟨g, 0, none⟩)] w fun e w' => e = .returned (.bool true) ∧ WalkAt w' B g ok (Tk.bs r) (L ++ [t]) ∧ Below B w w' := by
 unfold Tk.data at hx
 obtain ⟨⟨a, b⟩, hu, hx⟩ := Option.map_eq_some_iff.1 hx
 obtain ⟨rfl, rfl⟩ := Prod.mk.inj hx
 have hB := h.ge
 have hpos := h.pos
 have H := Aside0.mk h
 have HG := Aside0.mk hG
 have HU := Aside0.mk hu
 clear h hG hu hx
 go_enter Try.func41, Try.ntmps41
 go_wp2_with (first | (go_at_call 57; refine (token_walk_upTo.yesK B g l [93, 93, 62] a _ L _ H.out HG.out hl HU.out).mono ?_; rintro e w1 ⟨rfl, h1, b1, k1⟩; have K1 := Aside0.mk k1; clear k1; have H1 := Aside0.mk h1; have B1 := Aside0.mk b1; clear h1 b1) | (go_at_call 60; refine (token_walk_put.calls B g (fun _ => False) _ L (Tk.tk 3 [] a [] false) (.slice none 0 0) _ (H1.out.more (fun k _ hk => ⟨hk, fun h => h⟩)) (Kd.R_nil _ _ _ _ _) (fun _ h => h.elim) (fun k hk => hok k (Nat.le_trans K1.out.1 hk)) hL).mono ?_; rintro e w3 ⟨rfl, h3, b3⟩; have H3 := Aside0.mk h3; have B3 := Aside0.mk b3; clear h3 b3))
 go_ret
 exact ⟨rfl, H3.out, B1.out.trans B3.out⟩
theorem token_walk_data.no (B g : Nat) {ok : Nat → Prop} (l : List UInt8) (L : List S32) (w : World) (h : WalkAt w B g ok (Tk.bs l) L) (hG : Glob w) (hl : l.length ≤ 1000000) (hx : Tk.data l = none) :
 Calls Try.prog 41 #[.pointer (some ⟨g, 0, none⟩)] w fun e w' => e = .returned (.bool false) ∧ Below B w w' := by
 unfold Tk.data at hx
 have hu := Option.map_eq_none_iff.1 hx
 have H := Aside0.mk h
 have HG := Aside0.mk hG
 have HU := Aside0.mk hu
 clear h hG hu hx
 go_enter Try.func41, Try.ntmps41
 go_wp2_with (first | (go_at_call 57; refine (token_walk_upTo.no B g l [93, 93, 62] L _ H.out HG.out hl HU.out).mono ?_; rintro e w1 ⟨rfl, h1, b1⟩; have B1 := Aside0.mk b1; clear h1 b1))
 go_ret
 exact ⟨rfl, B1.out⟩
theorem token_walk_prolog.yes (B g : Nat) {ok : Nat → Prop} (fst : Bool) (l r : List UInt8) (t : S32) (L : List S32) (w : World) (h : WalkAt w B g ok (Tk.bs l) L) (hG : Glob w) (hl : l.length ≤ 1000000) (hL : L.length ≤ 100000) (hok : ∀ k, w.heap.size ≤ k → ok k) (hx : Tk.prolog fst l = some (t, r)) :
 Calls Try.prog 42 #[.pointer (some ⟨g, 0, none⟩), .bool fst] w fun e w' => e = .returned (.bool true) ∧ WalkAt w' B g ok (Tk.bs r) (L ++ [t]) ∧ Below B w w' := by
 unfold Tk.prolog at hx
 obtain ⟨⟨a, b⟩, hu, hx⟩ := Option.bind_eq_some_iff.1 hx
 simp only at hx
 cases fst with
 | false => rw [if_neg (by decide)] at hx; cases hx
 | true =>
 rw [if_pos rfl] at hx
 obtain ⟨rfl, rfl⟩ := Prod.mk.inj (Option.some.inj hx)
 have H := Aside0.mk h
 have HG := Aside0.mk hG
 have HU := Aside0.mk hu
 clear h hG hu hx
 go_enter Try.func42, Try.ntmps42
 go_wp2_with (first | (go_at_call 57; refine (token_walk_upTo.yesK B g l [63, 62] a _ L _ H.out HG.out hl HU.out).mono ?_; rintro e w1 ⟨rfl, h1, b1, k1⟩; have K1 := Aside0.mk k1; clear k1; have H1 := Aside0.mk h1; have B1 := Aside0.mk b1; clear h1 b1) | (go_at_call 60; refine (token_walk_put.calls B g (fun _ => False) _ L (Tk.tk 5 [] a [] false) (.slice none 0 0) _ (H1.out.more (fun k _ hk => ⟨hk, fun h => h⟩)) (Kd.R_nil _ _ _ _ _) (fun _ h => h.elim) (fun k hk => hok k (Nat.le_trans K1.out.1 hk)) hL).mono ?_; rintro e w3 ⟨rfl, h3, b3⟩; have H3 := Aside0.mk h3; have B3 := Aside0.mk b3; clear h3 b3))
 go_ret
 exact ⟨rfl, H3.out, B1.out.trans B3.out⟩
theorem token_walk_prolog.no (B g : Nat) {ok : Nat → Prop} (fst : Bool) (l : List UInt8) (L : List S32) (w : World) (h : WalkAt w B g ok (Tk.bs l) L) (hG : Glob w) (hl : l.length ≤ 1000000) (hx : Tk.prolog fst l = none) :
 Calls Try.prog 42 #[.pointer (some ⟨g, 0, none⟩), .bool fst] w fun e w' => e = .returned (.bool false) ∧ Below B w w' := by
 unfold Tk.prolog at hx
 have H := Aside0.mk h
 have HG := Aside0.mk hG
 clear h hG
 cases hu : Tk.upto [63, 62] l with
 | none =>
  have HU := Aside0.mk hu
  clear hu hx
  go_enter Try.func42, Try.ntmps42
  go_wp2_with (first | (go_at_call 57; refine (token_walk_upTo.no B g l [63, 62] L _ H.out HG.out hl HU.out).mono ?_; rintro e w1 ⟨rfl, h1, b1⟩; have B1 := Aside0.mk b1; clear h1 b1))
  go_ret
  exact ⟨rfl, B1.out⟩
 | some p =>
  obtain ⟨a, r⟩ := p
  rw [hu, Option.bind_some] at hx
  cases fst with
  | true => rw [if_pos rfl] at hx; cases hx
  | false =>
  have HU := Aside0.mk hu
  clear hu hx
  go_enter Try.func42, Try.ntmps42
  go_wp2_with (first | (go_at_call 57; refine (token_walk_upTo.yes B g l [63, 62] a _ L _ H.out HG.out hl HU.out).mono ?_; rintro e w1 ⟨rfl, h1, b1⟩; have B1 := Aside0.mk b1; clear h1 b1))
  go_ret
  exact ⟨rfl, B1.out⟩
theorem tw_at {p : UInt8 → Bool} : ∀ {l : List UInt8} {i : Nat} (h : i < (l.takeWhile p).length), ∃ h' : i < l.length, p l[i] = true
 | [], i, h => by simp at h
 | c :: r, i, h => by
  by_cases hc : p c = true
  ·rw [List.takeWhile_cons, if_pos hc] at h
   cases i with
   | zero => exact ⟨by simp, hc⟩
   | succ i =>
    obtain ⟨h', e⟩ := tw_at (l := r) (i := i) (by simpa using h)
    exact ⟨by simp; exact h', by simpa using e⟩
  ·rw [List.takeWhile_cons, if_neg hc] at h
   simp at h
theorem tw_end {p : UInt8 → Bool} : ∀ {l : List UInt8} (h : (l.takeWhile p).length < l.length), p l[(l.takeWhile p).length] = false
 | [], h => by simp at h
 | c :: r, h => by
  by_cases hc : p c = true
  ·have h2 : (r.takeWhile p).length < r.length := by
    rw [List.takeWhile_cons, if_pos hc] at h
    simpa using h
   have := tw_end h2
   simpa [List.takeWhile_cons, hc] using this
  ·simp [List.takeWhile_cons, hc]
theorem tw_le {p : UInt8 → Bool} (l : List UInt8) : (l.takeWhile p).length ≤ l.length := (List.takeWhile_sublist p).length_le
theorem dw_drop {p : UInt8 → Bool} : ∀ (l : List UInt8), l.dropWhile p = l.drop (l.takeWhile p).length
 | [] => rfl
 | c :: r => by
  by_cases hc : p c = true
  ·rw [List.dropWhile_cons, if_pos hc, List.takeWhile_cons, if_pos hc, List.length_cons, List.drop_succ_cons]
   exact dw_drop r
  ·rw [List.dropWhile_cons, if_neg hc, List.takeWhile_cons, if_neg hc]; rfl
theorem bs_bt (l : List UInt8) (i : Nat) (h : i < l.length) : bt (Tk.bs l) (i : Int) = (l[i].toNat : Int) := by
 unfold bt
 rw [dif_pos (by rw [bs_size]; simpa using h)]
 rfl
theorem bs_drop (l : List UInt8) (i : Nat) : (Tk.bs l).extract i (Tk.bs l).size = Tk.bs (l.drop i) := by
 have : ((Tk.bs l).extract i (Tk.bs l).size).data.toList = (Tk.bs (l.drop i)).data.toList := by
  rw [Lib.extract_data, bs_size]
  show (l.drop i).take (l.length - i) = l.drop i
  rw [List.take_of_length_le (by rw [List.length_drop]; omega)]
 cases h1 : (Tk.bs l).extract i (Tk.bs l).size with
 | mk d => rw [h1] at this; cases d; simp at this; subst this; rfl
theorem space_f (c : UInt8) : chars_Space.f (c.toNat : Int) = some (Tk.space c) := by
 unfold chars_Space.f Tk.space
 by_cases h1 : (c.toNat : Int) = 9
 ·have : c.toNat = 9 := by omega
  rw [if_pos h1, this]; rfl
 by_cases h2 : (c.toNat : Int) = 10
 ·have : c.toNat = 10 := by omega
  rw [if_neg h1, if_pos h2, this]; rfl
 by_cases h3 : (c.toNat : Int) = 13
 ·have : c.toNat = 13 := by omega
  rw [if_neg h1, if_neg h2, if_pos h3, this]; rfl
 rw [if_neg h1, if_neg h2, if_neg h3]
 congr 1
 rw [Bool.eq_iff_iff]
 simp only [beq_iff_eq, Bool.or_eq_true]
 omega
theorem token_walk_skip.callsK (B g : Nat) {ok : Nat → Prop} (l : List UInt8) (L : List S32) (w : World) (h : WalkAt w B g ok (Tk.bs l) L) (hG : Glob w) (hl : l.length ≤ 1000000) :
 Calls Try.prog 62 #[.pointer (some ⟨g, 0, none⟩)] w fun e w' => e = .returned (.bool (decide ((Tk.skip l).length < l.length))) ∧ WalkAt w' B g ok (Tk.bs (Tk.skip l)) L ∧ Below B w w' ∧ KeepBut w w' g none := by
 have hn := tw_le (p := Tk.space) l
 have hsk : Tk.skip l = l.drop (l.takeWhile Tk.space).length := dw_drop l
 have hin := fun i => tw_at (p := Tk.space) (l := l) (i := i)
 have hend := tw_end (p := Tk.space) (l := l)
 have hB := h.ge
 have hpos := h.pos
 obtain ⟨n0, hn0⟩ : ∃ n0, n0 = (l.takeWhile Tk.space).length := ⟨_, rfl⟩
 rw [← hn0] at hn hsk hin hend
 have hsz := bs_size l
 have hbt := bs_bt l
 have hdr := bs_drop l
 obtain ⟨s, hs⟩ : ∃ s, s = Tk.bs l := ⟨_, rfl⟩
 rw [← hs] at hsz hbt hdr h
 have HS := Lib.hid hs
 have HN := Lib.hid hn0
 have HSK := Lib.hid hsk
 have HIN := Lib.hid hin
 have HEND := Lib.hid hend
 have HSZ := Lib.hid hsz
 have HBT := Lib.hid hbt
 have HDR := Lib.hid hdr
 have H := Aside0.mk h
 have HG := Aside0.mk hG
 clear hs hn0 hsk hin hend hsz hbt hdr h hG
 go_enter Try.func62, Try.ntmps62
 go_wp2
 go_loopg [3] (n0 + 1) (fun gk v3 w' => ∃ (i : Nat) (x : Int), i ≤ n0 ∧ i + gk = n0 + 1 ∧ v3 = .int .i64 x ∧ Aside0 (x = (i : Int)) ∧ Aside0 (WalkAt w' B g ok s L) ∧ Aside0 (Below B w w') ∧ Aside0 (KeepBut w w' g none))
 case atStart => exact ⟨0, 0, by omega, by omega, rfl, ⟨rfl⟩, H, ⟨Below.refl _ _⟩, ⟨KeepBut.refl _ _ _⟩⟩
 clear H
 obtain ⟨i, x, hi, hgk, rfl, HX, H, HB, HK⟩ := hrel
 have c0 := H.out.cell0
 have f0 := H.out.frozen 0
 have hG1 : Glob wr := HG.out.below HB.out hpos
 by_cases hlt : i < n0
 ·obtain ⟨g1, rfl⟩ : ∃ g1, gk = g1 + 1 := ⟨gk - 1, by omega⟩
  obtain ⟨hil, hsp⟩ := HIN.out i hlt
  have hsz := HSZ.out
  have hxi := HX.out
  have d1 : decide (x < (s.size : Int)) = true := decide_eq_true (by omega)
  have p1 := eq_true (show 0 ≤ x by omega)
  have p2 := eq_true (show x < (s.size : Int) by omega)
  have hx := bt_at s x
  have hf : chars_Space.f (bt s x) = some true := by rw [hxi, HBT.out i hil, space_f, hsp]
  have HF := Aside0.mk hf
  have HG1 := Aside0.mk hG1
  have hw : wrap64 (x + 1) = ((i + 1 : Nat) : Int) := by unfold wrap64; omega
  have HW := Aside0.mk hw
  clear hsz hf hG1 hsp hxi hw
  go_wp2_with (first | (go_at_call 38; (with_reducible refine (chars_Space.calls (bt s x) true _ HG1.out HF.out).mono ?_); rintro e w1 ⟨rfl, ⟨nd, rfl⟩⟩))
  go_roundg g1
  case measure => omega
  case rel => exact ⟨i + 1, _, by omega, by omega, by first | rfl | (simp; done), HW, ⟨H.out.below (pw_below_drewN (Below.refl _ _) nd)⟩, ⟨pw_below_drewN HB.out nd⟩, ⟨keep_drewN HK.out nd⟩⟩
 obtain rfl : i = n0 := by omega
 have hsz := HSZ.out
 have hxi := HX.out
 have hskl : (Tk.skip l).length = l.length - i := by rw [HSK.out, List.length_drop]
 have HSL := Lib.hid hskl
 have hbl : Below B w (wr.setCell ⟨g, 0, none⟩ (.string (s.extract x.toNat s.size))) := HB.out.setCell (p := ⟨g, 0, none⟩) hB _
 have p1 := eq_true (show 0 ≤ x by omega)
 have p3 := eq_true (show x ≤ (s.size : Int) by omega)
 have p3' : decide (x ≤ (s.size : Int)) = true := decide_eq_true (by omega)
 have hex : s.extract x.toNat s.size = Tk.bs (Tk.skip l) := by rw [hxi, Int.toNat_natCast, HDR.out, HSK.out]
 have hres : decide (x > 0) = decide ((Tk.skip l).length < l.length) := by rw [hskl]; congr 1; rw [eq_iff_iff]; omega
 have HEX := Lib.hid hex
 have HR := Lib.hid hres
 by_cases hl2 : i < l.length
 rotate_left
 ·have d1 : decide (x < (s.size : Int)) = false := decide_eq_false (by omega)
  clear hsz hG1 hxi hskl hex hres
  go_wp2
  go_ret
  refine ⟨by rw [HR.out]; rfl, ?_, ?_⟩
  ·rw [← HEX.out]
   exact H.out.left _
  ·exact ⟨HB.out.setCell (p := ⟨g, 0, none⟩) hB _, HK.out.set_ 0 _⟩
 have hns := HEND.out hl2
 have d1 : decide (x < (s.size : Int)) = true := decide_eq_true (by omega)
 have p2 := eq_true (show x < (s.size : Int) by omega)
 have hx := bt_at s x
 have hf : chars_Space.f (bt s x) = some false := by rw [hxi, HBT.out i hl2, space_f, hns]
 have HF := Aside0.mk hf
 have HG1 := Aside0.mk hG1
 clear hsz hf hG1 hns hxi hskl hex hres
 go_wp2_with (first | (go_at_call 38; (with_reducible refine (chars_Space.calls (bt s x) false _ HG1.out HF.out).mono ?_); rintro e w1 ⟨rfl, ⟨nd, rfl⟩⟩))
 go_ret
 refine ⟨by rw [HR.out]; rfl, ?_, ?_⟩
 ·rw [← HEX.out]
  exact (H.out.below (pw_below_drewN (Below.refl _ _) nd)).left _
 ·exact ⟨(pw_below_drewN HB.out nd).setCell (p := ⟨g, 0, none⟩) hB _, (keep_drewN HK.out nd).set_ 0 _⟩
theorem token_walk_skip.calls (B g : Nat) {ok : Nat → Prop} (l : List UInt8) (L : List S32) (w : World) (h : WalkAt w B g ok (Tk.bs l) L) (hG : Glob w) (hl : l.length ≤ 1000000) :
 Calls Try.prog 62 #[.pointer (some ⟨g, 0, none⟩)] w fun e w' => e = .returned (.bool (decide ((Tk.skip l).length < l.length))) ∧ WalkAt w' B g ok (Tk.bs (Tk.skip l)) L ∧ Below B w w' := (token_walk_skip.callsK B g l L w h hG hl).mono fun e w' h => ⟨h.1, h.2.1, h.2.2.1⟩
def chars_first.f (a0 : Int) : Option (Bool) := if a0 ≥ 65 then (if a0 ≤ 90 then (some true) else (if a0 ≥ 97 then (if a0 ≤ 122 then (some true) else (some (a0 == 95))) else (some (a0 == 95)))) else (if a0 ≥ 97 then (if a0 ≤ 122 then (some true) else (some (a0 == 95))) else (some (a0 == 95)))
theorem chars_first.calls (a0 : Int) (r : Bool) (w : World) (hG : Glob w) (h : chars_first.f a0 = some r) :
 Calls Try.prog 92 #[.int .u8 a0] w fun e w' => e = .returned (.bool r) ∧ Drawn0 w w' := by
 have HG := Aside0.mk hG
 clear hG
 have H : (if a0 ≥ 65 then (if a0 ≤ 90 then (some true) else (if a0 ≥ 97 then (if a0 ≤ 122 then (some true) else (some (a0 == 95))) else (some (a0 == 95)))) else (if a0 ≥ 97 then (if a0 ≤ 122 then (some true) else (some (a0 == 95))) else (some (a0 == 95)))) = some r := h
 clear h
 by_cases c2 : a0 ≥ 65
 rotate_left
 ·rw [if_neg c2] at H
  have c2b0 := dF c2
  clear c2
  by_cases c6 : a0 ≥ 97
  rotate_left
  ·rw [if_neg c6] at H
   have c6b0 := dF c6
   clear c6
   obtain rfl := Option.some.inj H
   go_enter Try.func92, Try.ntmps92
   go_wp2
   go_ret
   exact ⟨by first | rfl | (simp; done) | (simp [*]; done), by repeat (first | exact Drawn0.refl _ | apply Drawn0.step)⟩
  rw [if_pos c6] at H
  have c6b0 := dT c6
  clear c6
  by_cases c7 : a0 ≤ 122
  rotate_left
  ·rw [if_neg c7] at H
   have c7b0 := dF c7
   clear c7
   obtain rfl := Option.some.inj H
   go_enter Try.func92, Try.ntmps92
   go_wp2
   go_ret
   exact ⟨by first | rfl | (simp; done) | (simp [*]; done), by repeat (first | exact Drawn0.refl _ | apply Drawn0.step)⟩
  rw [if_pos c7] at H
  have c7b0 := dT c7
  clear c7
  obtain rfl := Option.some.inj H
  go_enter Try.func92, Try.ntmps92
  go_wp2
  go_ret
  exact ⟨by first | rfl | (simp; done) | (simp [*]; done), by repeat (first | exact Drawn0.refl _ | apply Drawn0.step)⟩
 rw [if_pos c2] at H
 have c2b0 := dT c2
 clear c2
 by_cases c3 : a0 ≤ 90
 ·rw [if_pos c3] at H
  have c3b0 := dT c3
  clear c3
  obtain rfl := Option.some.inj H
  go_enter Try.func92, Try.ntmps92
  go_wp2
  go_ret
  exact ⟨by first | rfl | (simp; done) | (simp [*]; done), by repeat (first | exact Drawn0.refl _ | apply Drawn0.step)⟩
 rw [if_neg c3] at H
 have c3b0 := dF c3
 clear c3
 by_cases c4 : a0 ≥ 97
 rotate_left
 ·rw [if_neg c4] at H
  have c4b0 := dF c4
  clear c4
  obtain rfl := Option.some.inj H
  go_enter Try.func92, Try.ntmps92
  go_wp2
  go_ret
  exact ⟨by first | rfl | (simp; done) | (simp [*]; done), by repeat (first | exact Drawn0.refl _ | apply Drawn0.step)⟩
 rw [if_pos c4] at H
 have c4b0 := dT c4
 clear c4
 by_cases c5 : a0 ≤ 122
 rotate_left
 ·rw [if_neg c5] at H
  have c5b0 := dF c5
  clear c5
  obtain rfl := Option.some.inj H
  go_enter Try.func92, Try.ntmps92
  go_wp2
  go_ret
  exact ⟨by first | rfl | (simp; done) | (simp [*]; done), by repeat (first | exact Drawn0.refl _ | apply Drawn0.step)⟩
 rw [if_pos c5] at H
 have c5b0 := dT c5
 clear c5
 obtain rfl := Option.some.inj H
 go_enter Try.func92, Try.ntmps92
 go_wp2
 go_ret
 exact ⟨by first | rfl | (simp; done) | (simp [*]; done), by repeat (first | exact Drawn0.refl _ | apply Drawn0.step)⟩
def chars_Digit.f (a0 : Int) : Option (Bool) := if a0 ≥ 48 then (some (decide (a0 ≤ 57))) else (some false)
theorem chars_Digit.calls (a0 : Int) (r : Bool) (w : World) (hG : Glob w) (h : chars_Digit.f a0 = some r) :
 Calls Try.prog 91 #[.int .u8 a0] w fun e w' => e = .returned (.bool r) ∧ Drawn0 w w' := by
 have HG := Aside0.mk hG
 clear hG
 have H : (if a0 ≥ 48 then (some (decide (a0 ≤ 57))) else (some false)) = some r := h
 clear h
 by_cases c2 : a0 ≥ 48
 rotate_left
 ·rw [if_neg c2] at H
  have c2b0 := dF c2
  clear c2
  obtain rfl := Option.some.inj H
  go_enter Try.func91, Try.ntmps91
  go_wp2
  go_ret
  exact ⟨by first | rfl | (simp; done) | (simp [*]; done), by repeat (first | exact Drawn0.refl _ | apply Drawn0.step)⟩
 rw [if_pos c2] at H
 have c2b0 := dT c2
 clear c2
 obtain rfl := Option.some.inj H
 go_enter Try.func91, Try.ntmps91
 go_wp2
 go_ret
 exact ⟨by first | rfl | (simp; done) | (simp [*]; done), by repeat (first | exact Drawn0.refl _ | apply Drawn0.step)⟩
def chars_Within.f (a0 : Int) : Option (Bool) := (chars_first.f a0).bind fun t104 => (if t104 = true then (some true) else ((chars_Digit.f a0).bind fun t105 => (if t105 = true then (some true) else (if a0 = 45 then (some true) else (if a0 = 46 then (some true) else (some (a0 == 58)))))))
theorem chars_Within.calls (a0 : Int) (r : Bool) (w : World) (hG : Glob w) (h : chars_Within.f a0 = some r) :
 Calls Try.prog 93 #[.int .u8 a0] w fun e w' => e = .returned (.bool r) ∧ Drawn0 w w' := by
 have HG := Aside0.mk hG
 clear hG
 have H : ((chars_first.f a0).bind fun t104 => (if t104 = true then (some true) else ((chars_Digit.f a0).bind fun t105 => (if t105 = true then (some true) else (if a0 = 45 then (some true) else (if a0 = 46 then (some true) else (some (a0 == 58)))))))) = some r := h
 clear h
 replace H := bi H
 obtain ⟨t104, A20, H⟩ := H
 try dsimp only at H
 have A2 := Aside0.mk A20
 clear A20
 by_cases c3 : t104 = true
 ·subst c3
  have H1 : (some true) = some r := by rw [if_pos rfl] at H; exact H
  clear H
  have H := H1
  clear H1
  obtain rfl := Option.some.inj H
  go_enter Try.func93, Try.ntmps93
  go_wp2_with (first | (refine gl (some 4) Try.func92 #[.int .u8 a0] ?_; (with_reducible refine (chars_first.calls a0 true _ ?side1 A2.out).mono ?_); (case side1 => exact Glob.drawn HG.out (by repeat (first | exact Drawn0.refl _ | apply Drawn0.step))); rintro e w' ⟨rfl, ⟨nd, rfl⟩⟩; refine ⟨_, rfl, ?_⟩))
  go_ret
  exact ⟨by first | rfl | (simp; done) | (simp [*]; done), by repeat (first | exact Drawn0.refl _ | apply Drawn0.step)⟩
 replace c3 := Bool.eq_false_iff.mpr c3
 subst c3
 have H1 : ((chars_Digit.f a0).bind fun t105 => (if t105 = true then (some true) else (if a0 = 45 then (some true) else (if a0 = 46 then (some true) else (some (a0 == 58)))))) = some r := by rw [if_neg (show ¬ (false = true) by decide)] at H; exact H
 clear H
 have H := H1
 clear H1
 replace H := bi H
 obtain ⟨t105, A40, H⟩ := H
 try dsimp only at H
 have A4 := Aside0.mk A40
 clear A40
 by_cases c5 : t105 = true
 ·subst c5
  have H1 : (some true) = some r := by rw [if_pos rfl] at H; exact H
  clear H
  have H := H1
  clear H1
  obtain rfl := Option.some.inj H
  go_enter Try.func93, Try.ntmps93
  go_wp2_with (first | (refine gl (some 4) Try.func92 #[.int .u8 a0] ?_; (with_reducible refine (chars_first.calls a0 false _ ?side1 A2.out).mono ?_); (case side1 => exact Glob.drawn HG.out (by repeat (first | exact Drawn0.refl _ | apply Drawn0.step))); rintro e w' ⟨rfl, ⟨nd, rfl⟩⟩; refine ⟨_, rfl, ?_⟩) | (go_at_call 91; (with_reducible refine (chars_Digit.calls a0 true _ ?side1 A4.out).mono ?_); (case side1 => exact Glob.drawn HG.out (by repeat (first | exact Drawn0.refl _ | apply Drawn0.step))); rintro e w' ⟨rfl, ⟨nd, rfl⟩⟩))
  go_ret
  exact ⟨by first | rfl | (simp; done) | (simp [*]; done), by repeat (first | exact Drawn0.refl _ | apply Drawn0.step)⟩
 replace c5 := Bool.eq_false_iff.mpr c5
 subst c5
 have H1 : (if a0 = 45 then (some true) else (if a0 = 46 then (some true) else (some (a0 == 58)))) = some r := by rw [if_neg (show ¬ (false = true) by decide)] at H; exact H
 clear H
 have H := H1
 clear H1
 by_cases c6 : a0 = 45
 ·rw [if_pos c6] at H
  obtain ⟨c6b0, c6b1⟩ := eqT c6
  clear c6
  obtain rfl := Option.some.inj H
  go_enter Try.func93, Try.ntmps93
  go_wp2_with (first | (refine gl (some 4) Try.func92 #[.int .u8 a0] ?_; (with_reducible refine (chars_first.calls a0 false _ ?side1 A2.out).mono ?_); (case side1 => exact Glob.drawn HG.out (by repeat (first | exact Drawn0.refl _ | apply Drawn0.step))); rintro e w' ⟨rfl, ⟨nd, rfl⟩⟩; refine ⟨_, rfl, ?_⟩) | (go_at_call 91; (with_reducible refine (chars_Digit.calls a0 false _ ?side1 A4.out).mono ?_); (case side1 => exact Glob.drawn HG.out (by repeat (first | exact Drawn0.refl _ | apply Drawn0.step))); rintro e w' ⟨rfl, ⟨nd, rfl⟩⟩))
  go_ret
  exact ⟨by first | rfl | (simp; done) | (simp [*]; done), by repeat (first | exact Drawn0.refl _ | apply Drawn0.step)⟩
 rw [if_neg c6] at H
 obtain ⟨c6b0, c6b1⟩ := eqF c6
 by_cases c7 : a0 = 46
 rotate_left
 ·rw [if_neg c7] at H
  obtain ⟨c7b0, c7b1⟩ := eqF c7
  obtain rfl := Option.some.inj H
  go_enter Try.func93, Try.ntmps93
  go_wp2_with (first | (refine gl (some 4) Try.func92 #[.int .u8 a0] ?_; (with_reducible refine (chars_first.calls a0 false _ ?side1 A2.out).mono ?_); (case side1 => exact Glob.drawn HG.out (by repeat (first | exact Drawn0.refl _ | apply Drawn0.step))); rintro e w' ⟨rfl, ⟨nd, rfl⟩⟩; refine ⟨_, rfl, ?_⟩) | (go_at_call 91; (with_reducible refine (chars_Digit.calls a0 false _ ?side1 A4.out).mono ?_); (case side1 => exact Glob.drawn HG.out (by repeat (first | exact Drawn0.refl _ | apply Drawn0.step))); rintro e w' ⟨rfl, ⟨nd, rfl⟩⟩))
  go_ret
  exact ⟨by first | rfl | (simp; done) | (simp [*]; done), by repeat (first | exact Drawn0.refl _ | apply Drawn0.step)⟩
 rw [if_pos c7] at H
 obtain ⟨c7b0, c7b1⟩ := eqT c7
 clear c7
 obtain rfl := Option.some.inj H
 go_enter Try.func93, Try.ntmps93
 go_wp2_with (first | (refine gl (some 4) Try.func92 #[.int .u8 a0] ?_; (with_reducible refine (chars_first.calls a0 false _ ?side1 A2.out).mono ?_); (case side1 => exact Glob.drawn HG.out (by repeat (first | exact Drawn0.refl _ | apply Drawn0.step))); rintro e w' ⟨rfl, ⟨nd, rfl⟩⟩; refine ⟨_, rfl, ?_⟩) | (go_at_call 91; (with_reducible refine (chars_Digit.calls a0 false _ ?side1 A4.out).mono ?_); (case side1 => exact Glob.drawn HG.out (by repeat (first | exact Drawn0.refl _ | apply Drawn0.step))); rintro e w' ⟨rfl, ⟨nd, rfl⟩⟩))
 go_ret
 exact ⟨by first | rfl | (simp; done) | (simp [*]; done), by repeat (first | exact Drawn0.refl _ | apply Drawn0.step)⟩
mutual
def chars_Head.j0 : Nat → ByteArray → Bool → Option (ByteArray)
 | 0, _, _ => none
 | k + 1, x0, x11 => if x11 = true then (some (⟨#[]⟩ : ByteArray)) else (chars_Head.l0 k x0 1)
def chars_Head.l0 : Nat → ByteArray → Int → Option (ByteArray)
 | 0, _, _ => none
 | k + 1, x0, x3 => if x3 < (x0.size : Int) then (if 0 ≤ x3 then ((chars_Within.f (bt x0 x3)).bind fun t107 => (if t107 = true then (chars_Head.l0 k x0 (wrap64 (x3 + 1))) else (if x3 ≤ (x0.size : Int) then (some (x0.extract 0 (x3 : Int).toNat)) else (none)))) else (none)) else (if 0 ≤ x3 then (if x3 ≤ (x0.size : Int) then (some (x0.extract 0 (x3 : Int).toNat)) else (none)) else (none))
end
def chars_Head.f (k : Nat) (a0 : ByteArray) : Option (ByteArray) := if a0.toList = ([] : List UInt8) then (chars_Head.j0 k a0 true) else (if 0 < (a0.size : Int) then ((chars_first.f (bt a0 0)).bind fun t106 => (chars_Head.j0 k a0 (!t106))) else (none))
theorem chars_Head.calls (k : Nat) (a0 : ByteArray) (r : ByteArray) (w : World) (hG : Glob w) (h : chars_Head.f k a0 = some r) :
 Calls Try.prog 80 #[.string a0] w fun e w' => e = .returned (.string r) ∧ Drawn0 w w' := by
 have HG := Aside0.mk hG
 clear hG
 have H : (if a0.toList = ([] : List UInt8) then (chars_Head.j0 k a0 true) else (if 0 < (a0.size : Int) then ((chars_first.f (bt a0 0)).bind fun t106 => (chars_Head.j0 k a0 (!t106))) else (none))) = some r := h
 clear h
 have HS2 := Aside0.mk H
 clear H
 go_enter Try.func80, Try.ntmps80
 go_wp2
 refine wp_scope_loop 0 (by rfl) ?_
 have H := HS2.out
 clear HS2
 have HC3 := Aside0.mk H
 clear H
 go_upto_region 1 with (fail)
 go_cut [11] (fun v11 wc => ∃ (kq : Nat) (x11_2 : Bool), v11 = .bool x11_2 ∧ Aside0 (chars_Head.j0 kq a0 x11_2 = some r) ∧ Aside0 (kq ≤ k) ∧ Drawn0 w wc)
 case first =>
  have H := HC3.out
  clear HC3
  by_cases c4 : a0.toList = ([] : List UInt8)
  ·rw [if_pos c4] at H
   obtain ⟨c4b0, c4b1⟩ := eqT c4
   (try (have c4b2 : a0.toList.isEmpty = true := by simpa using c4))
   clear c4
   (first | rw [c4b0] | rw [c4b2] | (simp only [i64_w, i32_w]; rw [c4b0]) | skip)
   have H' := Aside0.mk H
   clear H
   go_wp2
   go_meet
   case rel => exact ⟨_, (true), cA, H', ⟨by first | omega | exact Nat.le_refl _⟩, by repeat (first | exact Drawn0.refl _ | apply Drawn0.step)⟩
  rw [if_neg c4] at H
  obtain ⟨c4b0, c4b1⟩ := eqF c4
  (try (have c4b2 : a0.toList.isEmpty = false := by simpa using c4))
  (first | rw [c4b0] | rw [c4b2] | (simp only [i64_w, i32_w]; rw [c4b0]) | skip)
  by_cases c5 : 0 < (a0.size : Int)
  rotate_left
  ·rw [if_neg c5] at H
   exact absurd H (by simp)
  rw [if_pos c5] at H
  have c5b0 := dT c5
  have c5b1 : decide (0 < a0.size) = true := decide_eq_true (by omega)
  clear c5
  replace H := bi H
  obtain ⟨t106, A70, H⟩ := H
  try dsimp only at H
  have A7 := Aside0.mk A70
  clear A70
  have H' := Aside0.mk H
  clear H
  have p6 : 0 ≤ (0 : Int) := (by omega)
  have q6 : 0 < a0.size := (by have : (0 : Int) < (a0.size : Int) := dA; omega)
  have hx6 : ∀ h : 0 < a0.size, ((a0[0]'h).toNat : Int) = bt a0 0 := bt_at a0 0
  clear p6
  have qi6 : (0 < (a0.size : Int)) = True := eq_true (dA)
  replace q6 := eq_true q6
  go_wp2_with (first | (go_at_call 92; (with_reducible refine (chars_first.calls (bt a0 0) t106 _ ?side1 A7.out).mono ?_); (case side1 => exact Glob.drawn HG.out (by repeat (first | exact Drawn0.refl _ | apply Drawn0.step))); rintro e w' ⟨rfl, ⟨nd, rfl⟩⟩))
  go_meet
  case rel => exact ⟨_, (!t106), cA, H', ⟨by first | omega | exact Nat.le_refl _⟩, by repeat (first | exact Drawn0.refl _ | apply Drawn0.step)⟩
 clear HC3
 try clear p2
 try clear c4
 try clear c4b0
 try clear c4b1
 try clear c4b2
 try clear c5
 try clear c5b0
 try clear c5b1
 try clear p6
 try clear q6
 try clear hx6
 try clear qi6
 try clear p6
 try clear q6
 obtain ⟨kq, x11_2, rfl, HA, HJ2, ⟨mc2, rfl⟩⟩ := hcut
 cases kq with
 | zero => exact absurd HA.out (by simp [chars_Head.j0])
 | succ kj2 =>
  have H := HA.out
  clear HA
  simp only [chars_Head.j0] at H
  (try simp only [toList_lit] at H)
  by_cases c8 : x11_2 = true
  ·subst c8
   have H1 : (some (⟨#[]⟩ : ByteArray)) = some r := by rw [if_pos rfl] at H; exact H
   clear H
   have H := H1
   clear H1
   obtain rfl := Option.some.inj H
   go_wp2
   (try simp only [Exit.inBlock, Exit.then, jump_ret])
   go_ret
   exact ⟨by first | rfl | (simp; done) | (simp [*]; done), by repeat (first | exact Drawn0.refl _ | apply Drawn0.step)⟩
  replace c8 := Bool.eq_false_iff.mpr c8
  subst c8
  have H1 : (chars_Head.l0 kj2 a0 1) = some r := by rw [if_neg (show ¬ (false = true) by decide)] at H; exact H
  clear H
  have H := H1
  clear H1
  have H' := Aside0.mk H
  clear H
  go_wp2
  refine wp_label ?_
  rename_i hlb
  refine hlb _ _ ?_
  refine wp_at_label ?_
  refine LoopAt.intro (fun aB_ kq_ a1 w1 => ∃ (u2 u3 u12 u13 u14 u15 u16 u17 u18 u19 u20 u21 u22 u23 u24 u25 u26 : Value), (fun kq v3 w' => ∃ (x3_2 : Int), v3 = .int .i64 x3_2 ∧ Aside0 (chars_Head.l0 kq a0 x3_2 = some r) ∧ Aside0 (kq ≤ kj2) ∧ Drawn0 w w') kq_ u3 w1 ∧ a1 = (((((((((((((((((aB_.put (some 2) u2).put (some 3) u3).put (some 12) u12).put (some 13) u13).put (some 14) u14).put (some 15) u15).put (some 16) u16).put (some 17) u17).put (some 18) u18).put (some 19) u19).put (some 20) u20).put (some 21) u21).put (some 22) u22).put (some 23) u23).put (some 24) u24).put (some 25) u25).put (some 26) u26)) kj2 ?_ ?_
  ·(repeat apply Exists.intro)
   (try simp only [Act.put, List.setIfInBounds_toArray, List.set_cons_zero, List.set_cons_succ])
   refine ⟨?_, rfl⟩
   exact ⟨(1), cA, H', ⟨Nat.le_refl _⟩, by repeat (first | exact Drawn0.refl _ | apply Drawn0.step)⟩
  ·intro gk a1 wr hinv
   obtain ⟨u2, u3, u12, u13, u14, u15, u16, u17, u18, u19, u20, u21, u22, u23, u24, u25, u26, hrel, ha⟩ := hinv
   subst ha
   (try simp only [Act.put, List.setIfInBounds_toArray, List.set_cons_zero, List.set_cons_succ])
   intro Js0 Ks0 hJs0 hKs0
   clear H'
   try clear c2
   try clear p2
   try clear c4
   try clear c4b0
   try clear c4b1
   try clear c4b2
   try clear c5
   try clear c5b0
   try clear c5b1
   try clear p6
   try clear q6
   try clear hx6
   try clear qi6
   try clear c8
   try clear p2
   try clear p6
   try clear q6
   obtain ⟨x3_2, rfl, HA, HK2, ⟨m2, rfl⟩⟩ := hrel
   cases gk with
   | zero => exact absurd HA.out (by simp [chars_Head.l0])
   | succ k2 =>
    have H := HA.out
    clear HA
    simp only [chars_Head.l0] at H
    by_cases c9 : x3_2 < (a0.size : Int)
    rotate_left
    ·rw [if_neg c9] at H
     have c9b0 := dF c9
     clear c9
     by_cases c16 : 0 ≤ x3_2
     rotate_left
     ·rw [if_neg c16] at H
      exact absurd H (by simp)
     rw [if_pos c16] at H
     have c16b0 := eq_true c16
     have c16b1 := dT c16
     clear c16
     by_cases c17 : x3_2 ≤ (a0.size : Int)
     rotate_left
     ·rw [if_neg c17] at H
      exact absurd H (by simp)
     rw [if_pos c17] at H
     have c17b0 := eq_true c17
     have c17b1 := dT c17
     clear c17
     obtain rfl := Option.some.inj H
     go_wp2
     (try simp only [Exit.inBlock, Exit.then, jump_ret])
     go_ret
     exact ⟨by first | rfl | (simp; done) | (simp [*]; done), by repeat (first | exact Drawn0.refl _ | apply Drawn0.step)⟩
    rw [if_pos c9] at H
    have c9b0 := dT c9
    clear c9
    by_cases c10 : 0 ≤ x3_2
    rotate_left
    ·rw [if_neg c10] at H
     exact absurd H (by simp)
    rw [if_pos c10] at H
    have c10b0 := dT c10
    clear c10
    replace H := bi H
    obtain ⟨t107, A120, H⟩ := H
    try dsimp only at H
    have A12 := Aside0.mk A120
    clear A120
    by_cases c13 : t107 = true
    ·subst c13
     have H1 : (chars_Head.l0 k2 a0 (wrap64 (x3_2 + 1))) = some r := by rw [if_pos rfl] at H; exact H
     clear H
     have H := H1
     clear H1
     have H' := Aside0.mk H
     clear H
     have p11 : 0 ≤ (x3_2 : Int) := dA
     have q11 : x3_2 < (a0.size : Int) := dA
     have hx11 := bt_at a0 x3_2
     replace p11 := eq_true p11
     replace q11 := eq_true q11
     go_wp2_with (first | (go_at_call 93; (with_reducible refine (chars_Within.calls (bt a0 x3_2) true _ ?side1 A12.out).mono ?_); (case side1 => exact Glob.drawn HG.out (by repeat (first | exact Drawn0.refl _ | apply Drawn0.step))); rintro e w' ⟨rfl, ⟨nd, rfl⟩⟩))
     refine wp_goto (And.intro rfl ?_)
     refine hKs0 _ _ ?_
     go_roundg k2
     case measure => have := HJ2.out; have := HK2.out; omega
     case rel => exact ⟨(wrap64 (x3_2 + 1)), cA, H', ⟨by have := HJ2.out; have := HK2.out; omega⟩, by repeat (first | exact Drawn0.refl _ | apply Drawn0.step)⟩
    replace c13 := Bool.eq_false_iff.mpr c13
    subst c13
    have H1 : (if x3_2 ≤ (a0.size : Int) then (some (a0.extract 0 (x3_2 : Int).toNat)) else (none)) = some r := by rw [if_neg (show ¬ (false = true) by decide)] at H; exact H
    clear H
    have H := H1
    clear H1
    have c14b0 := eq_true (dA : 0 ≤ x3_2)
    by_cases c15 : x3_2 ≤ (a0.size : Int)
    rotate_left
    ·rw [if_neg c15] at H
     exact absurd H (by simp)
    rw [if_pos c15] at H
    have c15b0 := eq_true c15
    have c15b1 := dT c15
    clear c15
    obtain rfl := Option.some.inj H
    have p11 : 0 ≤ (x3_2 : Int) := dA
    have q11 : x3_2 < (a0.size : Int) := dA
    have hx11 := bt_at a0 x3_2
    replace p11 := eq_true p11
    replace q11 := eq_true q11
    go_wp2_with (first | (go_at_call 93; (with_reducible refine (chars_Within.calls (bt a0 x3_2) false _ ?side1 A12.out).mono ?_); (case side1 => exact Glob.drawn HG.out (by repeat (first | exact Drawn0.refl _ | apply Drawn0.step))); rintro e w' ⟨rfl, ⟨nd, rfl⟩⟩))
    (try simp only [Exit.inBlock, Exit.then, jump_ret])
    go_ret
    exact ⟨by first | rfl | (simp; done) | (simp [*]; done), by repeat (first | exact Drawn0.refl _ | apply Drawn0.step)⟩
theorem first_f (c : UInt8) : chars_first.f (c.toNat : Int) = some (Tk.letter c) := Tk.bytes_all (by kernel_rfl) c
theorem within_f (c : UInt8) : chars_Within.f (c.toNat : Int) = some (Tk.within c) := Tk.bytes_all (by kernel_rfl) c
theorem bs_take (l : List UInt8) (i : Nat) : (Tk.bs l).extract 0 i = Tk.bs (l.take i) := by
 have : ((Tk.bs l).extract 0 i).data.toList = (Tk.bs (l.take i)).data.toList := by
  rw [Lib.extract_data]
  show (l.drop 0).take (i - 0) = l.take i
  rw [List.drop_zero, Nat.sub_zero]
 cases h1 : (Tk.bs l).extract 0 i with
 | mk d => rw [h1] at this; cases d; simp at this; subst this; rfl
theorem bs_toList (l : List UInt8) : (Tk.bs l).toList = l := Lib.toList_data _
theorem head_loop (c : UInt8) (r : List UInt8) (hl : r.length ≤ 1000000) : ∀ (d i : Nat), i + d = (r.takeWhile Tk.within).length → chars_Head.l0 (d + 1) (Tk.bs (c :: r)) ((i + 1 : Nat) : Int) = some (Tk.bs (c :: r.takeWhile Tk.within)) := by
 have hsz := bs_size (c :: r)
 rw [List.length_cons] at hsz
 have hle := tw_le (p := Tk.within) r
 have hfin : ∀ i, i = (r.takeWhile Tk.within).length → (Tk.bs (c :: r)).extract 0 (((i + 1 : Nat) : Int)).toNat = Tk.bs (c :: r.takeWhile Tk.within) := by
  intro i hi
  rw [Int.toNat_natCast, bs_take, hi, List.take_succ_cons]
  congr 2
  conv => lhs; arg 2; rw [← List.takeWhile_append_dropWhile (p := Tk.within) (l := r)]
  exact List.take_left
 intro d
 induction d with
 | zero =>
  intro i hi
  rw [Nat.add_zero] at hi
  rw [chars_Head.l0]
  by_cases hlt : i < r.length
  rotate_left
  ·rw [if_neg (by omega), if_pos (by omega), if_pos (by omega), hfin i hi]
  rw [if_pos (by omega), if_pos (by omega), bs_bt _ (i + 1) (by rw [List.length_cons]; omega), within_f]
  have hend := tw_end (p := Tk.within) (l := r) (by omega)
  have hq : Tk.within ((c :: r)[i + 1]'(by rw [List.length_cons]; omega)) = false := by
   rw [List.getElem_cons_succ]
   subst hi
   exact hend
  rw [hq, Option.bind_some, if_neg (by decide), if_pos (by omega), hfin i hi]
 | succ d ih =>
  intro i hi
  obtain ⟨hil, hw⟩ := tw_at (p := Tk.within) (l := r) (i := i) (by omega)
  rw [chars_Head.l0, if_pos (by omega), if_pos (by omega), bs_bt _ (i + 1) (by rw [List.length_cons]; omega), within_f]
  rw [show Tk.within ((c :: r)[i + 1]'(by rw [List.length_cons]; omega)) = true from by rw [List.getElem_cons_succ]; exact hw]
  rw [Option.bind_some, if_pos (show true = true from rfl)]
  have := ih (i + 1) (by omega)
  rw [show wrap64 (((i + 1 : Nat) : Int) + 1) = ((i + 1 + 1 : Nat) : Int) from by unfold wrap64; omega]
  exact this
theorem head_told (l : List UInt8) (hl : l.length ≤ 1000000) : ∃ k, chars_Head.f k (Tk.bs l) = some (Tk.bs (Tk.head l)) := by
 cases l with
 | nil => exact ⟨1, by kernel_rfl⟩
 | cons c r =>
  refine ⟨(r.takeWhile Tk.within).length + 2, ?_⟩
  rw [List.length_cons] at hl
  unfold chars_Head.f Tk.head
  rw [bs_toList, if_neg (by simp), bs_size, if_pos (by rw [List.length_cons]; omega)]
  rw [show (0 : Int) = ((0 : Nat) : Int) from rfl, bs_bt _ 0 (by simp), first_f]
  rw [Option.bind_some]
  show chars_Head.j0 _ _ (!Tk.letter c) = _
  rw [chars_Head.j0]
  by_cases hc : Tk.letter c = true
  ·rw [hc, if_neg (by decide)]
   show _ = some (Tk.bs (if Tk.letter c = true then _ else []))
   rw [if_pos hc]
   exact head_loop c r (by omega) (r.takeWhile Tk.within).length 0 (by omega)
  ·rw [Bool.eq_false_iff.2 hc, if_pos (by decide)]
   show _ = some (Tk.bs (if Tk.letter c = true then _ else []))
   rw [if_neg hc]; rfl
theorem head_pre (l : List UInt8) : Tk.head l = l.take (Tk.head l).length := by
 cases l with
 | nil => rfl
 | cons c r =>
  show (if Tk.letter c = true then c :: r.takeWhile Tk.within else []) = (c :: r).take (if Tk.letter c = true then c :: r.takeWhile Tk.within else []).length
  by_cases hc : Tk.letter c = true
  ·rw [if_pos hc, List.length_cons, List.take_succ_cons]
   congr 1
   conv => rhs; arg 2; rw [← List.takeWhile_append_dropWhile (p := Tk.within) (l := r)]
   exact List.take_left.symm
  ·rw [if_neg hc]; rfl
theorem head_le (l : List UInt8) : (Tk.head l).length ≤ l.length := by
 conv => lhs; rw [head_pre l]
 rw [List.length_take]; omega
theorem token_walk_name.callsK (B g : Nat) {ok : Nat → Prop} (l : List UInt8) (L : List S32) (w : World) (h : WalkAt w B g ok (Tk.bs l) L) (hG : Glob w) (hl : l.length ≤ 1000000) :
 Calls Try.prog 61 #[.pointer (some ⟨g, 0, none⟩)] w fun e w' => e = .returned (.string (Tk.bs (Tk.head l))) ∧ WalkAt w' B g ok (Tk.bs (l.drop (Tk.head l).length)) L ∧ Below B w w' ∧ KeepBut w w' g none := by
 obtain ⟨k, hk⟩ := head_told l hl
 have hle := head_le l
 have hB := h.ge
 have hsz := bs_size l
 have hsn := bs_size (Tk.head l)
 have hdr := bs_drop l (Tk.head l).length
 obtain ⟨s, hs⟩ : ∃ s, s = Tk.bs l := ⟨_, rfl⟩
 obtain ⟨nm, hnm⟩ : ∃ nm, nm = Tk.bs (Tk.head l) := ⟨_, rfl⟩
 rw [← hs] at hsz hdr h hk
 rw [← hnm] at hsn hk
 have c0 := h.cell0
 have f0 := h.frozen 0
 have HK := Aside0.mk hk
 have HS := Lib.hid hs
 have HNM := Lib.hid hnm
 have HDR := Lib.hid hdr
 have hle2 : (nm.size : Int) ≤ (s.size : Int) := by omega
 have p3 := eq_true hle2
 have p3' : decide ((nm.size : Int) ≤ (s.size : Int)) = true := decide_eq_true hle2
 have p4 : (nm.size ≤ s.size) = True := eq_true (by omega)
 have HSN := Lib.hid hsn
 have H := Aside0.mk h
 have HG := Aside0.mk hG
 clear hs hnm hdr hk hsz hsn h hle hG hle2
 go_enter Try.func61, Try.ntmps61
 go_wp2_with (first | (go_at_call 80; (with_reducible refine (chars_Head.calls k s nm _ HG.out HK.out).mono ?_); rintro e w1 ⟨rfl, ⟨nd, rfl⟩⟩))
 go_ret
 refine ⟨by rw [HNM.out]; rfl, ?_, ?_⟩
 ·have := (H.out.below (pw_below_drewN (Below.refl _ _) nd)).left (s.extract nm.size s.size)
  rw [← HDR.out, ← HSN.out]
  exact this
 ·exact ⟨(pw_below_drewN (Below.refl _ _) nd).setCell (p := ⟨g, 0, none⟩) hB _, (keep_drewN (KeepBut.refl _ _ _) nd).set_ 0 _⟩
theorem token_walk_name.calls (B g : Nat) {ok : Nat → Prop} (l : List UInt8) (L : List S32) (w : World) (h : WalkAt w B g ok (Tk.bs l) L) (hG : Glob w) (hl : l.length ≤ 1000000) :
 Calls Try.prog 61 #[.pointer (some ⟨g, 0, none⟩)] w fun e w' => e = .returned (.string (Tk.bs (Tk.head l))) ∧ WalkAt w' B g ok (Tk.bs (l.drop (Tk.head l).length)) L ∧ Below B w w' := (token_walk_name.callsK B g l L w h hG hl).mono fun e w' h => ⟨h.1, h.2.1, h.2.2.1⟩
theorem skip_len (l : List UInt8) : (Tk.skip l).length ≤ l.length := by
 rw [show Tk.skip l = l.drop (l.takeWhile Tk.space).length from dw_drop l, List.length_drop]; omega
theorem bs_none {l : List UInt8} (h : l = []) : (Tk.bs l).toList = [] := by rw [bs_toList, h]
theorem bs_some {l : List UInt8} (h : l ≠ []) : ((Tk.bs l).toList = []) = False ∧ (Tk.bs l).toList.isEmpty = false ∧ ((Tk.bs l).toList == []) = false ∧ ((Tk.bs l).toList != []) = true := by
 rw [bs_toList]
 refine ⟨eq_false h, ?_, ?_, ?_⟩ <;> cases l <;> first | exact absurd rfl h | rfl
theorem token_walk_end.yes (B g : Nat) {ok : Nat → Prop} (l r : List UInt8) (t : S32) (L : List S32) (w : World) (h : WalkAt w B g ok (Tk.bs l) L) (hG : Glob w) (hl : l.length ≤ 1000000) (hL : L.length ≤ 100000) (hok : ∀ k, w.heap.size ≤ k → ok k) (hx : Tk.close l = some (t, r)) :
 Calls Try.prog 43 #[.pointer (some ⟨g, 0, none⟩)] w fun e w' => e = .returned (.bool true) ∧ WalkAt w' B g ok (Tk.bs r) (L ++ [t]) ∧ Below B w w' := by
 unfold Tk.close at hx
 by_cases hh : Tk.head l = []
 ·rw [if_pos hh] at hx; cases hx
 rw [if_neg hh] at hx
 obtain ⟨b, hu, hx⟩ := Option.map_eq_some_iff.1 hx
 obtain ⟨rfl, rfl⟩ := Prod.mk.inj hx
 obtain ⟨e1, e2, e3, e4⟩ := bs_some hh
 have hpos := h.pos
 have hl1 : (l.drop (Tk.head l).length).length ≤ 1000000 := by rw [List.length_drop]; omega
 have H := Aside0.mk h
 have HG := Aside0.mk hG
 have HU := Aside0.mk hu
 clear h hG hu hx hh
 go_enter Try.func43, Try.ntmps43
 go_wp2_with (first | (go_at_call 61; refine (token_walk_name.callsK B g l L _ H.out HG.out hl).mono ?_; rintro e w1 ⟨rfl, h1, b1, k1⟩; have K1 := Aside0.mk k1; clear k1; have H1 := Aside0.mk h1; have B1 := Aside0.mk b1; have HG1 := Aside0.mk (HG.out.below b1 hpos); clear h1 b1) | (go_at_call 62; refine (token_walk_skip.callsK B g _ L _ H1.out HG1.out hl1).mono ?_; rintro e w2 ⟨rfl, h2, b2, k2⟩; have K2 := Aside0.mk k2; clear k2; have H2 := Aside0.mk h2; have B2 := Aside0.mk b2; clear h2 b2) | (go_at_call 39; refine (token_walk_eat.yesK B g _ [62] _ L _ H2.out HU.out).mono ?_; rintro e w3 ⟨rfl, h3, b3, k3⟩; have K3 := Aside0.mk k3; clear k3; have H3 := Aside0.mk h3; have B3 := Aside0.mk b3; clear h3 b3) | (go_at_call 60; refine (token_walk_put.calls B g (fun _ => False) _ L (Tk.tk 2 (Tk.head l) [] [] false) (.slice none 0 0) _ (H3.out.more (fun k _ hk => ⟨hk, fun h => h⟩)) (Kd.R_nil _ _ _ _ _) (fun _ h => h.elim) (fun k hk => hok k (Nat.le_trans (Nat.le_trans (Nat.le_trans K1.out.1 K2.out.1) K3.out.1) hk)) hL).mono ?_; rintro e w4 ⟨rfl, h4, b4⟩; have H4 := Aside0.mk h4; have B4 := Aside0.mk b4; clear h4 b4))
 go_ret
 exact ⟨rfl, H4.out, ((B1.out.trans B2.out).trans B3.out).trans B4.out⟩
theorem token_walk_end.no (B g : Nat) {ok : Nat → Prop} (l : List UInt8) (L : List S32) (w : World) (h : WalkAt w B g ok (Tk.bs l) L) (hG : Glob w) (hl : l.length ≤ 1000000) (hx : Tk.close l = none) :
 Calls Try.prog 43 #[.pointer (some ⟨g, 0, none⟩)] w fun e w' => e = .returned (.bool false) ∧ Below B w w' := by
 unfold Tk.close at hx
 have hpos := h.pos
 have hl1 : (l.drop (Tk.head l).length).length ≤ 1000000 := by rw [List.length_drop]; omega
 have H := Aside0.mk h
 have HG := Aside0.mk hG
 clear h hG
 by_cases hh : Tk.head l = []
 ·clear hx
  have e1 := bs_none hh
  clear hh
  go_enter Try.func43, Try.ntmps43
  go_wp2_with (first | (go_at_call 61; refine (token_walk_name.calls B g l L _ H.out HG.out hl).mono ?_; rintro e w1 ⟨rfl, h1, b1⟩; have H1 := Aside0.mk h1; have B1 := Aside0.mk b1; have HG1 := Aside0.mk (HG.out.below b1 hpos); clear h1 b1) | (go_at_call 62; refine (token_walk_skip.calls B g _ L _ H1.out HG1.out hl1).mono ?_; rintro e w2 ⟨rfl, h2, b2⟩; have H2 := Aside0.mk h2; have B2 := Aside0.mk b2; clear h2 b2))
  go_ret
  exact ⟨rfl, B1.out.trans B2.out⟩
 rw [if_neg hh] at hx
 have hu := Option.map_eq_none_iff.1 hx
 obtain ⟨e1, e2, e3, e4⟩ := bs_some hh
 have HU := Aside0.mk hu
 clear hx hu hh
 go_enter Try.func43, Try.ntmps43
 go_wp2_with (first | (go_at_call 61; refine (token_walk_name.calls B g l L _ H.out HG.out hl).mono ?_; rintro e w1 ⟨rfl, h1, b1⟩; have H1 := Aside0.mk h1; have B1 := Aside0.mk b1; have HG1 := Aside0.mk (HG.out.below b1 hpos); clear h1 b1) | (go_at_call 62; refine (token_walk_skip.calls B g _ L _ H1.out HG1.out hl1).mono ?_; rintro e w2 ⟨rfl, h2, b2⟩; have H2 := Aside0.mk h2; have B2 := Aside0.mk b2; clear h2 b2) | (go_at_call 39; refine (token_walk_eat.no B g _ [62] L _ H2.out HU.out).mono ?_; rintro e w3 ⟨rfl, h3, b3⟩; have B3 := Aside0.mk b3; clear h3 b3))
 go_ret
 exact ⟨rfl, (B1.out.trans B2.out).trans B3.out⟩
mutual
def token_digit.j0 : Nat → Int → Int → Int → Bool → Option (Int)
 | 0, _, _, _, _ => none
 | k + 1, x0, x1, x5, x12 => if x12 = true then (if (((x0 - 97) % 256) + 10) ≥ x1 then (some (-1)) else (some (((x0 - 97) % 256) + 10))) else (if x0 ≥ 65 then (token_digit.j1 k x0 x1 x5 (decide (x0 ≤ 70))) else (token_digit.j1 k x0 x1 x5 false))
def token_digit.j1 : Nat → Int → Int → Int → Bool → Option (Int)
 | 0, _, _, _, _ => none
 | k + 1, x0, x1, x5, x23 => if x23 = true then (if (((x0 - 65) % 256) + 10) ≥ x1 then (some (-1)) else (some (((x0 - 65) % 256) + 10))) else (if x5 ≥ x1 then (some (-1)) else (some x5))
end
def token_digit.f (k : Nat) (a0 : Int) (a1 : Int) : Option (Int) := (chars_Digit.f a0).bind fun t109 => (if t109 = true then (if ((a0 - 48) % 256) ≥ a1 then (some (-1)) else (some ((a0 - 48) % 256))) else (if a0 ≥ 97 then (token_digit.j0 k a0 a1 (-1) (decide (a0 ≤ 102))) else (token_digit.j0 k a0 a1 (-1) false)))
theorem token_digit.calls (k : Nat) (a0 : Int) (a1 : Int) (r : Int) (w : World) (hG : Glob w) (h : token_digit.f k a0 a1 = some r) :
 Calls Try.prog 74 #[.int .u8 a0, .int .i64 a1] w fun e w' => e = .returned (.int .i64 r) ∧ Drawn0 w w' := by
 have HG := Aside0.mk hG
 clear hG
 have H : ((chars_Digit.f a0).bind fun t109 => (if t109 = true then (if ((a0 - 48) % 256) ≥ a1 then (some (-1)) else (some ((a0 - 48) % 256))) else (if a0 ≥ 97 then (token_digit.j0 k a0 a1 (-1) (decide (a0 ≤ 102))) else (token_digit.j0 k a0 a1 (-1) false)))) = some r := h
 clear h
 replace H := bi H
 obtain ⟨t109, A30, H⟩ := H
 try dsimp only at H
 have A3 := Aside0.mk A30
 clear A30
 by_cases c4 : t109 = true
 ·subst c4
  have H1 : (if ((a0 - 48) % 256) ≥ a1 then (some (-1)) else (some ((a0 - 48) % 256))) = some r := by rw [if_pos rfl] at H; exact H
  clear H
  have H := H1
  clear H1
  by_cases c5 : ((a0 - 48) % 256) ≥ a1
  rotate_left
  ·rw [if_neg c5] at H
   have c5b0 := dF c5
   clear c5
   obtain rfl := Option.some.inj H
   go_enter Try.func74, Try.ntmps74
   go_wp2_with (first | (refine gl (some 8) Try.func91 #[.int .u8 a0] ?_; (with_reducible refine (chars_Digit.calls a0 true _ ?side1 A3.out).mono ?_); (case side1 => exact Glob.drawn HG.out (by repeat (first | exact Drawn0.refl _ | apply Drawn0.step))); rintro e w' ⟨rfl, ⟨nd, rfl⟩⟩; refine ⟨_, rfl, ?_⟩))
   go_ret
   exact ⟨by first | rfl | (simp; done) | (simp [*]; done), by repeat (first | exact Drawn0.refl _ | apply Drawn0.step)⟩
  rw [if_pos c5] at H
  have c5b0 := dT c5
  clear c5
  obtain rfl := Option.some.inj H
  go_enter Try.func74, Try.ntmps74
  go_wp2_with (first | (refine gl (some 8) Try.func91 #[.int .u8 a0] ?_; (with_reducible refine (chars_Digit.calls a0 true _ ?side1 A3.out).mono ?_); (case side1 => exact Glob.drawn HG.out (by repeat (first | exact Drawn0.refl _ | apply Drawn0.step))); rintro e w' ⟨rfl, ⟨nd, rfl⟩⟩; refine ⟨_, rfl, ?_⟩))
  go_ret
  exact ⟨by first | rfl | (simp; done) | (simp [*]; done), by repeat (first | exact Drawn0.refl _ | apply Drawn0.step)⟩
 replace c4 := Bool.eq_false_iff.mpr c4
 subst c4
 have H1 : (if a0 ≥ 97 then (token_digit.j0 k a0 a1 (-1) (decide (a0 ≤ 102))) else (token_digit.j0 k a0 a1 (-1) false)) = some r := by rw [if_neg (show ¬ (false = true) by decide)] at H; exact H
 clear H
 have H := H1
 clear H1
 have HC6 := Aside0.mk H
 clear H
 go_enter Try.func74, Try.ntmps74
 go_upto_region 4 with (first | (refine gl (some 8) Try.func91 #[.int .u8 a0] ?_; (with_reducible refine (chars_Digit.calls a0 false _ ?side1 A3.out).mono ?_); (case side1 => exact Glob.drawn HG.out (by repeat (first | exact Drawn0.refl _ | apply Drawn0.step))); rintro e w' ⟨rfl, ⟨nd, rfl⟩⟩; refine ⟨_, rfl, ?_⟩))
 (try simp only [Act.put, List.setIfInBounds_toArray, List.set_cons_zero, List.set_cons_succ])
 go_cut [12] (fun v12 wc => ∃ (kq : Nat) (x12_5 : Bool), v12 = .bool x12_5 ∧ Aside0 (token_digit.j0 kq a0 a1 (-1) x12_5 = some r) ∧ Aside0 (kq ≤ k) ∧ Drawn0 w wc)
 case first =>
  have H := HC6.out
  clear HC6
  by_cases c7 : a0 ≥ 97
  rotate_left
  ·rw [if_neg c7] at H
   have c7b0 := dF c7
   clear c7
   (first | rw [c7b0] | (simp only [i64_w, i32_w]; rw [c7b0]) | skip)
   have H' := Aside0.mk H
   clear H
   go_wp2
   go_meet
   case rel => exact ⟨_, (false), cA, H', ⟨by first | omega | exact Nat.le_refl _⟩, by repeat (first | exact Drawn0.refl _ | apply Drawn0.step)⟩
  rw [if_pos c7] at H
  have c7b0 := dT c7
  clear c7
  (first | rw [c7b0] | (simp only [i64_w, i32_w]; rw [c7b0]) | skip)
  have H' := Aside0.mk H
  clear H
  go_wp2
  go_meet
  case rel => exact ⟨_, (decide (a0 ≤ 102)), cA, H', ⟨by first | omega | exact Nat.le_refl _⟩, by repeat (first | exact Drawn0.refl _ | apply Drawn0.step)⟩
 clear HC6
 try clear p2
 try clear c4
 try clear c5
 try clear c5b0
 try clear c7
 try clear c7b0
 obtain ⟨kq, x12_5, rfl, HA, HJ5, ⟨mc5, rfl⟩⟩ := hcut
 cases kq with
 | zero => exact absurd HA.out (by simp [token_digit.j0])
 | succ kj5 =>
  have H := HA.out
  clear HA
  simp only [token_digit.j0] at H
  by_cases c8 : x12_5 = true
  ·subst c8
   have H1 : (if (((a0 - 97) % 256) + 10) ≥ a1 then (some (-1)) else (some (((a0 - 97) % 256) + 10))) = some r := by rw [if_pos rfl] at H; exact H
   clear H
   have H := H1
   clear H1
   by_cases c9 : (((a0 - 97) % 256) + 10) ≥ a1
   rotate_left
   ·rw [if_neg c9] at H
    have c9b0 := dF c9
    clear c9
    obtain rfl := Option.some.inj H
    go_wp2
    go_ret
    exact ⟨by first | rfl | (simp; done) | (simp [*]; done), by repeat (first | exact Drawn0.refl _ | apply Drawn0.step)⟩
   rw [if_pos c9] at H
   have c9b0 := dT c9
   clear c9
   obtain rfl := Option.some.inj H
   go_wp2
   go_ret
   exact ⟨by first | rfl | (simp; done) | (simp [*]; done), by repeat (first | exact Drawn0.refl _ | apply Drawn0.step)⟩
  replace c8 := Bool.eq_false_iff.mpr c8
  subst c8
  have H1 : (if a0 ≥ 65 then (token_digit.j1 kj5 a0 a1 (-1) (decide (a0 ≤ 70))) else (token_digit.j1 kj5 a0 a1 (-1) false)) = some r := by rw [if_neg (show ¬ (false = true) by decide)] at H; exact H
  clear H
  have H := H1
  clear H1
  have HC10 := Aside0.mk H
  clear H
  go_upto_region 6 with (fail)
  go_cut [23] (fun v23 wc => ∃ (kq : Nat) (x23_9 : Bool), v23 = .bool x23_9 ∧ Aside0 (token_digit.j1 kq a0 a1 (-1) x23_9 = some r) ∧ Aside0 (kq ≤ kj5) ∧ Drawn0 w wc)
  case first =>
   have H := HC10.out
   clear HC10
   by_cases c11 : a0 ≥ 65
   rotate_left
   ·rw [if_neg c11] at H
    have c11b0 := dF c11
    clear c11
    (first | rw [c11b0] | (simp only [i64_w, i32_w]; rw [c11b0]) | skip)
    have H' := Aside0.mk H
    clear H
    go_wp2
    go_meet
    case rel => exact ⟨_, (false), cA, H', ⟨by have := HJ5.out; first | omega | exact Nat.le_refl _⟩, by repeat (first | exact Drawn0.refl _ | apply Drawn0.step)⟩
   rw [if_pos c11] at H
   have c11b0 := dT c11
   clear c11
   (first | rw [c11b0] | (simp only [i64_w, i32_w]; rw [c11b0]) | skip)
   have H' := Aside0.mk H
   clear H
   go_wp2
   go_meet
   case rel => exact ⟨_, (decide (a0 ≤ 70)), cA, H', ⟨by have := HJ5.out; first | omega | exact Nat.le_refl _⟩, by repeat (first | exact Drawn0.refl _ | apply Drawn0.step)⟩
  clear HC10
  try clear c1
  try clear p2
  try clear c4
  try clear c5
  try clear c5b0
  try clear c7
  try clear c7b0
  try clear c8
  try clear c9
  try clear c9b0
  try clear c11
  try clear c11b0
  try clear p2
  obtain ⟨kq, x23_9, rfl, HA, HJ9, ⟨mc9, rfl⟩⟩ := hcut
  cases kq with
  | zero => exact absurd HA.out (by simp [token_digit.j1])
  | succ kj9 =>
   have H := HA.out
   clear HA
   simp only [token_digit.j1] at H
   by_cases c12 : x23_9 = true
   ·subst c12
    have H1 : (if (((a0 - 65) % 256) + 10) ≥ a1 then (some (-1)) else (some (((a0 - 65) % 256) + 10))) = some r := by rw [if_pos rfl] at H; exact H
    clear H
    have H := H1
    clear H1
    by_cases c13 : (((a0 - 65) % 256) + 10) ≥ a1
    rotate_left
    ·rw [if_neg c13] at H
     have c13b0 := dF c13
     clear c13
     obtain rfl := Option.some.inj H
     go_wp2
     go_ret
     exact ⟨by first | rfl | (simp; done) | (simp [*]; done), by repeat (first | exact Drawn0.refl _ | apply Drawn0.step)⟩
    rw [if_pos c13] at H
    have c13b0 := dT c13
    clear c13
    obtain rfl := Option.some.inj H
    go_wp2
    go_ret
    exact ⟨by first | rfl | (simp; done) | (simp [*]; done), by repeat (first | exact Drawn0.refl _ | apply Drawn0.step)⟩
   replace c12 := Bool.eq_false_iff.mpr c12
   subst c12
   have H1 : (if (-1) ≥ a1 then (some (-1)) else (some (-1))) = some r := by rw [if_neg (show ¬ (false = true) by decide)] at H; exact H
   clear H
   have H := H1
   clear H1
   by_cases c14 : (-1) ≥ a1
   rotate_left
   ·rw [if_neg c14] at H
    have c14b0 := dF c14
    clear c14
    obtain rfl := Option.some.inj H
    go_wp2
    go_ret
    exact ⟨by first | rfl | (simp; done) | (simp [*]; done), by repeat (first | exact Drawn0.refl _ | apply Drawn0.step)⟩
   rw [if_pos c14] at H
   have c14b0 := dT c14
   clear c14
   obtain rfl := Option.some.inj H
   go_wp2
   go_ret
   exact ⟨by first | rfl | (simp; done) | (simp [*]; done), by repeat (first | exact Drawn0.refl _ | apply Drawn0.step)⟩
def token_may.f (a0 : Int) : Option (Bool) := if a0 = 9 then (some true) else (if a0 = 10 then (some true) else (if a0 = 13 then (some true) else (if a0 ≥ 32 then (if a0 ≤ 1114111 then (if a0 < 55296 then (some true) else (some (decide (a0 > 57343)))) else (some false)) else (some false))))
theorem token_may.calls (a0 : Int) (r : Bool) (w : World) (hG : Glob w) (h : token_may.f a0 = some r) :
 Calls Try.prog 75 #[.int .i64 a0] w fun e w' => e = .returned (.bool r) ∧ Drawn0 w w' := by
 have HG := Aside0.mk hG
 clear hG
 have H : (if a0 = 9 then (some true) else (if a0 = 10 then (some true) else (if a0 = 13 then (some true) else (if a0 ≥ 32 then (if a0 ≤ 1114111 then (if a0 < 55296 then (some true) else (some (decide (a0 > 57343)))) else (some false)) else (some false))))) = some r := h
 clear h
 by_cases c2 : a0 = 9
 ·rw [if_pos c2] at H
  obtain ⟨c2b0, c2b1⟩ := eqT c2
  clear c2
  obtain rfl := Option.some.inj H
  go_enter Try.func75, Try.ntmps75
  go_wp2
  go_ret
  exact ⟨by first | rfl | (simp; done) | (simp [*]; done), by repeat (first | exact Drawn0.refl _ | apply Drawn0.step)⟩
 rw [if_neg c2] at H
 obtain ⟨c2b0, c2b1⟩ := eqF c2
 by_cases c3 : a0 = 10
 ·rw [if_pos c3] at H
  obtain ⟨c3b0, c3b1⟩ := eqT c3
  clear c3
  obtain rfl := Option.some.inj H
  go_enter Try.func75, Try.ntmps75
  go_wp2
  go_ret
  exact ⟨by first | rfl | (simp; done) | (simp [*]; done), by repeat (first | exact Drawn0.refl _ | apply Drawn0.step)⟩
 rw [if_neg c3] at H
 obtain ⟨c3b0, c3b1⟩ := eqF c3
 by_cases c4 : a0 = 13
 ·rw [if_pos c4] at H
  obtain ⟨c4b0, c4b1⟩ := eqT c4
  clear c4
  obtain rfl := Option.some.inj H
  go_enter Try.func75, Try.ntmps75
  go_wp2
  go_ret
  exact ⟨by first | rfl | (simp; done) | (simp [*]; done), by repeat (first | exact Drawn0.refl _ | apply Drawn0.step)⟩
 rw [if_neg c4] at H
 obtain ⟨c4b0, c4b1⟩ := eqF c4
 by_cases c5 : a0 ≥ 32
 rotate_left
 ·rw [if_neg c5] at H
  have c5b0 := dF c5
  clear c5
  obtain rfl := Option.some.inj H
  go_enter Try.func75, Try.ntmps75
  go_wp2
  go_ret
  exact ⟨by first | rfl | (simp; done) | (simp [*]; done), by repeat (first | exact Drawn0.refl _ | apply Drawn0.step)⟩
 rw [if_pos c5] at H
 have c5b0 := dT c5
 clear c5
 by_cases c6 : a0 ≤ 1114111
 rotate_left
 ·rw [if_neg c6] at H
  have c6b0 := dF c6
  clear c6
  obtain rfl := Option.some.inj H
  go_enter Try.func75, Try.ntmps75
  go_wp2
  go_ret
  exact ⟨by first | rfl | (simp; done) | (simp [*]; done), by repeat (first | exact Drawn0.refl _ | apply Drawn0.step)⟩
 rw [if_pos c6] at H
 have c6b0 := dT c6
 clear c6
 by_cases c7 : a0 < 55296
 rotate_left
 ·rw [if_neg c7] at H
  have c7b0 := dF c7
  clear c7
  obtain rfl := Option.some.inj H
  go_enter Try.func75, Try.ntmps75
  go_wp2
  go_ret
  exact ⟨by first | rfl | (simp; done) | (simp [*]; done), by repeat (first | exact Drawn0.refl _ | apply Drawn0.step)⟩
 rw [if_pos c7] at H
 have c7b0 := dT c7
 clear c7
 obtain rfl := Option.some.inj H
 go_enter Try.func75, Try.ntmps75
 go_wp2
 go_ret
 exact ⟨by first | rfl | (simp; done) | (simp [*]; done), by repeat (first | exact Drawn0.refl _ | apply Drawn0.step)⟩
def numB (base : Nat) (l : List UInt8) : List UInt8 × Bool := match Tk.numbered base l with
 | some c => (c, true)
 | none => ([], false)
theorem digit_16 (c : UInt8) : token_digit.f 3 (c.toNat : Int) 16 = some (match Tk.digitOf 16 c with | some n => (n : Int) | none => -1) := Tk.bytes_all (f := fun x => token_digit.f 3 x 16) (g := fun c => match Tk.digitOf 16 c with | some n => (n : Int) | none => -1) (by kernel_rfl) c
theorem digit_10 (c : UInt8) : token_digit.f 3 (c.toNat : Int) 10 = some (match Tk.digitOf 10 c with | some n => (n : Int) | none => -1) := Tk.bytes_all (f := fun x => token_digit.f 3 x 10) (g := fun c => match Tk.digitOf 10 c with | some n => (n : Int) | none => -1) (by kernel_rfl) c
theorem digitOf_lt {base : Nat} {c : UInt8} {n : Nat} (h : Tk.digitOf base c = some n) : n < base := by
 unfold Tk.digitOf at h
 obtain ⟨m, _, h⟩ := Option.bind_eq_some_iff.1 h
 split at h
 ·rename_i hm
  injection h with h
  omega
 ·cases h
theorem may_f (v : Nat) : token_may.f (v : Int) = some (Tk.may v) := by
 unfold token_may.f Tk.may
 by_cases h1 : v = 9
 ·subst h1; rfl
 by_cases h2 : v = 10
 ·subst h2; rfl
 by_cases h3 : v = 13
 ·subst h3; rfl
 rw [if_neg (by omega), if_neg (by omega), if_neg (by omega)]
 have e1 : (v == 9) = false := by simpa using h1
 have e2 : (v == 10) = false := by simpa using h2
 have e3 : (v == 13) = false := by simpa using h3
 rw [e1, e2, e3]
 by_cases h4 : 32 ≤ v
 rotate_left
 ·rw [if_neg (by omega), decide_eq_false h4]; rfl
 rw [if_pos (by omega), decide_eq_true h4]
 by_cases h5 : v ≤ 1114111
 rotate_left
 ·rw [if_neg (by omega), decide_eq_false h5]; rfl
 rw [if_pos (by omega), decide_eq_true h5]
 by_cases h6 : v < 55296
 ·rw [if_pos (by omega), decide_eq_true h6]; rfl
 ·rw [if_neg (by omega), decide_eq_false h6]
  simp only [Bool.false_or, Bool.true_and, Option.some.injEq]
  rw [Bool.eq_iff_iff]
  simp only [decide_eq_true_eq]
  omega
theorem number_drop {base v : Nat} {l : List UInt8} {i : Nat} (h : i < l.length) : Tk.number base v (l.drop i) = (Tk.digitOf base l[i]).bind fun d => Tk.number base (v * base + d) (l.drop (i + 1)) := by
 rw [List.drop_eq_getElem_cons h]; rfl
theorem number_end {base v : Nat} {l : List UInt8} : Tk.number base v (l.drop l.length) = some v := by
 rw [List.drop_length]; rfl
theorem numB_short {base : Nat} {l : List UInt8} (h : l = [] ∨ 6 < l.length) : numB base l = ([], false) := by
 unfold numB Tk.numbered
 rw [if_pos h]
theorem numB_none {base : Nat} {l : List UInt8} (h : Tk.number base 0 l = none) : numB base l = ([], false) := by
 have e : Tk.numbered base l = none := by
  unfold Tk.numbered
  split
  ·rfl
  ·rw [h]; rfl
 unfold numB
 rw [e]
theorem numB_may {base v : Nat} {l : List UInt8} (hs : ¬ (l = [] ∨ 6 < l.length)) (h : Tk.number base 0 l = some v) (hm : Tk.may v = true) : numB base l = ((Utf8.encode (v : Int)).data.toList, true) := by
 unfold numB Tk.numbered
 rw [if_neg hs, h, Option.bind_some, if_pos hm]
theorem numB_not {base v : Nat} {l : List UInt8} (hs : ¬ (l = [] ∨ 6 < l.length)) (h : Tk.number base 0 l = some v) (hm : Tk.may v = false) : numB base l = ([], false) := by
 unfold numB Tk.numbered
 rw [if_neg hs, h, Option.bind_some, if_neg (by rw [hm]; decide)]
theorem bs_data (a : ByteArray) : Tk.bs a.data.toList = a := by
 cases a with
 | mk d => rfl
theorem token_numbered.calls16 (l : List UInt8) (w : World) (hG : Glob w) :
 Calls Try.prog 54 #[.string (Tk.bs (120 :: l))] w fun e w' => e = .returned (.tuple #[.string (Tk.bs (numB 16 l).1), .bool (numB 16 l).2]) ∧ Drawn0 w w' := by
 have CP : ∀ W, Calls Try.prog 73 #[.string (Tk.bs (120 :: l)), .string (Tk.bs [120])] W fun e w' => e = .returned (.bool true) ∧ W = w' := by
  intro W
  refine (Try.strings_HasPrefix (Tk.bs (120 :: l)) (Tk.bs [120]) W).mono ?_
  rintro e w' ⟨rfl, rfl⟩
  exact ⟨by rw [show Lib.hasPrefix (Tk.bs (120 :: l)).data.toList (Tk.bs [120]).data.toList = true from by show List.isPrefixOf [120] (120 :: l) = true; simp [List.isPrefixOf]], rfl⟩
 have hdr := bs_drop (120 :: l) 1
 rw [List.drop_succ_cons, List.drop_zero] at hdr
 have hz0 := bs_size (120 :: l)
 rw [List.length_cons] at hz0
 obtain ⟨s0, hs0⟩ : ∃ s, s = Tk.bs (120 :: l) := ⟨_, rfl⟩
 rw [← hs0] at hdr hz0 CP ⊢
 have q1 : ((1 : Int) ≤ (s0.size : Int)) = True := eq_true (by omega)
 have q2 : (1 ≤ s0.size) = True := eq_true (by omega)
 clear hs0 hz0
 have hsz := bs_size l
 have hbt := bs_bt l
 have htl := bs_toList l
 obtain ⟨s, hs⟩ : ∃ s, s = Tk.bs l := ⟨_, rfl⟩
 rw [← hs] at hsz hbt htl hdr
 have HS := Lib.hid hs
 have HSZ := Lib.hid hsz
 have HBT := Lib.hid hbt
 have HG := Aside0.mk hG
 clear hs hbt hG
 by_cases hsh : l = [] ∨ 6 < l.length
 ·have HR := Lib.hid (numB_short (base := 16) hsh)
  by_cases hcase : l = []
  ·have e1 : s.toList = [] := by rw [htl]; exact hcase
   clear hcase hsh htl hsz
   go_enter Try.func54, Try.ntmps54
   go_wp2_with (first | (go_at_call 73; refine (CP _).mono ?_; rintro e w1 ⟨rfl, rfl⟩))
   go_quiet (fail)
   go_wp2
   go_ret2
   exact ⟨by rw [HR.out]; rfl, (Drawn0.refl _).step _⟩
  have e1 : (s.toList = []) = False := by rw [htl]; exact eq_false hcase
  have e2 : s.toList.isEmpty = false := by rw [htl]; cases l with | nil => exact absurd rfl hcase | cons _ _ => rfl
  have e3 : (s.toList == []) = false := by rw [htl]; cases l with | nil => exact absurd rfl hcase | cons _ _ => rfl
  have hgt : 6 < l.length := hsh.resolve_left hcase
  have e4 : decide ((6 : Int) < (s.size : Int)) = true := decide_eq_true (by omega)
  have e5 : decide (6 < s.size) = true := decide_eq_true (by omega)
  clear hcase hsh htl hsz hgt
  go_enter Try.func54, Try.ntmps54
  go_wp2_with (first | (go_at_call 73; refine (CP _).mono ?_; rintro e w1 ⟨rfl, rfl⟩))
  go_quiet (fail)
  go_wp2
  go_ret2
  exact ⟨by rw [HR.out]; rfl, (Drawn0.refl _).step _⟩
 have hne : l ≠ [] := fun h => hsh (.inl h)
 have h6 : l.length ≤ 6 := Nat.le_of_not_lt fun h => hsh (.inr h)
 have e1 : (s.toList = []) = False := by rw [htl]; exact eq_false hne
 have e2 : s.toList.isEmpty = false := by rw [htl]; cases l with | nil => exact absurd rfl hne | cons _ _ => rfl
 have e3 : (s.toList == []) = false := by rw [htl]; cases l with | nil => exact absurd rfl hne | cons _ _ => rfl
 have e4 : decide ((6 : Int) < (s.size : Int)) = false := decide_eq_false (by omega)
 have e5 : decide (6 < s.size) = false := decide_eq_false (by omega)
 have HSH := Lib.hid hsh
 clear hsh htl hsz hne
 go_enter Try.func54, Try.ntmps54
 go_wp2_with (first | (go_at_call 73; refine (CP _).mono ?_; rintro e w1 ⟨rfl, rfl⟩))
 go_quiet (fail)
 go_wp2
 go_loopg [5, 21] (l.length + 1) (fun gk v5 v21 w' => ∃ (i v : Nat) (x y : Int), i ≤ l.length ∧ i + gk = l.length + 1 ∧ v5 = .int .i64 y ∧ v21 = .int .i64 x ∧ Aside0 (x = (i : Int)) ∧ Aside0 (y = (v : Int)) ∧ Aside0 (v < 16 ^ i) ∧ Aside0 (Tk.number 16 v (l.drop i) = Tk.number 16 0 l) ∧ Aside0 (Drawn0 w w'))
 case atStart => exact ⟨0, 0, 0, 0, by omega, by omega, rfl, rfl, ⟨rfl⟩, ⟨rfl⟩, ⟨by decide⟩, ⟨by rw [List.drop_zero]⟩, ⟨(Drawn0.refl _).step _⟩⟩
 obtain ⟨i, v, x, y, hi, hgk, rfl, rfl, HX, HY, HV, HN, HD⟩ := hrel
 have hG1 : Glob wr := HG.out.drawn HD.out
 have hxi := HX.out
 have hyv := HY.out
 have hvb := HV.out
 have hsz := HSZ.out
 have hpw : 16 ^ i ≤ 16 ^ 6 := Nat.pow_le_pow_right (by decide) (by omega)
 have hpw2 : 16 ^ 6 ≤ 16777216 := by decide
 have HG1 := Aside0.mk hG1
 by_cases hlt : i < l.length
 rotate_left
 ·obtain rfl : i = l.length := by omega
  have d1 : decide (x < (s.size : Int)) = false := decide_eq_false (by omega)
  have hnum : Tk.number 16 0 l = some v := by rw [← HN.out, number_end]
  have hmf : token_may.f y = some (Tk.may v) := by rw [hyv, may_f]
  have hwi : IntKind.i32.wrap y = (v : Int) := by rw [i32_w]; unfold wrap32; omega
  have y0 : 0 ≤ y := by omega
  have y1 : y ≤ 16777216 := by omega
  cases hm : Tk.may v with
  | true =>
   have HR := Lib.hid (numB_may (base := 16) HSH.out hnum hm)
   have HM := Aside0.mk (hmf.trans (congrArg some hm))
   have HWI := Lib.hid hwi
   have HYV := Lib.hid hyv
   clear hmf hm hnum hxi hyv hvb hsz hpw hpw2 hG1 hwi
   go_wp2_with (first | (go_at_call 75; (with_reducible refine (token_may.calls y true _ HG1.out HM.out).mono ?_); rintro e w1 ⟨rfl, ⟨nd, rfl⟩⟩))
   go_ret2
   refine ⟨?_, HD.out.step nd⟩
   rw [HR.out, bs_data, ← HYV.out]; rfl
  | false =>
   have HR := Lib.hid (numB_not (base := 16) HSH.out hnum hm)
   have HM := Aside0.mk (hmf.trans (congrArg some hm))
   clear hmf hm hnum hxi hyv hvb hsz hpw hpw2 hG1 hwi
   go_wp2_with (first | (go_at_call 75; (with_reducible refine (token_may.calls y false _ HG1.out HM.out).mono ?_); rintro e w1 ⟨rfl, ⟨nd, rfl⟩⟩))
   go_ret2
   exact ⟨by rw [HR.out]; rfl, HD.out.step nd⟩
 obtain ⟨g1, rfl⟩ : ∃ g1, gk = g1 + 1 := ⟨gk - 1, by omega⟩
 have d1 : decide (x < (s.size : Int)) = true := decide_eq_true (by omega)
 have p1 := eq_true (show 0 ≤ x by omega)
 have p2 := eq_true (show x < (s.size : Int) by omega)
 have hx := bt_at s x
 have hbx : bt s x = ((l[i]'hlt).toNat : Int) := by rw [hxi, HBT.out i hlt]
 have hnd := number_drop (base := 16) (v := v) hlt
 cases hd : Tk.digitOf 16 (l[i]'hlt) with
 | none =>
  have hf : token_digit.f 3 (bt s x) 16 = some (-1) := by rw [hbx, digit_16, hd]
  have hno2 : Tk.number 16 0 l = none := by rw [← HN.out, hnd, hd]; rfl
  have HR := Lib.hid (numB_none (base := 16) hno2)
  have HF := Aside0.mk hf
  clear hf hno2 hnd hd hbx hxi hyv hvb hsz hpw hpw2 hG1
  go_wp2_with (first | (go_at_call 74; (with_reducible refine (token_digit.calls 3 (bt s x) 16 (-1) _ HG1.out HF.out).mono ?_); rintro e w1 ⟨rfl, ⟨nd, rfl⟩⟩))
  go_ret2
  exact ⟨by rw [HR.out]; rfl, HD.out.step nd⟩
 | some d =>
  have hdl := digitOf_lt hd
  obtain ⟨z, hz⟩ : ∃ z : Int, z = (d : Int) := ⟨_, rfl⟩
  have hf : token_digit.f 3 (bt s x) 16 = some z := by rw [hbx, digit_16, hd, hz]
  have z0 : decide (z < 0) = false := decide_eq_false (by omega)
  have HF := Aside0.mk hf
  have hw1 : wrap64 (x + 1) = ((i + 1 : Nat) : Int) := by unfold wrap64; omega
  have hw2 : wrap64 (wrap64 (y * 16) + z) = ((v * 16 + d : Nat) : Int) := by unfold wrap64; omega
  have hvn : v * 16 + d < 16 ^ (i + 1) := by rw [Nat.pow_succ]; omega
  have hnn : Tk.number 16 (v * 16 + d) (l.drop (i + 1)) = Tk.number 16 0 l := by rw [← HN.out, hnd, hd]; rfl
  have HW1 := Aside0.mk hw1
  have HW2 := Aside0.mk hw2
  have HVN := Aside0.mk hvn
  have HNN := Aside0.mk hnn
  clear hf hnd hd hbx hxi hyv hvb hsz hpw hpw2 hG1 hw1 hw2 hvn hnn hz hdl
  go_wp2_with (first | (go_at_call 74; (with_reducible refine (token_digit.calls 3 (bt s x) 16 z _ HG1.out HF.out).mono ?_); rintro e w1 ⟨rfl, ⟨nd, rfl⟩⟩))
  go_roundg g1
  case measure => omega
  case rel => exact ⟨i + 1, v * 16 + d, _, _, by omega, by omega, by first | rfl | (simp; done), by first | rfl | (simp; done), HW1, HW2, HVN, HNN, ⟨HD.out.step nd⟩⟩
theorem token_numbered.calls10 (l : List UInt8) (w : World) (hG : Glob w) (hno : Lib.hasPrefix l [120] = false) :
 Calls Try.prog 54 #[.string (Tk.bs l)] w fun e w' => e = .returned (.tuple #[.string (Tk.bs (numB 10 l).1), .bool (numB 10 l).2]) ∧ Drawn0 w w' := by
 have CP : ∀ W, Calls Try.prog 73 #[.string (Tk.bs l), .string (Tk.bs [120])] W fun e w' => e = .returned (.bool false) ∧ W = w' := by
  intro W
  refine (Try.strings_HasPrefix (Tk.bs l) (Tk.bs [120]) W).mono ?_
  rintro e w' ⟨rfl, rfl⟩
  exact ⟨by rw [show Lib.hasPrefix (Tk.bs l).data.toList (Tk.bs [120]).data.toList = false from hno], rfl⟩
 clear hno
 have hsz := bs_size l
 have hbt := bs_bt l
 have htl := bs_toList l
 obtain ⟨s, hs⟩ : ∃ s, s = Tk.bs l := ⟨_, rfl⟩
 rw [← hs] at hsz hbt htl CP ⊢
 have HS := Lib.hid hs
 have HSZ := Lib.hid hsz
 have HBT := Lib.hid hbt
 have HG := Aside0.mk hG
 clear hs hbt hG
 by_cases hsh : l = [] ∨ 6 < l.length
 ·have HR := Lib.hid (numB_short (base := 10) hsh)
  by_cases hcase : l = []
  ·have e1 : s.toList = [] := by rw [htl]; exact hcase
   clear hcase hsh htl hsz
   go_enter Try.func54, Try.ntmps54
   go_wp2_with (first | (go_at_call 73; refine (CP _).mono ?_; rintro e w1 ⟨rfl, rfl⟩))
   go_ret2
   exact ⟨by rw [HR.out]; rfl, Drawn0.refl _⟩
  have e1 : (s.toList = []) = False := by rw [htl]; exact eq_false hcase
  have e2 : s.toList.isEmpty = false := by rw [htl]; cases l with | nil => exact absurd rfl hcase | cons _ _ => rfl
  have e3 : (s.toList == []) = false := by rw [htl]; cases l with | nil => exact absurd rfl hcase | cons _ _ => rfl
  have hgt : 6 < l.length := hsh.resolve_left hcase
  have e4 : decide ((6 : Int) < (s.size : Int)) = true := decide_eq_true (by omega)
  have e5 : decide (6 < s.size) = true := decide_eq_true (by omega)
  clear hcase hsh htl hsz hgt
  go_enter Try.func54, Try.ntmps54
  go_wp2_with (first | (go_at_call 73; refine (CP _).mono ?_; rintro e w1 ⟨rfl, rfl⟩))
  go_ret2
  exact ⟨by rw [HR.out]; rfl, Drawn0.refl _⟩
 have hne : l ≠ [] := fun h => hsh (.inl h)
 have h6 : l.length ≤ 6 := Nat.le_of_not_lt fun h => hsh (.inr h)
 have e1 : (s.toList = []) = False := by rw [htl]; exact eq_false hne
 have e2 : s.toList.isEmpty = false := by rw [htl]; cases l with | nil => exact absurd rfl hne | cons _ _ => rfl
 have e3 : (s.toList == []) = false := by rw [htl]; cases l with | nil => exact absurd rfl hne | cons _ _ => rfl
 have e4 : decide ((6 : Int) < (s.size : Int)) = false := decide_eq_false (by omega)
 have e5 : decide (6 < s.size) = false := decide_eq_false (by omega)
 have HSH := Lib.hid hsh
 clear hsh htl hsz hne
 go_enter Try.func54, Try.ntmps54
 go_wp2_with (first | (go_at_call 73; refine (CP _).mono ?_; rintro e w1 ⟨rfl, rfl⟩))
 go_loopg [5, 21] (l.length + 1) (fun gk v5 v21 w' => ∃ (i v : Nat) (x y : Int), i ≤ l.length ∧ i + gk = l.length + 1 ∧ v5 = .int .i64 y ∧ v21 = .int .i64 x ∧ Aside0 (x = (i : Int)) ∧ Aside0 (y = (v : Int)) ∧ Aside0 (v < 10 ^ i) ∧ Aside0 (Tk.number 10 v (l.drop i) = Tk.number 10 0 l) ∧ Aside0 (Drawn0 w w'))
 case atStart => exact ⟨0, 0, 0, 0, by omega, by omega, rfl, rfl, ⟨rfl⟩, ⟨rfl⟩, ⟨by decide⟩, ⟨by rw [List.drop_zero]⟩, ⟨Drawn0.refl _⟩⟩
 obtain ⟨i, v, x, y, hi, hgk, rfl, rfl, HX, HY, HV, HN, HD⟩ := hrel
 have hG1 : Glob wr := HG.out.drawn HD.out
 have hxi := HX.out
 have hyv := HY.out
 have hvb := HV.out
 have hsz := HSZ.out
 have hpw : 10 ^ i ≤ 10 ^ 6 := Nat.pow_le_pow_right (by decide) (by omega)
 have hpw2 : 10 ^ 6 ≤ 16777216 := by decide
 have HG1 := Aside0.mk hG1
 by_cases hlt : i < l.length
 rotate_left
 ·obtain rfl : i = l.length := by omega
  have d1 : decide (x < (s.size : Int)) = false := decide_eq_false (by omega)
  have hnum : Tk.number 10 0 l = some v := by rw [← HN.out, number_end]
  have hmf : token_may.f y = some (Tk.may v) := by rw [hyv, may_f]
  have hwi : IntKind.i32.wrap y = (v : Int) := by rw [i32_w]; unfold wrap32; omega
  have y0 : 0 ≤ y := by omega
  have y1 : y ≤ 16777216 := by omega
  cases hm : Tk.may v with
  | true =>
   have HR := Lib.hid (numB_may (base := 10) HSH.out hnum hm)
   have HM := Aside0.mk (hmf.trans (congrArg some hm))
   have HWI := Lib.hid hwi
   have HYV := Lib.hid hyv
   clear hmf hm hnum hxi hyv hvb hsz hpw hpw2 hG1 hwi
   go_wp2_with (first | (go_at_call 75; (with_reducible refine (token_may.calls y true _ HG1.out HM.out).mono ?_); rintro e w1 ⟨rfl, ⟨nd, rfl⟩⟩))
   go_ret2
   refine ⟨?_, HD.out.step nd⟩
   rw [HR.out, bs_data, ← HYV.out]; rfl
  | false =>
   have HR := Lib.hid (numB_not (base := 10) HSH.out hnum hm)
   have HM := Aside0.mk (hmf.trans (congrArg some hm))
   clear hmf hm hnum hxi hyv hvb hsz hpw hpw2 hG1 hwi
   go_wp2_with (first | (go_at_call 75; (with_reducible refine (token_may.calls y false _ HG1.out HM.out).mono ?_); rintro e w1 ⟨rfl, ⟨nd, rfl⟩⟩))
   go_ret2
   exact ⟨by rw [HR.out]; rfl, HD.out.step nd⟩
 obtain ⟨g1, rfl⟩ : ∃ g1, gk = g1 + 1 := ⟨gk - 1, by omega⟩
 have d1 : decide (x < (s.size : Int)) = true := decide_eq_true (by omega)
 have p1 := eq_true (show 0 ≤ x by omega)
 have p2 := eq_true (show x < (s.size : Int) by omega)
 have hx := bt_at s x
 have hbx : bt s x = ((l[i]'hlt).toNat : Int) := by rw [hxi, HBT.out i hlt]
 have hnd := number_drop (base := 10) (v := v) hlt
 cases hd : Tk.digitOf 10 (l[i]'hlt) with
 | none =>
  have hf : token_digit.f 3 (bt s x) 10 = some (-1) := by rw [hbx, digit_10, hd]
  have hno2 : Tk.number 10 0 l = none := by rw [← HN.out, hnd, hd]; rfl
  have HR := Lib.hid (numB_none (base := 10) hno2)
  have HF := Aside0.mk hf
  clear hf hno2 hnd hd hbx hxi hyv hvb hsz hpw hpw2 hG1
  go_wp2_with (first | (go_at_call 74; (with_reducible refine (token_digit.calls 3 (bt s x) 10 (-1) _ HG1.out HF.out).mono ?_); rintro e w1 ⟨rfl, ⟨nd, rfl⟩⟩))
  go_ret2
  exact ⟨by rw [HR.out]; rfl, HD.out.step nd⟩
 | some d =>
  have hdl := digitOf_lt hd
  obtain ⟨z, hz⟩ : ∃ z : Int, z = (d : Int) := ⟨_, rfl⟩
  have hf : token_digit.f 3 (bt s x) 10 = some z := by rw [hbx, digit_10, hd, hz]
  have z0 : decide (z < 0) = false := decide_eq_false (by omega)
  have HF := Aside0.mk hf
  have hw1 : wrap64 (x + 1) = ((i + 1 : Nat) : Int) := by unfold wrap64; omega
  have hw2 : wrap64 (wrap64 (y * 10) + z) = ((v * 10 + d : Nat) : Int) := by unfold wrap64; omega
  have hvn : v * 10 + d < 10 ^ (i + 1) := by rw [Nat.pow_succ]; omega
  have hnn : Tk.number 10 (v * 10 + d) (l.drop (i + 1)) = Tk.number 10 0 l := by rw [← HN.out, hnd, hd]; rfl
  have HW1 := Aside0.mk hw1
  have HW2 := Aside0.mk hw2
  have HVN := Aside0.mk hvn
  have HNN := Aside0.mk hnn
  clear hf hnd hd hbx hxi hyv hvb hsz hpw hpw2 hG1 hw1 hw2 hvn hnn hz hdl
  go_wp2_with (first | (go_at_call 74; (with_reducible refine (token_digit.calls 3 (bt s x) 10 z _ HG1.out HF.out).mono ?_); rintro e w1 ⟨rfl, ⟨nd, rfl⟩⟩))
  go_roundg g1
  case measure => omega
  case rel => exact ⟨i + 1, v * 10 + d, _, _, by omega, by omega, by first | rfl | (simp; done), by first | rfl | (simp; done), HW1, HW2, HVN, HNN, ⟨HD.out.step nd⟩⟩
def token_named.f (a0 : ByteArray) : Option (ByteArray) := if a0.toList = ([108, 116] : List UInt8) then (some (⟨#[60]⟩ : ByteArray)) else (if a0.toList = ([103, 116] : List UInt8) then (some (⟨#[62]⟩ : ByteArray)) else (if a0.toList = ([97, 109, 112] : List UInt8) then (some (⟨#[38]⟩ : ByteArray)) else (if a0.toList = ([113, 117, 111, 116] : List UInt8) then (some (⟨#[34]⟩ : ByteArray)) else (if a0.toList = ([97, 112, 111, 115] : List UInt8) then (some (⟨#[39]⟩ : ByteArray)) else (some (⟨#[]⟩ : ByteArray))))))
theorem token_named.calls (a0 : ByteArray) (r : ByteArray) (w : World) (hG : Glob w) (h : token_named.f a0 = some r) :
 Calls Try.prog 55 #[.string a0] w fun e w' => e = .returned (.string r) ∧ Drawn0 w w' := by
 have HG := Aside0.mk hG
 clear hG
 have H : (if a0.toList = ([108, 116] : List UInt8) then (some (⟨#[60]⟩ : ByteArray)) else (if a0.toList = ([103, 116] : List UInt8) then (some (⟨#[62]⟩ : ByteArray)) else (if a0.toList = ([97, 109, 112] : List UInt8) then (some (⟨#[38]⟩ : ByteArray)) else (if a0.toList = ([113, 117, 111, 116] : List UInt8) then (some (⟨#[34]⟩ : ByteArray)) else (if a0.toList = ([97, 112, 111, 115] : List UInt8) then (some (⟨#[39]⟩ : ByteArray)) else (some (⟨#[]⟩ : ByteArray))))))) = some r := h
 clear h
 by_cases c2 : a0.toList = ([108, 116] : List UInt8)
 ·rw [if_pos c2] at H
  obtain ⟨c2b0, c2b1⟩ := eqT c2
  clear c2
  obtain rfl := Option.some.inj H
  go_enter Try.func55, Try.ntmps55
  go_wp2
  go_ret
  exact ⟨by first | rfl | (simp; done) | (simp [*]; done), by repeat (first | exact Drawn0.refl _ | apply Drawn0.step)⟩
 rw [if_neg c2] at H
 obtain ⟨c2b0, c2b1⟩ := eqF c2
 by_cases c3 : a0.toList = ([103, 116] : List UInt8)
 ·rw [if_pos c3] at H
  obtain ⟨c3b0, c3b1⟩ := eqT c3
  clear c3
  obtain rfl := Option.some.inj H
  go_enter Try.func55, Try.ntmps55
  go_wp2
  go_ret
  exact ⟨by first | rfl | (simp; done) | (simp [*]; done), by repeat (first | exact Drawn0.refl _ | apply Drawn0.step)⟩
 rw [if_neg c3] at H
 obtain ⟨c3b0, c3b1⟩ := eqF c3
 by_cases c4 : a0.toList = ([97, 109, 112] : List UInt8)
 ·rw [if_pos c4] at H
  obtain ⟨c4b0, c4b1⟩ := eqT c4
  clear c4
  obtain rfl := Option.some.inj H
  go_enter Try.func55, Try.ntmps55
  go_wp2
  go_ret
  exact ⟨by first | rfl | (simp; done) | (simp [*]; done), by repeat (first | exact Drawn0.refl _ | apply Drawn0.step)⟩
 rw [if_neg c4] at H
 obtain ⟨c4b0, c4b1⟩ := eqF c4
 by_cases c5 : a0.toList = ([113, 117, 111, 116] : List UInt8)
 ·rw [if_pos c5] at H
  obtain ⟨c5b0, c5b1⟩ := eqT c5
  clear c5
  obtain rfl := Option.some.inj H
  go_enter Try.func55, Try.ntmps55
  go_wp2
  go_ret
  exact ⟨by first | rfl | (simp; done) | (simp [*]; done), by repeat (first | exact Drawn0.refl _ | apply Drawn0.step)⟩
 rw [if_neg c5] at H
 obtain ⟨c5b0, c5b1⟩ := eqF c5
 by_cases c6 : a0.toList = ([97, 112, 111, 115] : List UInt8)
 rotate_left
 ·rw [if_neg c6] at H
  obtain ⟨c6b0, c6b1⟩ := eqF c6
  obtain rfl := Option.some.inj H
  go_enter Try.func55, Try.ntmps55
  go_wp2
  go_ret
  exact ⟨by first | rfl | (simp; done) | (simp [*]; done), by repeat (first | exact Drawn0.refl _ | apply Drawn0.step)⟩
 rw [if_pos c6] at H
 obtain ⟨c6b0, c6b1⟩ := eqT c6
 clear c6
 obtain rfl := Option.some.inj H
 go_enter Try.func55, Try.ntmps55
 go_wp2
 go_ret
 exact ⟨by first | rfl | (simp; done) | (simp [*]; done), by repeat (first | exact Drawn0.refl _ | apply Drawn0.step)⟩
def entV (l : List UInt8) : List UInt8 × Bool := match Tk.entity l with
 | some c => (c, true)
 | none => ([], false)
theorem entV_hash16 (l : List UInt8) : entV (35 :: 120 :: l) = numB 16 l := rfl
theorem entV_hash10 (l : List UInt8) (h : Lib.hasPrefix l [120] = false) : entV (35 :: l) = numB 10 l := by
 unfold entV numB
 have : Tk.entity (35 :: l) = Tk.numbered 10 l := by
  unfold Tk.entity
  split
  ·rename_i r heq
   injection heq with _ heq
   subst heq
   exact absurd h (by simp [Lib.hasPrefix, List.isPrefixOf])
  ·rename_i r _ heq
   injection heq with _ heq
   subst heq
   rfl
  ·rename_i h2
   exact absurd rfl (h2 l)
 rw [this]
 try rfl
theorem entV_named (l : List UInt8) (h : Lib.hasPrefix l [35] = false) : Tk.entity l = Tk.named l := by
 unfold Tk.entity
 split
 ·exact absurd h (by simp [Lib.hasPrefix, List.isPrefixOf])
 ·exact absurd h (by simp [Lib.hasPrefix, List.isPrefixOf])
 ·rfl
theorem named_f (l : List UInt8) : token_named.f (Tk.bs l) = some (Tk.bs (match Tk.named l with | some c => c | none => [])) := by
 unfold token_named.f Tk.named
 rw [bs_toList]
 by_cases h1 : l = [108, 116]
 ·rw [if_pos h1, if_pos h1]; rfl
 rw [if_neg h1, if_neg h1]
 by_cases h2 : l = [103, 116]
 ·rw [if_pos h2, if_pos h2]; rfl
 rw [if_neg h2, if_neg h2]
 by_cases h3 : l = [97, 109, 112]
 ·rw [if_pos h3, if_pos h3]; rfl
 rw [if_neg h3, if_neg h3]
 by_cases h4 : l = [113, 117, 111, 116]
 ·rw [if_pos h4, if_pos h4]; rfl
 rw [if_neg h4, if_neg h4]
 by_cases h5 : l = [97, 112, 111, 115]
 ·rw [if_pos h5, if_pos h5]; rfl
 rw [if_neg h5, if_neg h5]; rfl
theorem named_ne {l c : List UInt8} (h : Tk.named l = some c) : c ≠ [] ∧ c.length ≤ 4 := by
 unfold Tk.named at h
 repeat' split at h
 all_goals first | (injection h with h; subst h; exact ⟨by decide, by decide⟩) | cases h
theorem token_entity.calls (l : List UInt8) (w : World) (hG : Glob w) :
 Calls Try.prog 31 #[.string (Tk.bs l)] w fun e w' => e = .returned (.tuple #[.string (Tk.bs (entV l).1), .bool (entV l).2]) ∧ Drawn0 w w' := by
 by_cases h35 : Lib.hasPrefix l [35] = true
 ·obtain ⟨r, rfl⟩ : ∃ r, l = 35 :: r := by
   cases l with
   | nil => simp [Lib.hasPrefix, List.isPrefixOf] at h35
   | cons c r =>
    simp [Lib.hasPrefix, List.isPrefixOf] at h35
    exact ⟨r, by rw [← h35]⟩
  have C1 : ∀ W, Calls Try.prog 53 #[.string (Tk.bs (35 :: r)), .string (Tk.bs [35])] W fun e w' => e = .returned (.tuple #[.string (Tk.bs r), .bool true]) ∧ W = w' := by
   intro W
   refine (Try.strings_CutPrefix (Tk.bs (35 :: r)) (Tk.bs [35]) W).mono ?_
   rintro e w' ⟨rfl, rfl⟩
   refine ⟨?_, rfl⟩
   rw [show Lib.hasPrefix (Tk.bs (35 :: r)).data.toList (Tk.bs [35]).data.toList = true from h35]
   rw [show Lib.trimPrefix (Tk.bs (35 :: r)).data.toList (Tk.bs [35]).data.toList = r from by show Lib.trimPrefix (35 :: r) [35] = r; unfold Lib.trimPrefix; rw [if_pos h35]; rfl]
   rfl
  have C2 : ∀ W, Glob W → Calls Try.prog 54 #[.string (Tk.bs r)] W fun e w' => e = .returned (.tuple #[.string (Tk.bs (entV (35 :: r)).1), .bool (entV (35 :: r)).2]) ∧ Drawn0 W w' := by
   intro W hW
   by_cases h120 : Lib.hasPrefix r [120] = true
   rotate_left
   ·have h120' := Bool.eq_false_iff.2 h120
    rw [entV_hash10 r h120']
    exact token_numbered.calls10 r W hW h120'
   obtain ⟨q, rfl⟩ : ∃ q, r = 120 :: q := by
    cases r with
    | nil => simp [Lib.hasPrefix, List.isPrefixOf] at h120
    | cons c q =>
     simp [Lib.hasPrefix, List.isPrefixOf] at h120
     exact ⟨q, by rw [← h120]⟩
   exact token_numbered.calls16 q W hW
  obtain ⟨a, b, hab⟩ : ∃ a b, entV (35 :: r) = (a, b) := ⟨_, _, rfl⟩
  rw [hab] at C2
  have HR := Lib.hid hab
  have HG := Aside0.mk hG
  clear hab hG h35
  go_enter Try.func31, Try.ntmps31
  go_wp2_with (first | (go_at_call 53; refine (C1 _).mono ?_; rintro e w1 ⟨rfl, rfl⟩) | (go_at_call 54; refine (C2 _ HG.out).mono ?_; rintro e w2 ⟨rfl, ⟨nd, rfl⟩⟩))
  go_ret2
  exact ⟨by rw [HR.out]; rfl, (Drawn0.refl _).step _⟩
 have h35' := Bool.eq_false_iff.2 h35
 have C1 : ∀ W, Calls Try.prog 53 #[.string (Tk.bs l), .string (Tk.bs [35])] W fun e w' => e = .returned (.tuple #[.string (Tk.bs l), .bool false]) ∧ W = w' := by
  intro W
  refine (Try.strings_CutPrefix (Tk.bs l) (Tk.bs [35]) W).mono ?_
  rintro e w' ⟨rfl, rfl⟩
  refine ⟨?_, rfl⟩
  rw [show Lib.hasPrefix (Tk.bs l).data.toList (Tk.bs [35]).data.toList = false from h35']
  rw [show Lib.trimPrefix (Tk.bs l).data.toList (Tk.bs [35]).data.toList = l from by show Lib.trimPrefix l [35] = l; unfold Lib.trimPrefix; rw [if_neg h35]]
  rfl
 have hnm := named_f l
 have hen := entV_named l h35'
 have HG := Aside0.mk hG
 clear hG h35 h35'
 cases hn : Tk.named l with
 | none =>
  rw [hn] at hnm
  have hR : entV l = ([], false) := by unfold entV; rw [hen, hn]
  have HR := Lib.hid hR
  have HF := Aside0.mk hnm
  have e1 := bs_none (l := []) rfl
  clear hn hnm hen hR
  go_enter Try.func31, Try.ntmps31
  go_wp2_with (first | (go_at_call 53; refine (C1 _).mono ?_; rintro e w1 ⟨rfl, rfl⟩) | (go_at_call 55; refine (token_named.calls (Tk.bs l) _ _ HG.out HF.out).mono ?_; rintro e w2 ⟨rfl, ⟨nd, rfl⟩⟩))
  go_ret2
  exact ⟨by rw [HR.out]; rfl, (Drawn0.refl _).step _⟩
 | some c =>
  rw [hn] at hnm
  obtain ⟨hne, _⟩ := named_ne hn
  have hR : entV l = (c, true) := by unfold entV; rw [hen, hn]
  have HR := Lib.hid hR
  have HF := Aside0.mk hnm
  obtain ⟨e1, e2, e3, e4⟩ := bs_some hne
  clear hn hnm hen hR hne
  go_enter Try.func31, Try.ntmps31
  go_wp2_with (first | (go_at_call 53; refine (C1 _).mono ?_; rintro e w1 ⟨rfl, rfl⟩) | (go_at_call 55; refine (token_named.calls (Tk.bs l) _ _ HG.out HF.out).mono ?_; rintro e w2 ⟨rfl, ⟨nd, rfl⟩⟩))
  go_ret2
  exact ⟨by rw [HR.out]; rfl, (Drawn0.refl _).step _⟩
end Go.Proofs.Ytomikblbfappnaa.Q
namespace Go.Proofs.Ytomikblbfappnaa.Q
open Go.RowKit Go.Proofs.YtomikblbfappnaaW.PrintWords Go.Proofs.YtomikblbfappnaaW.PrintLast Go.Proofs.YtomikblbfappnaaW.Own Go.Proofs.YtomikblbfappnaaW.PrintMore
set_option linter.unusedVariables false
set_option linter.unusedSimpArgs false
namespace Bld
open Go Go.RowKit
theorem sizeB : (Try.prog.info? 63).map (fun i => i.size) = some 2 := by kernel_rfl
theorem liesB : liesAt Try.prog Try.prog.depth 63 (2 / Try.prog.cellsOf 63) 0 63 1 = true := by kernel_rfl
theorem infoByte : (Try.prog.info? 5).map (fun i => (i.zero, i.size, i.bytes)) = some (some (.int .u8 0), 1, 1) := by kernel_rfl
set_option maxHeartbeats 1000000 in
set_option maxRecDepth 100000 in
theorem copyCheck_used (b : Nat) (w : World) (h0 : w.cell? ⟨b, 0, none⟩ = some (.pointer (some ⟨b, 0, none⟩))) :
    Calls Try.prog 52 #[.pointer (some ⟨b, 0, none⟩)] w fun e w' => e = .returned (.tuple #[]) ∧ w' = w := by
  obtain ⟨j, hj, _⟩ := Option.map_eq_some_iff.1 sizeB
  go_enter Try.func52, Try.ntmps52
  go_wp2
  rw [Lib.run_neq_ptr_same w _ Try.underlying61 hj]
  go_wp2
  go_end0
  exact ⟨rfl, rfl⟩
set_option maxHeartbeats 1000000 in
set_option maxRecDepth 100000 in
theorem copyCheck_fresh (b : Nat) (w : World) (h0 : w.cell? ⟨b, 0, none⟩ = some (.pointer none)) (hsh : w.shape? b = some (63, 2)) (hfz : w.frozen? ⟨b, 0, none⟩ = false) :
    Calls Try.prog 52 #[.pointer (some ⟨b, 0, none⟩)] w fun e w' => e = .returned (.tuple #[]) ∧ w' = w.setCell ⟨b, 0, none⟩ (.pointer (some ⟨b, 0, none⟩)) := by
  obtain ⟨j, hj, hjs⟩ := Option.map_eq_some_iff.1 sizeB
  go_enter Try.func52, Try.ntmps52
  go_wp2
  rw [Lib.run_to_unsafe w ⟨b, 0, none⟩ Try.underlying61 Try.underlying90 hj (by rw [hjs]; decide) hsh (Nat.zero_lt_succ 1)]
  simp only [Result.andThen]
  rw [Oper.upon_value]
  go_wp2
  rw [run_callFunc_extern Try.func71 (by kernel_rfl) (by kernel_rfl) (by kernel_rfl) (e := Extern.AbiNoEscape.same) (by kernel_rfl)]
  rw [Lib.run_noEscape]
  simp only [Result.andThen]
  rw [Oper.upon_value]
  go_wp2
  rw [Lib.run_from_unsafe w ⟨b, 0, none⟩ Try.underlying90 Try.underlying61 hj hsh liesB]
  simp only [Result.andThen]
  rw [Oper.upon_value]
  go_wp2
  go_end0
  exact ⟨rfl, rfl⟩
theorem copyCheck (B b : Nat) (bs : List Value) (w : World) (h : Lib.IsBuilder 63 5 B b bs w) :
    Calls Try.prog 52 #[.pointer (some ⟨b, 0, none⟩)] w fun e w' => e = .returned (.tuple #[]) ∧ (Lib.BuilderAt 63 5 B b (.pointer (some ⟨b, 0, none⟩)) bs w' ∧ Below B w w') := by
  rcases h with h | h
  · refine (copyCheck_fresh b w h.cell0 h.shape h.frozen0).mono ?_
    rintro e w' ⟨rfl, rfl⟩
    exact ⟨rfl, h.used _, (Below.refl B w).setCell (p := ⟨b, 0, none⟩) h.1 _⟩
  · refine (copyCheck_used b w h.cell0).mono ?_
    rintro e w' ⟨rfl, rfl⟩
    exact ⟨rfl, h, Below.refl B _⟩
set_option maxHeartbeats 2000000 in
set_option maxRecDepth 100000 in
theorem WriteString (B b : Nat) (bs : List Value) (s : ByteArray) (w : World) (h : Lib.IsBuilder 63 5 B b bs w) (hlen : bs.length + s.size ≤ 140737488355328) (hBw : B ≤ w.heap.size) :
    Calls Try.prog 29 #[.pointer (some ⟨b, 0, none⟩), .string s] w fun e w' => e = .returned (.tuple #[.int .i64 s.size, .nilIface]) ∧ (Lib.BuilderAt 63 5 B b (.pointer (some ⟨b, 0, none⟩)) (bs ++ Lib.strCells s) w' ∧ Below B w w') := by
  obtain ⟨i0, hi, hz0, hz1, hz2⟩ := info_parts infoByte
  go_enter Try.func29, Try.ntmps29
  go_wp2_with (go_at_call 52; refine (copyCheck B b bs _ h).mono ?_)
  rintro e w1 ⟨rfl, h1, hb1⟩
  obtain ⟨hB, v, hbk, hown, hne⟩ := h1
  have c0 : w1.cell? ⟨b, 0, none⟩ = some (.pointer (some ⟨b, 0, none⟩)) := by rw [Lib.cell_of_heap hbk]; rfl
  have c1 : w1.cell? ⟨b, 1, none⟩ = some v := by rw [Lib.cell_of_heap hbk]; rfl
  go_wp2_with (at_builtin; refine Lib.wpList_append_own_string _ rfl _ _ 35 9 rfl B 5 i0 Try.underlying35 Try.underlying9 hi hz0 hz1 hz2 _ _ _ rfl hown s rfl ?c3 ?c4 ?c5 ?_)
  case c3 => unfold maxLen; omega
  case c4 => omega
  case c5 => have := hb1.size; omega
  intro v' w2 hown' hgrow _
  have hlt : b < w1.heap.size := by
    rcases Nat.lt_or_ge b w1.heap.size with h' | h'
    · exact h'
    · simp [Array.getElem?_eq_none h'] at hbk
  have hb2 : w2.heap[b]? = some (.cells #[.pointer (some ⟨b, 0, none⟩), v] 63 (0, 0)) := by
    rw [hgrow.block b hlt (fun e => hne e.symm)]
    exact hbk
  have d0 : w2.cell? ⟨b, 0, none⟩ = some (.pointer (some ⟨b, 0, none⟩)) := by rw [Lib.cell_of_heap hb2]; rfl
  have d1 : w2.cell? ⟨b, 1, none⟩ = some v := by rw [Lib.cell_of_heap hb2]; rfl
  have f1 : w2.frozen? ⟨b, 1, none⟩ = false := Lib.frozen_of_heap hb2 1
  obtain ⟨ao, n', cap, rfl⟩ : ∃ ao n' cap, v' = .slice ao n' cap := by
    rcases hown'.2 with ⟨hv, _⟩ | ⟨g, cap, cur, hv, _⟩
    · exact ⟨_, _, _, hv⟩
    · exact ⟨_, _, _, hv⟩
  go_wp2
  go_ret2
  refine ⟨rfl, ?_, ?_⟩
  · exact Lib.BuilderAt.put (T := 63) (e := 5) hB hb2 (bs' := bs ++ Lib.strCells s) (by simpa [Lib.strCells_length] using hown') (by decide)
  · exact (hb1.grown hgrow (by have := hb1.size; omega) (fun k hk => (hown.lt k hk).1)).setCell (p := ⟨b, 1, none⟩) hB _
def Holds (B b : Nat) (s : ByteArray) (w : World) : Prop := Lib.IsBuilder 63 5 B b (Lib.byteCells s.data.toList) w ∧ B ≤ w.heap.size
theorem byteCells_app (a b : ByteArray) : Lib.byteCells a.data.toList ++ Lib.strCells b = Lib.byteCells (a ++ b).data.toList := by
  simp [Lib.byteCells, Lib.strCells]
theorem at_below {B b : Nat} {p : Value} {bs : List Value} {w w1 : World} (h : Lib.BuilderAt 63 5 B b p bs w) (hb : Below w.heap.size w w1) : Lib.BuilderAt 63 5 B b p bs w1 := by
  have hlt := h.lt
  obtain ⟨hB, v, hk, ho, hne⟩ := h
  exact ⟨hB, v, by rw [hb.block b hlt]; exact hk, own_move ho (fun k hk => hb.block k (own_lt ho k hk)), hne⟩
theorem Holds.below {B b : Nat} {s : ByteArray} {w w1 : World} (h : Holds B b s w) (hb : Below w.heap.size w w1) : Holds B b s w1 :=
  ⟨h.1.imp (fun h => at_below h hb) (fun h => at_below h hb), Nat.le_trans h.2 hb.size⟩
theorem Holds.write {B b : Nat} {s t : ByteArray} {w : World} (h : Holds B b s w) (hlen : s.size + t.size ≤ 140737488355328) :
    Calls Try.prog 29 #[.pointer (some ⟨b, 0, none⟩), .string t] w fun e w' => e = .returned (.tuple #[.int .i64 t.size, .nilIface]) ∧ Holds B b (s ++ t) w' ∧ Below B w w' := by
  refine (WriteString B b _ t w h.1 (by rw [Lib.byteCells_length, Array.length_toList]; exact hlen) h.2).mono ?_
  rintro e w' ⟨he, h1, hb⟩
  refine ⟨he, ⟨?_, Nat.le_trans h.2 hb.size⟩, hb⟩
  rw [← byteCells_app]
  exact .inr h1
theorem Holds.string {B b : Nat} {s : ByteArray} {w : World} (h : Holds B b s w) :
    Calls Try.prog 30 #[.pointer (some ⟨b, 0, none⟩)] w fun e w' => e = .returned (.string s) ∧ Below B w w' :=
  (Try.Builder_String_any B b s.data.toList w h.1 h.2).mono fun e w' hh => ⟨by rw [hh.1], hh.2⟩
theorem Holds.fresh (w : World) : Holds w.heap.size w.heap.size ⟨#[]⟩ (w.alloc (.cells #[.pointer none, .slice none 0 0] 63)) :=
  ⟨.inl ⟨Nat.le_refl _, .slice none 0 0, by show (w.heap.push _)[w.heap.size]? = _; simp, ⟨by simp [Lib.byteCells], .inl ⟨rfl, rfl⟩⟩, by simp [Value.ownBlock]⟩, by simp⟩
end Bld
end Go.Proofs.Ytomikblbfappnaa.Q
namespace Go.Proofs.Ytomikblbfappnaa.Q
open Go.RowKit Go.Proofs.YtomikblbfappnaaW.PrintWords Go.Proofs.YtomikblbfappnaaW.PrintLast Go.Proofs.YtomikblbfappnaaW.Own Go.Proofs.YtomikblbfappnaaW.PrintMore
attribute [local go_sem] max2_int min2_int max_two min_two max_three min_three max_four min_four   -- for this text's walks alone
set_option linter.unusedVariables false
set_option linter.unusedSimpArgs false
set_option maxHeartbeats 20000000
set_option maxRecDepth 100000
def entsV (l : List UInt8) : List UInt8 × Int := match Tk.entities l with
 | some c => (c, 0)
 | none => ([], 5)
theorem entity_len {l c : List UInt8} (h : Tk.entity l = some c) : c.length ≤ 4 := by
 have hn : ∀ base r, Tk.numbered base r = some c → c.length ≤ 4 := by
  intro base r h
  unfold Tk.numbered at h
  split at h
  ·cases h
  ·obtain ⟨v, _, h⟩ := Option.bind_eq_some_iff.1 h
   split at h
   ·injection h with h
    rw [← h]
    have := encode_size_le (v : Int)
    rw [Lib.size_eq] at this
    exact this
   ·cases h
 unfold Tk.entity at h
 split at h
 ·exact hn _ _ h
 ·exact hn _ _ h
 ·exact (named_ne h).2
theorem upto_sum {x l a r : List UInt8} (h : Tk.upto x l = some (a, r)) : a.length + x.length + r.length = l.length := by
 unfold Tk.upto at h
 split at h
 ·rename_i h0
  injection h with h
  injection h with h1 h2
  have := Lib.index_room l x h0
  rw [← h1, ← h2, List.length_take, List.length_drop]
  omega
 ·cases h
theorem bs_append (a b : List UInt8) : Tk.bs a ++ Tk.bs b = Tk.bs (a ++ b) := by
 have : (Tk.bs a ++ Tk.bs b).data.toList = (Tk.bs (a ++ b)).data.toList := by simp [ByteArray.data_append, Tk.bs]
 rw [← bs_data (Tk.bs a ++ Tk.bs b), this]; rfl
theorem ents_none {n : Nat} {l : List UInt8} (h : Tk.upto [38] l = none) : Tk.ents (n + 1) l = some l := by
 rw [Tk.ents, h]
theorem ents_open {n : Nat} {l a b : List UInt8} (h : Tk.upto [38] l = some (a, b)) (h2 : Tk.upto [59] b = none) : Tk.ents (n + 1) l = none := by
 rw [Tk.ents, h]
 simp only [h2]
theorem ents_step {n : Nat} {l a b m r : List UInt8} (h : Tk.upto [38] l = some (a, b)) (h2 : Tk.upto [59] b = some (m, r)) : Tk.ents (n + 1) l = (Tk.entity m).bind fun c => (Tk.ents n r).map fun t => a ++ (c ++ t) := by
 rw [Tk.ents, h]
 simp only [h2]
theorem token_Entities.calls0 (l : List UInt8) (hl : l.length ≤ 1000000) (w : World) (hG : Glob w) :
 Calls Try.prog 14 #[.string (Tk.bs l)] w fun e w' => e = .returned (.tuple #[.string (Tk.bs (entsV l).1), .int .i64 (entsV l).2]) ∧ Below w.heap.size w w' := by
 have hpos := hG.lt
 have HG := Aside0.mk hG
 clear hG
 have hub := Try.underlying63
 go_enter Try.func14, Try.ntmps14
 go_wp2_with (fail)
 have HF := Aside0.mk (Bld.Holds.fresh w)
 have HB0 := Aside0.mk ((Below.refl w.heap.size w).alloc (Nat.le_refl _) (.cells #[.pointer none, .slice none 0 0] 63))
 generalize w.alloc _ = wi at *
 go_loopg [0] (l.length + 1) (fun gk v0 w' => ∃ (m d : List UInt8), v0 = .string (Tk.bs m) ∧ m.length < gk ∧ Aside0 (d.length + 4 * m.length ≤ 4 * l.length) ∧ Aside0 (Tk.entities l = (Tk.ents gk m).map fun t => d ++ t) ∧ Aside0 (Bld.Holds w.heap.size w.heap.size (Tk.bs d) w') ∧ Aside0 (Below w.heap.size w w'))
 case atStart => exact ⟨l, [], rfl, by omega, ⟨by simp⟩, ⟨by unfold Tk.entities; simp⟩, HF, HB0⟩
 clear HF HB0
 obtain ⟨m, d, rfl, hlt, HD, HE, HH, HB⟩ := hrel
 obtain ⟨g1, rfl⟩ : ∃ g1, gk = g1 + 1 := ⟨gk - 1, by omega⟩
 have hG1 : Glob wr := HG.out.below HB.out hpos
 have HG1 := Aside0.mk hG1
 have hd := HD.out
 have hms : (Tk.bs m).size < 4294967281 := by rw [bs_size]; omega
 cases hu : Tk.upto [38] m with
 | none =>
  have C1 : ∀ W, Glob W → Calls Try.prog 28 #[.string (Tk.bs m), .string (⟨#[38]⟩ : ByteArray)] W fun e w' => e = .returned (.tuple #[.string (Tk.bs m), .string (Tk.bs []), .bool false]) ∧ Below W.heap.size W w' := by
   intro W hW
   obtain ⟨q, hq⟩ := hW
   refine (Try.strings_Cut (Tk.bs m) (Tk.bs [38]) q W hms hq).mono ?_
   rintro e w' ⟨rfl, nd, rfl⟩
   refine ⟨?_, pw_below_drewN (Below.refl _ _) nd⟩
   rw [show Lib.cut (Tk.bs m).data.toList (Tk.bs [38]).data.toList = (m, [], false) from upto_none hu]
   rfl
  have hR : entsV l = (d ++ m, 0) := by unfold entsV; rw [HE.out, ents_none hu]; rfl
  have HR := Lib.hid hR
  have hsz : (Tk.bs d).size + (Tk.bs m).size ≤ 140737488355328 := by rw [bs_size, bs_size]; omega
  have HSZ := Lib.hid hsz
  clear hu hms hd hR hG1 hsz
  go_wp2_with (first | (go_at_call 28; (with_reducible refine (C1 _ HG1.out).mono ?_); rintro e w1 ⟨rfl, b1⟩; have B1 := Aside0.mk b1; clear b1) | (go_at_call 29; (with_reducible refine ((HH.out.below B1.out).write HSZ.out).mono ?_); rintro e w2 ⟨rfl, h2, b2⟩; have H2 := Aside0.mk h2; have B2 := Aside0.mk b2; clear h2 b2) | (go_at_call 30; (with_reducible refine H2.out.string.mono ?_); rintro e w3 ⟨rfl, b3⟩; have B3 := Aside0.mk b3; clear b3))
  go_ret2
  refine ⟨?_, ((below_step HB.out B1.out).trans B2.out).trans B3.out⟩
  rw [HR.out, ← bs_append]; rfl
 | some p =>
  obtain ⟨a, b⟩ := p
  have hsm := upto_sum hu
  have hsa : (Tk.bs d).size + (Tk.bs a).size ≤ 140737488355328 := by rw [bs_size, bs_size]; omega
  have hbs : (Tk.bs b).size < 4294967281 := by rw [bs_size]; omega
  have C1 : ∀ W, Glob W → Calls Try.prog 28 #[.string (Tk.bs m), .string (⟨#[38]⟩ : ByteArray)] W fun e w' => e = .returned (.tuple #[.string (Tk.bs a), .string (Tk.bs b), .bool true]) ∧ Below W.heap.size W w' := by
   intro W hW
   obtain ⟨q, hq⟩ := hW
   refine (Try.strings_Cut (Tk.bs m) (Tk.bs [38]) q W hms hq).mono ?_
   rintro e w' ⟨rfl, nd, rfl⟩
   refine ⟨?_, pw_below_drewN (Below.refl _ _) nd⟩
   rw [show Lib.cut (Tk.bs m).data.toList (Tk.bs [38]).data.toList = (a, b, true) from upto_some hu]
   rfl
  have HSA := Lib.hid hsa
  cases hu2 : Tk.upto [59] b with
  | none =>
   have C2 : ∀ W, Glob W → Calls Try.prog 28 #[.string (Tk.bs b), .string (⟨#[59]⟩ : ByteArray)] W fun e w' => e = .returned (.tuple #[.string (Tk.bs b), .string (Tk.bs []), .bool false]) ∧ Below W.heap.size W w' := by
    intro W hW
    obtain ⟨q, hq⟩ := hW
    refine (Try.strings_Cut (Tk.bs b) (Tk.bs [59]) q W hbs hq).mono ?_
    rintro e w' ⟨rfl, nd, rfl⟩
    refine ⟨?_, pw_below_drewN (Below.refl _ _) nd⟩
    rw [show Lib.cut (Tk.bs b).data.toList (Tk.bs [59]).data.toList = (b, [], false) from upto_none hu2]
    rfl
   have hR : entsV l = ([], 5) := by unfold entsV; rw [HE.out, ents_open hu hu2]; rfl
   have HR := Lib.hid hR
   clear hu hu2 hms hd hR hG1 hsa hbs hsm
   go_wp2_with (first | (go_at_call 28; (with_reducible refine (C1 _ HG1.out).mono ?_); rintro e w1 ⟨rfl, b1⟩; have B1 := Aside0.mk b1; clear b1) | (go_at_call 29; (with_reducible refine ((HH.out.below B1.out).write HSA.out).mono ?_); rintro e w2 ⟨rfl, h2, b2⟩; have H2 := Aside0.mk h2; have B2 := Aside0.mk b2; have HG2 := Aside0.mk (HG.out.below ((below_step HB.out B1.out).trans b2) hpos); clear h2 b2) | (go_at_call 28; (with_reducible refine (C2 _ HG2.out).mono ?_); rintro e w4 ⟨rfl, b4⟩; have B4 := Aside0.mk b4; have HG4 := Aside0.mk (HG2.out.step b4); clear b4) | (go_at_call 31; (with_reducible refine (token_entity.calls b _ HG4.out).mono ?_); rintro e w5 ⟨rfl, d5⟩; have B5 := Aside0.mk d5.below; clear d5))
   go_ret2
   exact ⟨by rw [HR.out]; rfl, below_step (below_step ((below_step HB.out B1.out).trans B2.out) B4.out) B5.out⟩
  | some p2 =>
   obtain ⟨nm, r⟩ := p2
   have hsm2 := upto_sum hu2
   have C2 : ∀ W, Glob W → Calls Try.prog 28 #[.string (Tk.bs b), .string (⟨#[59]⟩ : ByteArray)] W fun e w' => e = .returned (.tuple #[.string (Tk.bs nm), .string (Tk.bs r), .bool true]) ∧ Below W.heap.size W w' := by
    intro W hW
    obtain ⟨q, hq⟩ := hW
    refine (Try.strings_Cut (Tk.bs b) (Tk.bs [59]) q W hbs hq).mono ?_
    rintro e w' ⟨rfl, nd, rfl⟩
    refine ⟨?_, pw_below_drewN (Below.refl _ _) nd⟩
    rw [show Lib.cut (Tk.bs b).data.toList (Tk.bs [59]).data.toList = (nm, r, true) from upto_some hu2]
    rfl
   have hst := ents_step (n := g1) hu hu2
   have CE := token_entity.calls nm
   cases hen : Tk.entity nm with
   | none =>
    have hv : entV nm = ([], false) := by unfold entV; rw [hen]
    rw [hv] at CE
    have hR : entsV l = ([], 5) := by unfold entsV; rw [HE.out, hst, hen]; rfl
    have HR := Lib.hid hR
    clear hu hu2 hms hd hR hG1 hsa hbs hsm hsm2 hst hen hv
    go_wp2_with (first | (go_at_call 28; (with_reducible refine (C1 _ HG1.out).mono ?_); rintro e w1 ⟨rfl, b1⟩; have B1 := Aside0.mk b1; clear b1) | (go_at_call 29; (with_reducible refine ((HH.out.below B1.out).write HSA.out).mono ?_); rintro e w2 ⟨rfl, h2, b2⟩; have H2 := Aside0.mk h2; have B2 := Aside0.mk b2; have HG2 := Aside0.mk (HG.out.below ((below_step HB.out B1.out).trans b2) hpos); clear h2 b2) | (go_at_call 28; (with_reducible refine (C2 _ HG2.out).mono ?_); rintro e w4 ⟨rfl, b4⟩; have B4 := Aside0.mk b4; have HG4 := Aside0.mk (HG2.out.step b4); clear b4) | (go_at_call 31; (with_reducible refine (CE _ HG4.out).mono ?_); rintro e w5 ⟨rfl, d5⟩; have B5 := Aside0.mk d5.below; clear d5))
    go_ret2
    exact ⟨by rw [HR.out]; rfl, below_step (below_step ((below_step HB.out B1.out).trans B2.out) B4.out) B5.out⟩
   | some c =>
    have hv : entV nm = (c, true) := by unfold entV; rw [hen]
    rw [hv] at CE
    have hcl := entity_len hen
    have hsc : (Tk.bs d ++ Tk.bs a).size + (Tk.bs c).size ≤ 140737488355328 := by rw [ByteArray.size_append, bs_size, bs_size, bs_size]; omega
    have HSC := Lib.hid hsc
    have hn1 : r.length < g1 := by simp only [List.length_cons, List.length_nil] at hsm hsm2; omega
    have hd1 : (d ++ (a ++ c)).length + 4 * r.length ≤ 4 * l.length := by simp only [List.length_cons, List.length_nil, List.length_append] at hsm hsm2 ⊢; omega
    have hE1 : Tk.entities l = (Tk.ents g1 r).map fun t => (d ++ (a ++ c)) ++ t := by
     rw [HE.out, hst, hen]
     cases Tk.ents g1 r with
     | none => rfl
     | some t => simp
    have HD1 := Aside0.mk hd1
    have HE1 := Aside0.mk hE1
    clear hu hu2 hms hd hG1 hsa hbs hsm hsm2 hst hen hv hsc hd1 hE1 hcl
    go_wp2_with (first | (go_at_call 28; (with_reducible refine (C1 _ HG1.out).mono ?_); rintro e w1 ⟨rfl, b1⟩; have B1 := Aside0.mk b1; clear b1) | (go_at_call 29; (with_reducible refine ((HH.out.below B1.out).write HSA.out).mono ?_); rintro e w2 ⟨rfl, h2, b2⟩; have H2 := Aside0.mk h2; have B2 := Aside0.mk b2; have HG2 := Aside0.mk (HG.out.below ((below_step HB.out B1.out).trans b2) hpos); clear h2 b2) | (go_at_call 28; (with_reducible refine (C2 _ HG2.out).mono ?_); rintro e w4 ⟨rfl, b4⟩; have B4 := Aside0.mk b4; have HG4 := Aside0.mk (HG2.out.step b4); clear b4) | (go_at_call 31; (with_reducible refine (CE _ HG4.out).mono ?_); rintro e w5 ⟨rfl, d5⟩; have B5 := Aside0.mk d5.below; clear d5) | (go_at_call 29; (with_reducible refine (((H2.out.below B4.out).below B5.out).write HSC.out).mono ?_); rintro e w6 ⟨rfl, h6, b6⟩; have H6 := Aside0.mk h6; have B6 := Aside0.mk b6; clear h6 b6))
    go_roundg g1
    case measure => omega
    case rel =>
     refine ⟨r, d ++ (a ++ c), by first | rfl | (simp; done), hn1, HD1, HE1, ?_, ?_⟩
     ·refine ⟨?_⟩
      have := H6.out
      rw [bs_append, bs_append, List.append_assoc] at this
      exact this
     ·exact ⟨(below_step (below_step ((below_step HB.out B1.out).trans B2.out) B4.out) B5.out).trans B6.out⟩
theorem behind_len {x l r : List UInt8} (h : Tk.behind x l = some r) : r.length ≤ l.length := by
 unfold Tk.behind at h
 split at h
 ·injection h with h
  rw [← h, List.length_drop]; omega
 ·cases h
theorem pre_f {l : List UInt8} {x : List UInt8} {b : Bool} (h : x.isPrefixOf l = b) (W : World) : Calls Try.prog 73 #[.string (Tk.bs l), .string (Tk.bs x)] W fun e w' => e = .returned (.bool b) ∧ W = w' := by
 refine (Try.strings_HasPrefix (Tk.bs l) (Tk.bs x) W).mono ?_
 rintro e w' ⟨rfl, rfl⟩
 exact ⟨by rw [show Lib.hasPrefix (Tk.bs l).data.toList (Tk.bs x).data.toList = b from h], rfl⟩
theorem con_f {l : List UInt8} {x : List UInt8} {b : Bool} (h : Lib.contains l x = b) (hl : l.length ≤ 1000000) (W : World) (hG : Glob W) : Calls Try.prog 58 #[.string (Tk.bs l), .string (Tk.bs x)] W fun e w' => e = .returned (.bool b) ∧ W = w' := by
 obtain ⟨m, hm⟩ := hG
 refine (Try.strings_Contains (Tk.bs l) (Tk.bs x) m W (by rw [bs_size]; omega) hm).mono ?_
 rintro e w' ⟨rfl, rfl⟩
 exact ⟨by rw [show Lib.contains (Tk.bs l).data.toList (Tk.bs x).data.toList = b from h], rfl⟩
theorem ent_f {l : List UInt8} {x : List UInt8 × Int} (h : entsV l = x) (hl : l.length ≤ 1000000) (W : World) (hG : Glob W) : Calls Try.prog 14 #[.string (Tk.bs l)] W fun e w' => e = .returned (.tuple #[.string (Tk.bs x.1), .int .i64 x.2]) ∧ Below W.heap.size W w' := by
 rw [← h]
 exact token_Entities.calls0 l hl W hG
theorem token_walk_value.yes34 (B g : Nat) {ok : Nat → Prop} (l r1 a r v : List UInt8) (L : List S32) (w : World) (h : WalkAt w B g ok (Tk.bs l) L) (hG : Glob w) (hl : l.length ≤ 1000000) (hp : [34].isPrefixOf l = true) (he : Tk.behind [34] l = some r1) (hu : Tk.upto [34] r1 = some (a, r)) (hc : Lib.contains a [60] = false) (hv : entsV a = (v, 0)) :
 Calls Try.prog 81 #[.pointer (some ⟨g, 0, none⟩)] w fun e w' => e = .returned (.tuple #[.string (Tk.bs v), .bool true]) ∧ WalkAt w' B g ok (Tk.bs r) L ∧ Below B w w' ∧ KeepBut w w' g none := by
 have hpos := h.pos
 have hsz := h.size
 have c0 := h.cell0
 have hl1 : r1.length ≤ 1000000 := Nat.le_trans (behind_len he) hl
 have hl2 : a.length ≤ 1000000 := Nat.le_trans (upto_len hu).1 hl1
 have H := Aside0.mk h
 have HG := Aside0.mk hG
 have HP := Lib.hid hp
 have HE := Lib.hid he
 have HU := Lib.hid hu
 have HC := Lib.hid hc
 have HV := Lib.hid hv
 clear h hG hp he hu hc hv
 go_enter Try.func81, Try.ntmps81
 go_wp2_with (first | (go_at_call 73; refine (pre_f (x := [34]) (b := true) HP.out _).mono ?_; rintro e w1 ⟨rfl, rfl⟩) | (go_at_call 39; refine (token_walk_eat.yesK B g l [34] r1 L _ H.out HE.out).mono ?_; rintro e w2 ⟨rfl, h2, b2, k2⟩; have K2 := Aside0.mk k2; clear k2; have H2 := Aside0.mk h2; have B2 := Aside0.mk b2; have HG2 := Aside0.mk (HG.out.below b2 hpos); clear h2 b2) | (go_at_call 57; refine (token_walk_upTo.yesK B g r1 [34] a r L _ H2.out HG2.out hl1 HU.out).mono ?_; rintro e w3 ⟨rfl, h3, b3, k3⟩; have K3 := Aside0.mk k3; clear k3; have H3 := Aside0.mk h3; have B3 := Aside0.mk b3; have HG3 := Aside0.mk (HG2.out.below b3 hpos); clear h3 b3) | (go_at_call 58; refine (con_f (x := [60]) (b := false) HC.out hl2 _ HG3.out).mono ?_; rintro e w4 ⟨rfl, rfl⟩) | (go_at_call 14; refine (ent_f (x := (v, 0)) HV.out hl2 _ HG3.out).mono ?_; rintro e w5 ⟨rfl, b5⟩; have B5 := Aside0.mk b5; clear b5))
 go_ret2
 exact ⟨rfl, H3.out.below B5.out, (B2.out.trans B3.out).trans (B5.out.mono (Nat.le_trans hsz (B2.out.trans B3.out).size)), (K2.out.trans K3.out (.inl rfl)).trans (KeepBut.of_below B5.out _ _) (.inl rfl)⟩
theorem token_walk_value.noe34 (B g : Nat) {ok : Nat → Prop} (l : List UInt8) (L : List S32) (w : World) (h : WalkAt w B g ok (Tk.bs l) L) (hG : Glob w) (hl : l.length ≤ 1000000) (hp : [34].isPrefixOf l = true) (he : Tk.behind [34] l = none) :
 Calls Try.prog 81 #[.pointer (some ⟨g, 0, none⟩)] w fun e w' => (∃ x, e = .returned (.tuple #[.string x, .bool false])) ∧ Below B w w' ∧ KeepBut w w' g none := by
 have hpos := h.pos
 have hsz := h.size
 have c0 := h.cell0
 have H := Aside0.mk h
 have HG := Aside0.mk hG
 have HP := Lib.hid hp
 have HE := Lib.hid he
 clear h hG hp he
 go_enter Try.func81, Try.ntmps81
 go_wp2_with (first | (go_at_call 73; refine (pre_f (x := [34]) (b := true) HP.out _).mono ?_; rintro e w1 ⟨rfl, rfl⟩) | (go_at_call 39; refine (token_walk_eat.noK B g l [34] L _ H.out HE.out).mono ?_; rintro e w2 ⟨rfl, h2, b2, k2⟩; have K2 := Aside0.mk k2; clear k2; have H2 := Aside0.mk h2; have B2 := Aside0.mk b2; have HG2 := Aside0.mk (HG.out.below b2 hpos); clear h2 b2))
 go_ret2
 exact ⟨⟨_, rfl⟩, B2.out, K2.out⟩
theorem token_walk_value.nou34 (B g : Nat) {ok : Nat → Prop} (l : List UInt8) (r1 : List UInt8) (L : List S32) (w : World) (h : WalkAt w B g ok (Tk.bs l) L) (hG : Glob w) (hl : l.length ≤ 1000000) (hp : [34].isPrefixOf l = true) (he : Tk.behind [34] l = some r1) (hu : Tk.upto [34] r1 = none) :
 Calls Try.prog 81 #[.pointer (some ⟨g, 0, none⟩)] w fun e w' => (∃ x, e = .returned (.tuple #[.string x, .bool false])) ∧ Below B w w' ∧ KeepBut w w' g none := by
 have hpos := h.pos
 have hsz := h.size
 have c0 := h.cell0
 have hl1 : r1.length ≤ 1000000 := Nat.le_trans (behind_len he) hl
 have H := Aside0.mk h
 have HG := Aside0.mk hG
 have HP := Lib.hid hp
 have HE := Lib.hid he
 have HU := Lib.hid hu
 clear h hG hp he hu
 go_enter Try.func81, Try.ntmps81
 go_wp2_with (first | (go_at_call 73; refine (pre_f (x := [34]) (b := true) HP.out _).mono ?_; rintro e w1 ⟨rfl, rfl⟩) | (go_at_call 39; refine (token_walk_eat.yesK B g l [34] r1 L _ H.out HE.out).mono ?_; rintro e w2 ⟨rfl, h2, b2, k2⟩; have K2 := Aside0.mk k2; clear k2; have H2 := Aside0.mk h2; have B2 := Aside0.mk b2; have HG2 := Aside0.mk (HG.out.below b2 hpos); clear h2 b2) | (go_at_call 57; refine (token_walk_upTo.noK B g r1 [34] L _ H2.out HG2.out hl1 HU.out).mono ?_; rintro e w3 ⟨rfl, h3, b3, k3⟩; have K3 := Aside0.mk k3; clear k3; have H3 := Aside0.mk h3; have B3 := Aside0.mk b3; have HG3 := Aside0.mk (HG2.out.below b3 hpos); clear h3 b3))
 go_ret2
 exact ⟨⟨_, rfl⟩, B2.out.trans B3.out, K2.out.trans K3.out (.inl rfl)⟩
theorem token_walk_value.noc34 (B g : Nat) {ok : Nat → Prop} (l : List UInt8) (r1 a r : List UInt8) (L : List S32) (w : World) (h : WalkAt w B g ok (Tk.bs l) L) (hG : Glob w) (hl : l.length ≤ 1000000) (hp : [34].isPrefixOf l = true) (he : Tk.behind [34] l = some r1) (hu : Tk.upto [34] r1 = some (a, r)) (hc : Lib.contains a [60] = true) :
 Calls Try.prog 81 #[.pointer (some ⟨g, 0, none⟩)] w fun e w' => (∃ x, e = .returned (.tuple #[.string x, .bool false])) ∧ Below B w w' ∧ KeepBut w w' g none := by
 have hpos := h.pos
 have hsz := h.size
 have c0 := h.cell0
 have hl1 : r1.length ≤ 1000000 := Nat.le_trans (behind_len he) hl
 have hl2 : a.length ≤ 1000000 := Nat.le_trans (upto_len hu).1 hl1
 have H := Aside0.mk h
 have HG := Aside0.mk hG
 have HP := Lib.hid hp
 have HE := Lib.hid he
 have HU := Lib.hid hu
 have HC := Lib.hid hc
 clear h hG hp he hu hc
 go_enter Try.func81, Try.ntmps81
 go_wp2_with (first | (go_at_call 73; refine (pre_f (x := [34]) (b := true) HP.out _).mono ?_; rintro e w1 ⟨rfl, rfl⟩) | (go_at_call 39; refine (token_walk_eat.yesK B g l [34] r1 L _ H.out HE.out).mono ?_; rintro e w2 ⟨rfl, h2, b2, k2⟩; have K2 := Aside0.mk k2; clear k2; have H2 := Aside0.mk h2; have B2 := Aside0.mk b2; have HG2 := Aside0.mk (HG.out.below b2 hpos); clear h2 b2) | (go_at_call 57; refine (token_walk_upTo.yesK B g r1 [34] a r L _ H2.out HG2.out hl1 HU.out).mono ?_; rintro e w3 ⟨rfl, h3, b3, k3⟩; have K3 := Aside0.mk k3; clear k3; have H3 := Aside0.mk h3; have B3 := Aside0.mk b3; have HG3 := Aside0.mk (HG2.out.below b3 hpos); clear h3 b3) | (go_at_call 58; refine (con_f (x := [60]) (b := true) HC.out hl2 _ HG3.out).mono ?_; rintro e w4 ⟨rfl, rfl⟩))
 go_ret2
 exact ⟨⟨_, rfl⟩, B2.out.trans B3.out, K2.out.trans K3.out (.inl rfl)⟩
theorem token_walk_value.nov34 (B g : Nat) {ok : Nat → Prop} (l : List UInt8) (r1 a r : List UInt8) (L : List S32) (w : World) (h : WalkAt w B g ok (Tk.bs l) L) (hG : Glob w) (hl : l.length ≤ 1000000) (hp : [34].isPrefixOf l = true) (he : Tk.behind [34] l = some r1) (hu : Tk.upto [34] r1 = some (a, r)) (hc : Lib.contains a [60] = false) (hv : entsV a = ([], 5)) :
 Calls Try.prog 81 #[.pointer (some ⟨g, 0, none⟩)] w fun e w' => (∃ x, e = .returned (.tuple #[.string x, .bool false])) ∧ Below B w w' ∧ KeepBut w w' g none := by
 have hpos := h.pos
 have hsz := h.size
 have c0 := h.cell0
 have hl1 : r1.length ≤ 1000000 := Nat.le_trans (behind_len he) hl
 have hl2 : a.length ≤ 1000000 := Nat.le_trans (upto_len hu).1 hl1
 have H := Aside0.mk h
 have HG := Aside0.mk hG
 have HP := Lib.hid hp
 have HE := Lib.hid he
 have HU := Lib.hid hu
 have HC := Lib.hid hc
 have HV := Lib.hid hv
 clear h hG hp he hu hc hv
 go_enter Try.func81, Try.ntmps81
 go_wp2_with (first | (go_at_call 73; refine (pre_f (x := [34]) (b := true) HP.out _).mono ?_; rintro e w1 ⟨rfl, rfl⟩) | (go_at_call 39; refine (token_walk_eat.yesK B g l [34] r1 L _ H.out HE.out).mono ?_; rintro e w2 ⟨rfl, h2, b2, k2⟩; have K2 := Aside0.mk k2; clear k2; have H2 := Aside0.mk h2; have B2 := Aside0.mk b2; have HG2 := Aside0.mk (HG.out.below b2 hpos); clear h2 b2) | (go_at_call 57; refine (token_walk_upTo.yesK B g r1 [34] a r L _ H2.out HG2.out hl1 HU.out).mono ?_; rintro e w3 ⟨rfl, h3, b3, k3⟩; have K3 := Aside0.mk k3; clear k3; have H3 := Aside0.mk h3; have B3 := Aside0.mk b3; have HG3 := Aside0.mk (HG2.out.below b3 hpos); clear h3 b3) | (go_at_call 58; refine (con_f (x := [60]) (b := false) HC.out hl2 _ HG3.out).mono ?_; rintro e w4 ⟨rfl, rfl⟩) | (go_at_call 14; refine (ent_f (x := ([], 5)) HV.out hl2 _ HG3.out).mono ?_; rintro e w5 ⟨rfl, b5⟩; have B5 := Aside0.mk b5; clear b5))
 go_ret2
 exact ⟨⟨_, rfl⟩, (B2.out.trans B3.out).trans (B5.out.mono (Nat.le_trans hsz (B2.out.trans B3.out).size)), (K2.out.trans K3.out (.inl rfl)).trans (KeepBut.of_below B5.out _ _) (.inl rfl)⟩
theorem token_walk_value.yes39 (B g : Nat) {ok : Nat → Prop} (l r1 a r v : List UInt8) (L : List S32) (w : World) (h : WalkAt w B g ok (Tk.bs l) L) (hG : Glob w) (hl : l.length ≤ 1000000) (hp : [34].isPrefixOf l = false) (he : Tk.behind [39] l = some r1) (hu : Tk.upto [39] r1 = some (a, r)) (hc : Lib.contains a [60] = false) (hv : entsV a = (v, 0)) :
 Calls Try.prog 81 #[.pointer (some ⟨g, 0, none⟩)] w fun e w' => e = .returned (.tuple #[.string (Tk.bs v), .bool true]) ∧ WalkAt w' B g ok (Tk.bs r) L ∧ Below B w w' ∧ KeepBut w w' g none := by
 have hpos := h.pos
 have hsz := h.size
 have c0 := h.cell0
 have hl1 : r1.length ≤ 1000000 := Nat.le_trans (behind_len he) hl
 have hl2 : a.length ≤ 1000000 := Nat.le_trans (upto_len hu).1 hl1
 have H := Aside0.mk h
 have HG := Aside0.mk hG
 have HP := Lib.hid hp
 have HE := Lib.hid he
 have HU := Lib.hid hu
 have HC := Lib.hid hc
 have HV := Lib.hid hv
 clear h hG hp he hu hc hv
 go_enter Try.func81, Try.ntmps81
 go_wp2_with (first | (go_at_call 73; refine (pre_f (x := [34]) (b := false) HP.out _).mono ?_; rintro e w1 ⟨rfl, rfl⟩) | (go_at_call 39; refine (token_walk_eat.yesK B g l [39] r1 L _ H.out HE.out).mono ?_; rintro e w2 ⟨rfl, h2, b2, k2⟩; have K2 := Aside0.mk k2; clear k2; have H2 := Aside0.mk h2; have B2 := Aside0.mk b2; have HG2 := Aside0.mk (HG.out.below b2 hpos); clear h2 b2) | (go_at_call 57; refine (token_walk_upTo.yesK B g r1 [39] a r L _ H2.out HG2.out hl1 HU.out).mono ?_; rintro e w3 ⟨rfl, h3, b3, k3⟩; have K3 := Aside0.mk k3; clear k3; have H3 := Aside0.mk h3; have B3 := Aside0.mk b3; have HG3 := Aside0.mk (HG2.out.below b3 hpos); clear h3 b3) | (go_at_call 58; refine (con_f (x := [60]) (b := false) HC.out hl2 _ HG3.out).mono ?_; rintro e w4 ⟨rfl, rfl⟩) | (go_at_call 14; refine (ent_f (x := (v, 0)) HV.out hl2 _ HG3.out).mono ?_; rintro e w5 ⟨rfl, b5⟩; have B5 := Aside0.mk b5; clear b5))
 go_ret2
 exact ⟨rfl, H3.out.below B5.out, (B2.out.trans B3.out).trans (B5.out.mono (Nat.le_trans hsz (B2.out.trans B3.out).size)), (K2.out.trans K3.out (.inl rfl)).trans (KeepBut.of_below B5.out _ _) (.inl rfl)⟩
theorem token_walk_value.noe39 (B g : Nat) {ok : Nat → Prop} (l : List UInt8) (L : List S32) (w : World) (h : WalkAt w B g ok (Tk.bs l) L) (hG : Glob w) (hl : l.length ≤ 1000000) (hp : [34].isPrefixOf l = false) (he : Tk.behind [39] l = none) :
 Calls Try.prog 81 #[.pointer (some ⟨g, 0, none⟩)] w fun e w' => (∃ x, e = .returned (.tuple #[.string x, .bool false])) ∧ Below B w w' ∧ KeepBut w w' g none := by
 have hpos := h.pos
 have hsz := h.size
 have c0 := h.cell0
 have H := Aside0.mk h
 have HG := Aside0.mk hG
 have HP := Lib.hid hp
 have HE := Lib.hid he
 clear h hG hp he
 go_enter Try.func81, Try.ntmps81
 go_wp2_with (first | (go_at_call 73; refine (pre_f (x := [34]) (b := false) HP.out _).mono ?_; rintro e w1 ⟨rfl, rfl⟩) | (go_at_call 39; refine (token_walk_eat.noK B g l [39] L _ H.out HE.out).mono ?_; rintro e w2 ⟨rfl, h2, b2, k2⟩; have K2 := Aside0.mk k2; clear k2; have H2 := Aside0.mk h2; have B2 := Aside0.mk b2; have HG2 := Aside0.mk (HG.out.below b2 hpos); clear h2 b2))
 go_ret2
 exact ⟨⟨_, rfl⟩, B2.out, K2.out⟩
theorem token_walk_value.nou39 (B g : Nat) {ok : Nat → Prop} (l : List UInt8) (r1 : List UInt8) (L : List S32) (w : World) (h : WalkAt w B g ok (Tk.bs l) L) (hG : Glob w) (hl : l.length ≤ 1000000) (hp : [34].isPrefixOf l = false) (he : Tk.behind [39] l = some r1) (hu : Tk.upto [39] r1 = none) :
 Calls Try.prog 81 #[.pointer (some ⟨g, 0, none⟩)] w fun e w' => (∃ x, e = .returned (.tuple #[.string x, .bool false])) ∧ Below B w w' ∧ KeepBut w w' g none := by
 have hpos := h.pos
 have hsz := h.size
 have c0 := h.cell0
 have hl1 : r1.length ≤ 1000000 := Nat.le_trans (behind_len he) hl
 have H := Aside0.mk h
 have HG := Aside0.mk hG
 have HP := Lib.hid hp
 have HE := Lib.hid he
 have HU := Lib.hid hu
 clear h hG hp he hu
 go_enter Try.func81, Try.ntmps81
 go_wp2_with (first | (go_at_call 73; refine (pre_f (x := [34]) (b := false) HP.out _).mono ?_; rintro e w1 ⟨rfl, rfl⟩) | (go_at_call 39; refine (token_walk_eat.yesK B g l [39] r1 L _ H.out HE.out).mono ?_; rintro e w2 ⟨rfl, h2, b2, k2⟩; have K2 := Aside0.mk k2; clear k2; have H2 := Aside0.mk h2; have B2 := Aside0.mk b2; have HG2 := Aside0.mk (HG.out.below b2 hpos); clear h2 b2) | (go_at_call 57; refine (token_walk_upTo.noK B g r1 [39] L _ H2.out HG2.out hl1 HU.out).mono ?_; rintro e w3 ⟨rfl, h3, b3, k3⟩; have K3 := Aside0.mk k3; clear k3; have H3 := Aside0.mk h3; have B3 := Aside0.mk b3; have HG3 := Aside0.mk (HG2.out.below b3 hpos); clear h3 b3))
 go_ret2
 exact ⟨⟨_, rfl⟩, B2.out.trans B3.out, K2.out.trans K3.out (.inl rfl)⟩
theorem token_walk_value.noc39 (B g : Nat) {ok : Nat → Prop} (l : List UInt8) (r1 a r : List UInt8) (L : List S32) (w : World) (h : WalkAt w B g ok (Tk.bs l) L) (hG : Glob w) (hl : l.length ≤ 1000000) (hp : [34].isPrefixOf l = false) (he : Tk.behind [39] l = some r1) (hu : Tk.upto [39] r1 = some (a, r)) (hc : Lib.contains a [60] = true) :
 Calls Try.prog 81 #[.pointer (some ⟨g, 0, none⟩)] w fun e w' => (∃ x, e = .returned (.tuple #[.string x, .bool false])) ∧ Below B w w' ∧ KeepBut w w' g none := by
 have hpos := h.pos
 have hsz := h.size
 have c0 := h.cell0
 have hl1 : r1.length ≤ 1000000 := Nat.le_trans (behind_len he) hl
 have hl2 : a.length ≤ 1000000 := Nat.le_trans (upto_len hu).1 hl1
 have H := Aside0.mk h
 have HG := Aside0.mk hG
 have HP := Lib.hid hp
 have HE := Lib.hid he
 have HU := Lib.hid hu
 have HC := Lib.hid hc
 clear h hG hp he hu hc
 go_enter Try.func81, Try.ntmps81
 go_wp2_with (first | (go_at_call 73; refine (pre_f (x := [34]) (b := false) HP.out _).mono ?_; rintro e w1 ⟨rfl, rfl⟩) | (go_at_call 39; refine (token_walk_eat.yesK B g l [39] r1 L _ H.out HE.out).mono ?_; rintro e w2 ⟨rfl, h2, b2, k2⟩; have K2 := Aside0.mk k2; clear k2; have H2 := Aside0.mk h2; have B2 := Aside0.mk b2; have HG2 := Aside0.mk (HG.out.below b2 hpos); clear h2 b2) | (go_at_call 57; refine (token_walk_upTo.yesK B g r1 [39] a r L _ H2.out HG2.out hl1 HU.out).mono ?_; rintro e w3 ⟨rfl, h3, b3, k3⟩; have K3 := Aside0.mk k3; clear k3; have H3 := Aside0.mk h3; have B3 := Aside0.mk b3; have HG3 := Aside0.mk (HG2.out.below b3 hpos); clear h3 b3) | (go_at_call 58; refine (con_f (x := [60]) (b := true) HC.out hl2 _ HG3.out).mono ?_; rintro e w4 ⟨rfl, rfl⟩))
 go_ret2
 exact ⟨⟨_, rfl⟩, B2.out.trans B3.out, K2.out.trans K3.out (.inl rfl)⟩
theorem token_walk_value.nov39 (B g : Nat) {ok : Nat → Prop} (l : List UInt8) (r1 a r : List UInt8) (L : List S32) (w : World) (h : WalkAt w B g ok (Tk.bs l) L) (hG : Glob w) (hl : l.length ≤ 1000000) (hp : [34].isPrefixOf l = false) (he : Tk.behind [39] l = some r1) (hu : Tk.upto [39] r1 = some (a, r)) (hc : Lib.contains a [60] = false) (hv : entsV a = ([], 5)) :
 Calls Try.prog 81 #[.pointer (some ⟨g, 0, none⟩)] w fun e w' => (∃ x, e = .returned (.tuple #[.string x, .bool false])) ∧ Below B w w' ∧ KeepBut w w' g none := by
 have hpos := h.pos
 have hsz := h.size
 have c0 := h.cell0
 have hl1 : r1.length ≤ 1000000 := Nat.le_trans (behind_len he) hl
 have hl2 : a.length ≤ 1000000 := Nat.le_trans (upto_len hu).1 hl1
 have H := Aside0.mk h
 have HG := Aside0.mk hG
 have HP := Lib.hid hp
 have HE := Lib.hid he
 have HU := Lib.hid hu
 have HC := Lib.hid hc
 have HV := Lib.hid hv
 clear h hG hp he hu hc hv
 go_enter Try.func81, Try.ntmps81
 go_wp2_with (first | (go_at_call 73; refine (pre_f (x := [34]) (b := false) HP.out _).mono ?_; rintro e w1 ⟨rfl, rfl⟩) | (go_at_call 39; refine (token_walk_eat.yesK B g l [39] r1 L _ H.out HE.out).mono ?_; rintro e w2 ⟨rfl, h2, b2, k2⟩; have K2 := Aside0.mk k2; clear k2; have H2 := Aside0.mk h2; have B2 := Aside0.mk b2; have HG2 := Aside0.mk (HG.out.below b2 hpos); clear h2 b2) | (go_at_call 57; refine (token_walk_upTo.yesK B g r1 [39] a r L _ H2.out HG2.out hl1 HU.out).mono ?_; rintro e w3 ⟨rfl, h3, b3, k3⟩; have K3 := Aside0.mk k3; clear k3; have H3 := Aside0.mk h3; have B3 := Aside0.mk b3; have HG3 := Aside0.mk (HG2.out.below b3 hpos); clear h3 b3) | (go_at_call 58; refine (con_f (x := [60]) (b := false) HC.out hl2 _ HG3.out).mono ?_; rintro e w4 ⟨rfl, rfl⟩) | (go_at_call 14; refine (ent_f (x := ([], 5)) HV.out hl2 _ HG3.out).mono ?_; rintro e w5 ⟨rfl, b5⟩; have B5 := Aside0.mk b5; clear b5))
 go_ret2
 exact ⟨⟨_, rfl⟩, (B2.out.trans B3.out).trans (B5.out.mono (Nat.le_trans hsz (B2.out.trans B3.out).size)), (K2.out.trans K3.out (.inl rfl)).trans (KeepBut.of_below B5.out _ _) (.inl rfl)⟩
theorem entsV_some {l c : List UInt8} (h : Tk.entities l = some c) : entsV l = (c, 0) := by unfold entsV; rw [h]
theorem entsV_none {l : List UInt8} (h : Tk.entities l = none) : entsV l = ([], 5) := by unfold entsV; rw [h]
theorem token_walk_value.yesK (B g : Nat) {ok : Nat → Prop} (l r v : List UInt8) (L : List S32) (w : World) (h : WalkAt w B g ok (Tk.bs l) L) (hG : Glob w) (hl : l.length ≤ 1000000) (hx : Tk.value l = some (v, r)) :
 Calls Try.prog 81 #[.pointer (some ⟨g, 0, none⟩)] w fun e w' => e = .returned (.tuple #[.string (Tk.bs v), .bool true]) ∧ WalkAt w' B g ok (Tk.bs r) L ∧ Below B w w' ∧ KeepBut w w' g none := by
 unfold Tk.value at hx
 cases hp : [34].isPrefixOf l with
 | true =>
  rw [if_pos hp] at hx
  obtain ⟨r1, he, hx⟩ := Option.bind_eq_some_iff.1 hx
  obtain ⟨⟨a, b⟩, hu, hx⟩ := Option.bind_eq_some_iff.1 hx
  simp only at hx
  by_cases hc : 0 ≤ Lib.index a [60]
  ·rw [if_pos hc] at hx; cases hx
  ·rw [if_neg hc] at hx
   obtain ⟨c, hv, hx⟩ := Option.map_eq_some_iff.1 hx
   obtain ⟨rfl, rfl⟩ := Prod.mk.inj hx
   exact token_walk_value.yes34 B g l r1 a _ _ L w h hG hl hp he hu (contains_no hc) (entsV_some hv)
 | false =>
  rw [if_neg (by rw [hp]; decide)] at hx
  obtain ⟨r1, he, hx⟩ := Option.bind_eq_some_iff.1 hx
  obtain ⟨⟨a, b⟩, hu, hx⟩ := Option.bind_eq_some_iff.1 hx
  simp only at hx
  by_cases hc : 0 ≤ Lib.index a [60]
  ·rw [if_pos hc] at hx; cases hx
  ·rw [if_neg hc] at hx
   obtain ⟨c, hv, hx⟩ := Option.map_eq_some_iff.1 hx
   obtain ⟨rfl, rfl⟩ := Prod.mk.inj hx
   exact token_walk_value.yes39 B g l r1 a _ _ L w h hG hl hp he hu (contains_no hc) (entsV_some hv)
theorem token_walk_value.noK (B g : Nat) {ok : Nat → Prop} (l : List UInt8) (L : List S32) (w : World) (h : WalkAt w B g ok (Tk.bs l) L) (hG : Glob w) (hl : l.length ≤ 1000000) (hx : Tk.value l = none) :
 Calls Try.prog 81 #[.pointer (some ⟨g, 0, none⟩)] w fun e w' => (∃ x, e = .returned (.tuple #[.string x, .bool false])) ∧ Below B w w' ∧ KeepBut w w' g none := by
 unfold Tk.value at hx
 cases hp : [34].isPrefixOf l with
 | true =>
  rw [if_pos hp] at hx
  dsimp only at hx
  cases he : Tk.behind [34] l with
  | none => exact token_walk_value.noe34 B g l L w h hG hl hp he
  | some r1 =>
   rw [he, Option.bind_some] at hx
   cases hu : Tk.upto [34] r1 with
   | none => exact token_walk_value.nou34 B g l r1 L w h hG hl hp he hu
   | some p =>
    obtain ⟨a, r⟩ := p
    rw [hu, Option.bind_some] at hx
    simp only at hx
    by_cases hc : 0 ≤ Lib.index a [60]
    ·exact token_walk_value.noc34 B g l r1 a r L w h hG hl hp he hu (contains_yes hc)
    ·rw [if_neg hc] at hx
     exact token_walk_value.nov34 B g l r1 a r L w h hG hl hp he hu (contains_no hc) (entsV_none (Option.map_eq_none_iff.1 hx))
 | false =>
  rw [if_neg (by rw [hp]; decide)] at hx
  dsimp only at hx
  cases he : Tk.behind [39] l with
  | none => exact token_walk_value.noe39 B g l L w h hG hl hp he
  | some r1 =>
   rw [he, Option.bind_some] at hx
   cases hu : Tk.upto [39] r1 with
   | none => exact token_walk_value.nou39 B g l r1 L w h hG hl hp he hu
   | some p =>
    obtain ⟨a, r⟩ := p
    rw [hu, Option.bind_some] at hx
    simp only at hx
    by_cases hc : 0 ≤ Lib.index a [60]
    ·exact token_walk_value.noc39 B g l r1 a r L w h hG hl hp he hu (contains_yes hc)
    ·rw [if_neg hc] at hx
     exact token_walk_value.nov39 B g l r1 a r L w h hG hl hp he hu (contains_no hc) (entsV_none (Option.map_eq_none_iff.1 hx))
theorem token_walk_attr.yes (B g : Nat) {ok : Nat → Prop} (l r r1 v : List UInt8) (L : List S32) (w : World) (h : WalkAt w B g ok (Tk.bs l) L) (hG : Glob w) (hl : l.length ≤ 1000000) (hh : Tk.head l ≠ []) (he : Tk.behind [61] (Tk.skip (l.drop (Tk.head l).length)) = some r1) (hv : Tk.value (Tk.skip r1) = some (v, r)) :
 Calls Try.prog 63 #[.pointer (some ⟨g, 0, none⟩)] w fun e w' => e = .returned (.tuple #[.agg #[.string (Tk.bs (Tk.head l)), .string (Tk.bs v)], .bool true]) ∧ WalkAt w' B g ok (Tk.bs r) L ∧ Below B w w' ∧ KeepBut w w' g none := by
 obtain ⟨e1, e2, e3, e4⟩ := bs_some hh
 have hpos := h.pos
 have hsz := h.size
 have hu := Try.underlying39
 have hl1 : (l.drop (Tk.head l).length).length ≤ 1000000 := by rw [List.length_drop]; omega
 have hl2 : r1.length ≤ 1000000 := Nat.le_trans (behind_len he) (Nat.le_trans (skip_len _) hl1)
 have hl3 : (Tk.skip r1).length ≤ 1000000 := Nat.le_trans (skip_len _) hl2
 have HG := Aside0.mk hG
 have HE := Aside0.mk he
 have HV := Aside0.mk hv
 have H0 := Aside0.mk h
 clear h hG hh he hv
 go_enter Try.func63, Try.ntmps63
 go_wp2_with (fail)
 have hb0 : Below w.heap.size w (w.alloc (.cells #[.string ⟨#[]⟩, .string ⟨#[]⟩] 39)) := below_alloc (Below.refl _ _) _
 have X0 : (w.alloc (.cells #[.string ⟨#[]⟩, .string ⟨#[]⟩] 39)).heap[w.heap.size]? = some (.cells #[.string ⟨#[]⟩, .string ⟨#[]⟩] 39 (0, 0)) := heap_alloc_new w _
 have hgb : w.heap.size ≠ g := Nat.ne_of_gt H0.out.lt
 have H := Aside0.mk ((H0.out.more (ok' := fun k => ok k ∧ k ≠ w.heap.size) (fun k hk ho => ⟨ho, Nat.ne_of_lt hk⟩)).below hb0)
 have HG0 := Aside0.mk (HG.out.step hb0)
 have B0 := Aside0.mk (hb0.mono hsz)
 have K0 := Aside0.mk (KeepBut.of_below hb0 g none)
 have X := Aside0.mk X0
 clear H0 hb0 X0
 generalize w.alloc _ = w0 at *
 refine (token_walk_name.callsK B g l L _ H.out HG0.out hl).mono ?_
 rintro e w1 ⟨rfl, h1, b1, k1⟩
 have H1 := Aside0.mk h1
 have HG1 := Aside0.mk (HG0.out.below b1 hpos)
 have B1 := Aside0.mk (B0.out.trans b1)
 have K1 := Aside0.mk (K0.out.trans k1 (.inl rfl))
 have X1 := Aside0.mk (k1.blk X.out hgb (by simp))
 clear h1 b1 k1 X H K0 B0
 go_wp2_with (go_at_call 62; refine (token_walk_skip.callsK B g _ L _ H1.out HG1.out hl1).mono ?_)
 rintro e w2 ⟨rfl, h1, b1, k1⟩
 have H2 := Aside0.mk h1
 have HG2 := Aside0.mk (HG1.out.below b1 hpos)
 have B2 := Aside0.mk (B1.out.trans b1)
 have K2 := Aside0.mk (K1.out.trans k1 (.inl rfl))
 have X2 := Aside0.mk (k1.blk X1.out hgb (by simp))
 clear h1 b1 k1 X1 H1 K1 B1
 go_wp2_with (go_at_call 39; refine (token_walk_eat.yesK B g _ [61] r1 L _ H2.out HE.out).mono ?_)
 rintro e w3 ⟨rfl, h1, b1, k1⟩
 have H3 := Aside0.mk h1
 have HG3 := Aside0.mk (HG2.out.below b1 hpos)
 have B3 := Aside0.mk (B2.out.trans b1)
 have K3 := Aside0.mk (K2.out.trans k1 (.inl rfl))
 have X3 := Aside0.mk (k1.blk X2.out hgb (by simp))
 clear h1 b1 k1 X2 H2 K2 B2
 go_wp2_with (go_at_call 62; refine (token_walk_skip.callsK B g r1 L _ H3.out HG3.out hl2).mono ?_)
 rintro e w4 ⟨rfl, h1, b1, k1⟩
 have H4 := Aside0.mk h1
 have HG4 := Aside0.mk (HG3.out.below b1 hpos)
 have B4 := Aside0.mk (B3.out.trans b1)
 have K4 := Aside0.mk (K3.out.trans k1 (.inl rfl))
 have X4 := Aside0.mk (k1.blk X3.out hgb (by simp))
 clear h1 b1 k1 X3 H3 K3 B3
 go_wp2_with (go_at_call 81; refine (token_walk_value.yesK B g _ r v L _ H4.out HG4.out hl3 HV.out).mono ?_)
 rintro e w5 ⟨rfl, h1, b1, k1⟩
 have H5 := Aside0.mk h1
 have HG5 := Aside0.mk (HG4.out.below b1 hpos)
 have B5 := Aside0.mk (B4.out.trans b1)
 have K5 := Aside0.mk (K4.out.trans k1 (.inl rfl))
 have X5 := Aside0.mk (k1.blk X4.out hgb (by simp))
 clear h1 b1 k1 X4 H4 K4 B4
 have x0 := (blk_cell X5.out 0).trans rfl
 have x1 := (blk_cell X5.out 1).trans rfl
 have z0 := blk_frozen X5.out 0
 have z1 := blk_frozen X5.out 1
 go_wp2
 have Y : ∀ a b, ((w5.setCell ⟨w.heap.size, 0, none⟩ (.string a)).setCell ⟨w.heap.size, 1, none⟩ (.string b)).heap[w.heap.size]? = some (.cells #[.string a, .string b] 39 (0, 0)) := fun a b => by
  have h1 := blk_set X5.out 0 (.string a)
  have h2 := blk_set h1 1 (.string b)
  simpa using h2
 refine bodyPost_ret (results_ct rfl _ _ w.heap.size 39 #[.string (Tk.bs (Tk.head l)), .string (Tk.bs v)] (0, 0) _ rfl (Y _ _) Try.underlying39 rfl (by kernel_rfl)) rfl ⟨rfl, ?_, ?_, ?_⟩
 ·exact ((H5.out.far (p := ⟨w.heap.size, 0, none⟩) hgb (fun k hk => hk.2) _).far (p := ⟨w.heap.size, 1, none⟩) hgb (fun k hk => hk.2) _).more (fun k _ hk => hk.1)
 ·exact (B5.out.setCell (p := ⟨w.heap.size, 0, none⟩) hsz _).setCell (p := ⟨w.heap.size, 1, none⟩) hsz _
 ·exact keep_far (keep_far K5.out (Nat.le_refl _) _) (Nat.le_refl _) _
theorem token_walk_attr.noh (B g : Nat) {ok : Nat → Prop} (l : List UInt8) (L : List S32) (w : World) (h : WalkAt w B g ok (Tk.bs l) L) (hG : Glob w) (hl : l.length ≤ 1000000) (hh : Tk.head l = []) :
 Calls Try.prog 63 #[.pointer (some ⟨g, 0, none⟩)] w fun e w' => (∃ x y, e = .returned (.tuple #[.agg #[.string x, .string y], .bool false])) ∧ Below B w w' ∧ KeepBut w w' g none := by
 have e1 := bs_none hh
 have hpos := h.pos
 have hsz := h.size
 have hu := Try.underlying39
 have hl1 : (l.drop (Tk.head l).length).length ≤ 1000000 := by rw [List.length_drop]; omega
 have HG := Aside0.mk hG
 have H0 := Aside0.mk h
 clear h hG hh
 go_enter Try.func63, Try.ntmps63
 go_wp2_with (fail)
 have hb0 : Below w.heap.size w (w.alloc (.cells #[.string ⟨#[]⟩, .string ⟨#[]⟩] 39)) := below_alloc (Below.refl _ _) _
 have X0 : (w.alloc (.cells #[.string ⟨#[]⟩, .string ⟨#[]⟩] 39)).heap[w.heap.size]? = some (.cells #[.string ⟨#[]⟩, .string ⟨#[]⟩] 39 (0, 0)) := heap_alloc_new w _
 have hgb : w.heap.size ≠ g := Nat.ne_of_gt H0.out.lt
 have H := Aside0.mk ((H0.out.more (ok' := fun k => ok k ∧ k ≠ w.heap.size) (fun k hk ho => ⟨ho, Nat.ne_of_lt hk⟩)).below hb0)
 have HG0 := Aside0.mk (HG.out.step hb0)
 have B0 := Aside0.mk (hb0.mono hsz)
 have K0 := Aside0.mk (KeepBut.of_below hb0 g none)
 have X := Aside0.mk X0
 clear H0 hb0 X0
 generalize w.alloc _ = w0 at *
 refine (token_walk_name.callsK B g l L _ H.out HG0.out hl).mono ?_
 rintro e w1 ⟨rfl, h1, b1, k1⟩
 have H1 := Aside0.mk h1
 have HG1 := Aside0.mk (HG0.out.below b1 hpos)
 have B1 := Aside0.mk (B0.out.trans b1)
 have K1 := Aside0.mk (K0.out.trans k1 (.inl rfl))
 have X1 := Aside0.mk (k1.blk X.out hgb (by simp))
 clear h1 b1 k1 X H K0 B0
 go_wp2_with (go_at_call 62; refine (token_walk_skip.callsK B g _ L _ H1.out HG1.out hl1).mono ?_)
 rintro e w2 ⟨rfl, h1, b1, k1⟩
 have H2 := Aside0.mk h1
 have HG2 := Aside0.mk (HG1.out.below b1 hpos)
 have B2 := Aside0.mk (B1.out.trans b1)
 have K2 := Aside0.mk (K1.out.trans k1 (.inl rfl))
 have X2 := Aside0.mk (k1.blk X1.out hgb (by simp))
 clear h1 b1 k1 X1 H1 K1 B1
 have x0 := (blk_cell X2.out 0).trans rfl
 have x1 := (blk_cell X2.out 1).trans rfl
 have z0 := blk_frozen X2.out 0
 have z1 := blk_frozen X2.out 1
 go_wp2
 have Y : ∀ a b, ((w2.setCell ⟨w.heap.size, 0, none⟩ (.string a)).setCell ⟨w.heap.size, 1, none⟩ (.string b)).heap[w.heap.size]? = some (.cells #[.string a, .string b] 39 (0, 0)) := fun a b => by
  have h1 := blk_set X2.out 0 (.string a)
  have h2 := blk_set h1 1 (.string b)
  simpa using h2
 refine bodyPost_ret (results_ct rfl _ _ w.heap.size 39 #[.string ⟨#[]⟩, .string ⟨#[]⟩] (0, 0) _ rfl (Y _ _) Try.underlying39 rfl (by kernel_rfl)) rfl ⟨⟨_, _, rfl⟩, ?_, ?_⟩
 ·exact (B2.out.setCell (p := ⟨w.heap.size, 0, none⟩) hsz _).setCell (p := ⟨w.heap.size, 1, none⟩) hsz _
 ·exact keep_far (keep_far K2.out (Nat.le_refl _) _) (Nat.le_refl _) _
theorem token_walk_attr.noe (B g : Nat) {ok : Nat → Prop} (l : List UInt8) (L : List S32) (w : World) (h : WalkAt w B g ok (Tk.bs l) L) (hG : Glob w) (hl : l.length ≤ 1000000) (hh : Tk.head l ≠ []) (he : Tk.behind [61] (Tk.skip (l.drop (Tk.head l).length)) = none) :
 Calls Try.prog 63 #[.pointer (some ⟨g, 0, none⟩)] w fun e w' => (∃ x y, e = .returned (.tuple #[.agg #[.string x, .string y], .bool false])) ∧ Below B w w' ∧ KeepBut w w' g none := by
 obtain ⟨e1, e2, e3, e4⟩ := bs_some hh
 have hpos := h.pos
 have hsz := h.size
 have hu := Try.underlying39
 have hl1 : (l.drop (Tk.head l).length).length ≤ 1000000 := by rw [List.length_drop]; omega
 have HG := Aside0.mk hG
 have HE := Aside0.mk he
 have H0 := Aside0.mk h
 clear h hG hh he
 go_enter Try.func63, Try.ntmps63
 go_wp2_with (fail)
 have hb0 : Below w.heap.size w (w.alloc (.cells #[.string ⟨#[]⟩, .string ⟨#[]⟩] 39)) := below_alloc (Below.refl _ _) _
 have X0 : (w.alloc (.cells #[.string ⟨#[]⟩, .string ⟨#[]⟩] 39)).heap[w.heap.size]? = some (.cells #[.string ⟨#[]⟩, .string ⟨#[]⟩] 39 (0, 0)) := heap_alloc_new w _
 have hgb : w.heap.size ≠ g := Nat.ne_of_gt H0.out.lt
 have H := Aside0.mk ((H0.out.more (ok' := fun k => ok k ∧ k ≠ w.heap.size) (fun k hk ho => ⟨ho, Nat.ne_of_lt hk⟩)).below hb0)
 have HG0 := Aside0.mk (HG.out.step hb0)
 have B0 := Aside0.mk (hb0.mono hsz)
 have K0 := Aside0.mk (KeepBut.of_below hb0 g none)
 have X := Aside0.mk X0
 clear H0 hb0 X0
 generalize w.alloc _ = w0 at *
 refine (token_walk_name.callsK B g l L _ H.out HG0.out hl).mono ?_
 rintro e w1 ⟨rfl, h1, b1, k1⟩
 have H1 := Aside0.mk h1
 have HG1 := Aside0.mk (HG0.out.below b1 hpos)
 have B1 := Aside0.mk (B0.out.trans b1)
 have K1 := Aside0.mk (K0.out.trans k1 (.inl rfl))
 have X1 := Aside0.mk (k1.blk X.out hgb (by simp))
 clear h1 b1 k1 X H K0 B0
 go_wp2_with (go_at_call 62; refine (token_walk_skip.callsK B g _ L _ H1.out HG1.out hl1).mono ?_)
 rintro e w2 ⟨rfl, h1, b1, k1⟩
 have H2 := Aside0.mk h1
 have HG2 := Aside0.mk (HG1.out.below b1 hpos)
 have B2 := Aside0.mk (B1.out.trans b1)
 have K2 := Aside0.mk (K1.out.trans k1 (.inl rfl))
 have X2 := Aside0.mk (k1.blk X1.out hgb (by simp))
 clear h1 b1 k1 X1 H1 K1 B1
 go_wp2_with (go_at_call 39; refine (token_walk_eat.noK B g _ [61] L _ H2.out HE.out).mono ?_)
 rintro e w3 ⟨rfl, h1, b1, k1⟩
 have H3 := Aside0.mk h1
 have HG3 := Aside0.mk (HG2.out.below b1 hpos)
 have B3 := Aside0.mk (B2.out.trans b1)
 have K3 := Aside0.mk (K2.out.trans k1 (.inl rfl))
 have X3 := Aside0.mk (k1.blk X2.out hgb (by simp))
 clear h1 b1 k1 X2 H2 K2 B2
 have x0 := (blk_cell X3.out 0).trans rfl
 have x1 := (blk_cell X3.out 1).trans rfl
 have z0 := blk_frozen X3.out 0
 have z1 := blk_frozen X3.out 1
 go_wp2
 have Y : ∀ a b, ((w3.setCell ⟨w.heap.size, 0, none⟩ (.string a)).setCell ⟨w.heap.size, 1, none⟩ (.string b)).heap[w.heap.size]? = some (.cells #[.string a, .string b] 39 (0, 0)) := fun a b => by
  have h1 := blk_set X3.out 0 (.string a)
  have h2 := blk_set h1 1 (.string b)
  simpa using h2
 refine bodyPost_ret (results_ct rfl _ _ w.heap.size 39 #[.string ⟨#[]⟩, .string ⟨#[]⟩] (0, 0) _ rfl (Y _ _) Try.underlying39 rfl (by kernel_rfl)) rfl ⟨⟨_, _, rfl⟩, ?_, ?_⟩
 ·exact (B3.out.setCell (p := ⟨w.heap.size, 0, none⟩) hsz _).setCell (p := ⟨w.heap.size, 1, none⟩) hsz _
 ·exact keep_far (keep_far K3.out (Nat.le_refl _) _) (Nat.le_refl _) _
theorem token_walk_attr.nov (B g : Nat) {ok : Nat → Prop} (l r1 : List UInt8) (L : List S32) (w : World) (h : WalkAt w B g ok (Tk.bs l) L) (hG : Glob w) (hl : l.length ≤ 1000000) (hh : Tk.head l ≠ []) (he : Tk.behind [61] (Tk.skip (l.drop (Tk.head l).length)) = some r1) (hv : Tk.value (Tk.skip r1) = none) :
 Calls Try.prog 63 #[.pointer (some ⟨g, 0, none⟩)] w fun e w' => (∃ x y, e = .returned (.tuple #[.agg #[.string x, .string y], .bool false])) ∧ Below B w w' ∧ KeepBut w w' g none := by
 obtain ⟨e1, e2, e3, e4⟩ := bs_some hh
 have hpos := h.pos
 have hsz := h.size
 have hu := Try.underlying39
 have hl1 : (l.drop (Tk.head l).length).length ≤ 1000000 := by rw [List.length_drop]; omega
 have hl2 : r1.length ≤ 1000000 := Nat.le_trans (behind_len he) (Nat.le_trans (skip_len _) hl1)
 have hl3 : (Tk.skip r1).length ≤ 1000000 := Nat.le_trans (skip_len _) hl2
 have HG := Aside0.mk hG
 have HE := Aside0.mk he
 have HV := Aside0.mk hv
 have H0 := Aside0.mk h
 clear h hG hh he hv
 go_enter Try.func63, Try.ntmps63
 go_wp2_with (fail)
 have hb0 : Below w.heap.size w (w.alloc (.cells #[.string ⟨#[]⟩, .string ⟨#[]⟩] 39)) := below_alloc (Below.refl _ _) _
 have X0 : (w.alloc (.cells #[.string ⟨#[]⟩, .string ⟨#[]⟩] 39)).heap[w.heap.size]? = some (.cells #[.string ⟨#[]⟩, .string ⟨#[]⟩] 39 (0, 0)) := heap_alloc_new w _
 have hgb : w.heap.size ≠ g := Nat.ne_of_gt H0.out.lt
 have H := Aside0.mk ((H0.out.more (ok' := fun k => ok k ∧ k ≠ w.heap.size) (fun k hk ho => ⟨ho, Nat.ne_of_lt hk⟩)).below hb0)
 have HG0 := Aside0.mk (HG.out.step hb0)
 have B0 := Aside0.mk (hb0.mono hsz)
 have K0 := Aside0.mk (KeepBut.of_below hb0 g none)
 have X := Aside0.mk X0
 clear H0 hb0 X0
 generalize w.alloc _ = w0 at *
 refine (token_walk_name.callsK B g l L _ H.out HG0.out hl).mono ?_
 rintro e w1 ⟨rfl, h1, b1, k1⟩
 have H1 := Aside0.mk h1
 have HG1 := Aside0.mk (HG0.out.below b1 hpos)
 have B1 := Aside0.mk (B0.out.trans b1)
 have K1 := Aside0.mk (K0.out.trans k1 (.inl rfl))
 have X1 := Aside0.mk (k1.blk X.out hgb (by simp))
 clear h1 b1 k1 X H K0 B0
 go_wp2_with (go_at_call 62; refine (token_walk_skip.callsK B g _ L _ H1.out HG1.out hl1).mono ?_)
 rintro e w2 ⟨rfl, h1, b1, k1⟩
 have H2 := Aside0.mk h1
 have HG2 := Aside0.mk (HG1.out.below b1 hpos)
 have B2 := Aside0.mk (B1.out.trans b1)
 have K2 := Aside0.mk (K1.out.trans k1 (.inl rfl))
 have X2 := Aside0.mk (k1.blk X1.out hgb (by simp))
 clear h1 b1 k1 X1 H1 K1 B1
 go_wp2_with (go_at_call 39; refine (token_walk_eat.yesK B g _ [61] r1 L _ H2.out HE.out).mono ?_)
 rintro e w3 ⟨rfl, h1, b1, k1⟩
 have H3 := Aside0.mk h1
 have HG3 := Aside0.mk (HG2.out.below b1 hpos)
 have B3 := Aside0.mk (B2.out.trans b1)
 have K3 := Aside0.mk (K2.out.trans k1 (.inl rfl))
 have X3 := Aside0.mk (k1.blk X2.out hgb (by simp))
 clear h1 b1 k1 X2 H2 K2 B2
 go_wp2_with (go_at_call 62; refine (token_walk_skip.callsK B g r1 L _ H3.out HG3.out hl2).mono ?_)
 rintro e w4 ⟨rfl, h1, b1, k1⟩
 have H4 := Aside0.mk h1
 have HG4 := Aside0.mk (HG3.out.below b1 hpos)
 have B4 := Aside0.mk (B3.out.trans b1)
 have K4 := Aside0.mk (K3.out.trans k1 (.inl rfl))
 have X4 := Aside0.mk (k1.blk X3.out hgb (by simp))
 clear h1 b1 k1 X3 H3 K3 B3
 go_wp2_with (go_at_call 81; refine (token_walk_value.noK B g _ L _ H4.out HG4.out hl3 HV.out).mono ?_)
 rintro e w5 ⟨⟨xv, rfl⟩, b1, k1⟩
 have B5 := Aside0.mk (B4.out.trans b1)
 have K5 := Aside0.mk (K4.out.trans k1 (.inl rfl))
 have X5 := Aside0.mk (k1.blk X4.out hgb (by simp))
 clear b1 k1 X4 H4 K4 B4
 have x0 := (blk_cell X5.out 0).trans rfl
 have x1 := (blk_cell X5.out 1).trans rfl
 have z0 := blk_frozen X5.out 0
 have z1 := blk_frozen X5.out 1
 go_wp2
 have Y : ∀ a b, ((w5.setCell ⟨w.heap.size, 0, none⟩ (.string a)).setCell ⟨w.heap.size, 1, none⟩ (.string b)).heap[w.heap.size]? = some (.cells #[.string a, .string b] 39 (0, 0)) := fun a b => by
  have h1 := blk_set X5.out 0 (.string a)
  have h2 := blk_set h1 1 (.string b)
  simpa using h2
 refine bodyPost_ret (results_ct rfl _ _ w.heap.size 39 #[.string (Tk.bs (Tk.head l)), .string xv] (0, 0) _ rfl (Y _ _) Try.underlying39 rfl (by kernel_rfl)) rfl ⟨⟨_, _, rfl⟩, ?_, ?_⟩
 ·exact (B5.out.setCell (p := ⟨w.heap.size, 0, none⟩) hsz _).setCell (p := ⟨w.heap.size, 1, none⟩) hsz _
 ·exact keep_far (keep_far K5.out (Nat.le_refl _) _) (Nat.le_refl _) _
theorem token_walk_attr.yesA (B g : Nat) {ok : Nat → Prop} (l r : List UInt8) (x : S39) (L : List S32) (w : World) (h : WalkAt w B g ok (Tk.bs l) L) (hG : Glob w) (hl : l.length ≤ 1000000) (hx : Tk.attr l = some (x, r)) :
 Calls Try.prog 63 #[.pointer (some ⟨g, 0, none⟩)] w fun e w' => e = .returned (.tuple #[.agg #[.string x.f0, .string x.f1], .bool true]) ∧ WalkAt w' B g ok (Tk.bs r) L ∧ Below B w w' ∧ KeepBut w w' g none := by
 unfold Tk.attr at hx
 by_cases hh : Tk.head l = []
 ·rw [if_pos hh] at hx; cases hx
 rw [if_neg hh] at hx
 obtain ⟨r1, he, hx⟩ := Option.bind_eq_some_iff.1 hx
 obtain ⟨⟨v, r2⟩, hv, hx⟩ := Option.map_eq_some_iff.1 hx
 obtain ⟨rfl, rfl⟩ := Prod.mk.inj hx
 exact token_walk_attr.yes B g l r2 r1 v L w h hG hl hh he hv
theorem token_walk_attr.noA (B g : Nat) {ok : Nat → Prop} (l : List UInt8) (L : List S32) (w : World) (h : WalkAt w B g ok (Tk.bs l) L) (hG : Glob w) (hl : l.length ≤ 1000000) (hx : Tk.attr l = none) :
 Calls Try.prog 63 #[.pointer (some ⟨g, 0, none⟩)] w fun e w' => (∃ x y, e = .returned (.tuple #[.agg #[.string x, .string y], .bool false])) ∧ Below B w w' ∧ KeepBut w w' g none := by
 unfold Tk.attr at hx
 by_cases hh : Tk.head l = []
 ·exact token_walk_attr.noh B g l L w h hG hl hh
 rw [if_neg hh] at hx
 cases he : Tk.behind [61] (Tk.skip (l.drop (Tk.head l).length)) with
 | none => exact token_walk_attr.noe B g l L w h hG hl hh he
 | some r1 =>
  rw [he, Option.bind_some] at hx
  exact token_walk_attr.nov B g l r1 L w h hG hl hh he (Option.map_eq_none_iff.1 hx)
def attEq (v0 : ByteArray) (s : S39) : Bool := s.f0.toList == v0.toList
theorem api_Attr_64.calls1 (s : S39) (v0 : ByteArray) (g : Nat) (w : World) (hc : w.cell? ⟨g, 0, none⟩ = some (.string v0)) :
 Calls Try.prog 65 #[.agg #[.string s.f0, .string s.f1], .pointer (some ⟨g, 0, none⟩)] w fun e w' => e = .returned (.bool (s.f0.toList == v0.toList)) ∧ Below w.heap.size w w' := by
 have hu := Try.underlying39
 have hlt := World.block_lt_of_cell? _ _ hc
 have HC := Aside0.mk hc
 clear hc
 go_enter Try.func65, Try.ntmps65
 have HB := Aside0.mk (Below.refl w.heap.size w)
 go_upto_region 1 with (first | (refine be 2 #[.string s.f0, .string s.f1] 39 ?_; intro gb hg w3 hbox hb; have HX := Aside0.mk hbox; replace HB := Aside0.mk (below_step HB.out hb); replace HC := Aside0.mk ((hb.cell (World.block_lt_of_cell? _ _ HC.out)).trans HC.out); clear hb hbox hg))
 have hX0 : w3.cell? ⟨gb, 0, none⟩ = some (.string s.f0) := (blk_cell HX.out 0).trans rfl
 have hX1 : w3.cell? ⟨gb, 1, none⟩ = some (.string s.f1) := (blk_cell HX.out 1).trans rfl
 have hCv := HC.out
 go_wp2
 go_ret
 exact ⟨rfl, HB.out⟩
theorem any_take {α : Type} (p : α → Bool) (xs : List α) (i : Nat) (h : i < xs.length) : (xs.take (i + 1)).any p = ((xs.take i).any p || p xs[i]) := by
 rw [List.take_succ_eq_append_getElem h, List.any_append]
 simp
theorem any_hit {α : Type} {p : α → Bool} {xs : List α} {i : Nat} (h : i < xs.length) (hp : p xs[i] = true) : xs.any p = true := List.any_eq_true.2 ⟨_, List.getElem_mem h, hp⟩
theorem rdA_at (xs : List S39) (i : Nat) (h : i < xs.length) : rd_T39 xs (i : Int) = xs[i] := by
 simp [rd_T39, List.getD, h]
theorem api_Attr_64.calls2 (A0 : Option Addr) (c0 : Nat) (xs : List S39) (v0 : ByteArray) (g : Nat) (w : World) (hr0 : Kd.C k39 w A0 xs.length xs) (hlen : xs.length ≤ 1000000) (hc : w.cell? ⟨g, 0, none⟩ = some (.string v0)) :
 Calls Try.prog 82 #[.slice A0 xs.length c0, .func (.func 65) #[] #[.pointer (some ⟨g, 0, none⟩)]] w fun e w' => (∃ r : Int, e = .returned (.int .i64 r) ∧ decide (0 ≤ r) = xs.any (attEq v0)) ∧ Below w.heap.size w w' := by
 have hu := Try.underlying39
 have HR0 := Aside0.mk hr0
 have HC := Aside0.mk hc
 clear hr0 hc
 obtain ⟨p, hp⟩ : ∃ p : S39 → Bool, attEq v0 = p := ⟨_, rfl⟩
 have C1 : ∀ (s : S39) (W : World), W.cell? ⟨g, 0, none⟩ = some (.string v0) → Calls Try.prog 65 #[.agg #[.string s.f0, .string s.f1], .pointer (some ⟨g, 0, none⟩)] W fun e w' => e = .returned (.bool (p s)) ∧ Below W.heap.size W w' := by
  intro s W hW
  rw [← hp]
  exact api_Attr_64.calls1 s v0 g W hW
 rw [hp]
 clear hp
 go_enter Try.func82, Try.ntmps82
 go_wp2
 go_loopg [8] (xs.length + 1) (fun gk v8 w' => ∃ (i : Nat) (x : Int), i ≤ xs.length ∧ i + gk = xs.length + 1 ∧ v8 = .int .i64 x ∧ Aside0 (x = (i : Int)) ∧ Aside0 ((xs.take i).any p = false) ∧ Aside0 (Below w.heap.size w w'))
 case atStart => exact ⟨0, 0, by omega, by omega, by first | rfl | (simp; done), ⟨rfl⟩, ⟨by rw [List.take_zero]; rfl⟩, ⟨Below.refl _ _⟩⟩
 obtain ⟨i, x, hi, hgk, rfl, HX, HA, HB⟩ := hrel
 have hxi := HX.out
 by_cases hlt : i < xs.length
 rotate_left
 ·obtain rfl : i = xs.length := by omega
  have d1 : decide (x < (xs.length : Int)) = false := decide_eq_false (by omega)
  have hall : xs.any p = false := by have := HA.out; rwa [List.take_length] at this
  have HALL := Lib.hid hall
  clear hall hxi C1
  go_wp2
  go_ret
  exact ⟨⟨_, rfl, by rw [HALL.out]; rfl⟩, HB.out⟩
 obtain ⟨g1, rfl⟩ : ∃ g1, gk = g1 + 1 := ⟨gk - 1, by omega⟩
 have d1 : decide (x < (xs.length : Int)) = true := decide_eq_true (by omega)
 obtain ⟨ad, e_, hx0, hx1⟩ := at_T39 HR0.out x (by omega) (by omega)
 cases e_
 have hel : rd_T39 xs x = xs[i] := by rw [hxi, rdA_at xs i hlt]
 replace hx0 := (HB.out.cell (World.block_lt_of_cell? w _ hx0)).trans hx0
 replace hx1 := (HB.out.cell (World.block_lt_of_cell? w _ hx1)).trans hx1
 have hcg : wr.cell? ⟨g, 0, none⟩ = some (.string v0) := (HB.out.cell (World.block_lt_of_cell? w _ HC.out)).trans HC.out
 have p_ := eq_true (show 0 ≤ x by omega)
 have q_ := eq_true (show x < (xs.length : Int) by omega)
 have hat := any_take p xs i hlt
 rw [HA.out, ← hel, Bool.false_or] at hat
 have C2 := C1 (rd_T39 xs x) wr hcg
 cases hps : p (rd_T39 xs x) with
 | true =>
  rw [hps] at C2
  have hall : xs.any p = true := any_hit hlt (by rw [← hel]; exact hps)
  have HALL := Lib.hid hall
  have HX0 : decide (0 ≤ x) = true := decide_eq_true (by omega)
  have HXX := Lib.hid HX0
  have C3 := Aside0.mk C2
  clear hps hall hat hel hxi hcg C2 C1 HX0
  go_wp2_with (first | (go_at_call 65; (with_reducible refine (C3.out).mono ?_); rintro e w4 ⟨rfl, hb⟩; have B4 := Aside0.mk hb; clear hb))
  go_ret
  exact ⟨⟨_, rfl, by rw [HALL.out, HXX.out]⟩, below_step HB.out B4.out⟩
 | false =>
  rw [hps] at C2 hat
  have HAT := Aside0.mk hat
  have C3 := Aside0.mk C2
  have hw1 : wrap64 (x + 1) = ((i + 1 : Nat) : Int) := by unfold wrap64; omega
  have HW1 := Aside0.mk hw1
  clear hps hat hel hxi hcg C2 hw1
  go_wp2_with (first | (go_at_call 65; (with_reducible refine (C3.out).mono ?_); rintro e w4 ⟨rfl, hb⟩; have B4 := Aside0.mk hb; clear hb))
  go_roundg g1
  case measure => omega
  case rel => exact ⟨i + 1, _, by omega, by omega, by first | rfl | (simp; done), HW1, HAT, ⟨below_step HB.out B4.out⟩⟩
theorem api_Attr_64.callsA (A0 : Option Addr) (c0 : Nat) (xs : List S39) (v0 : ByteArray) (g : Nat) (w : World) (hr0 : Kd.C k39 w A0 xs.length xs) (hlen : xs.length ≤ 1000000) (hc : w.cell? ⟨g, 0, none⟩ = some (.string v0)) :
 Calls Try.prog 64 #[.slice A0 xs.length c0, .func (.func 65) #[] #[.pointer (some ⟨g, 0, none⟩)]] w fun e w' => e = .returned (.bool (xs.any (attEq v0))) ∧ Below w.heap.size w w' := by
 have C1 := Aside0.mk (api_Attr_64.calls2 A0 c0 xs v0 g w hr0 hlen hc)
 obtain ⟨b, hb⟩ : ∃ b, b = xs.any (attEq v0) := ⟨_, rfl⟩
 rw [← hb] at C1 ⊢
 clear hr0 hc hb
 go_enter Try.func64, Try.ntmps64
 go_wp2_with (first | (go_at_call 82; (with_reducible refine C1.out.mono ?_); rintro e w4 ⟨⟨r, rfl, hr⟩, hb⟩; have HB := Aside0.mk hb; have HR := Lib.hid hr; clear hb hr))
 go_ret
 refine ⟨?_, HB.out⟩
 rw [← HR.out]
 first | rfl | (simp; done)
theorem value_len {l v r : List UInt8} (h : Tk.value l = some (v, r)) : r.length ≤ l.length := by
 unfold Tk.value at h
 dsimp only at h
 obtain ⟨r1, h1, h⟩ := Option.bind_eq_some_iff.1 h
 obtain ⟨⟨a, b⟩, h2, h⟩ := Option.bind_eq_some_iff.1 h
 dsimp only at h
 split at h
 ·cases h
 ·obtain ⟨c, _, h⟩ := Option.map_eq_some_iff.1 h
  obtain ⟨_, rfl⟩ := Prod.mk.inj h
  exact Nat.le_trans (upto_len h2).2 (behind_len h1)
theorem behind_sum {x l r : List UInt8} (h : Tk.behind x l = some r) : r.length + x.length = l.length := by
 unfold Tk.behind at h
 split at h
 ·rename_i hp
  injection h with h
  have := (List.isPrefixOf_iff_prefix.1 hp).length_le
  rw [← h, List.length_drop]; omega
 ·cases h
theorem attr_len {l r : List UInt8} {x : S39} (h : Tk.attr l = some (x, r)) : r.length < l.length := by
 unfold Tk.attr at h
 split at h
 ·cases h
 ·obtain ⟨r1, h1, h⟩ := Option.bind_eq_some_iff.1 h
  obtain ⟨⟨v, r2⟩, h2, h⟩ := Option.map_eq_some_iff.1 h
  obtain ⟨_, rfl⟩ := Prod.mk.inj h
  have e1 := behind_sum h1
  have e2 := value_len h2
  dsimp only at e2 ⊢
  have e3 := skip_len r1
  have e4 := skip_len (l.drop (Tk.head l).length)
  rw [List.length_drop] at e4
  simp only [List.length_cons, List.length_nil] at e1
  omega
theorem WalkAt.grown {w w1 : World} {B g : Nat} {ok : Nat → Prop} {s : ByteArray} {L : List S32} {row : Option Nat} (h : WalkAt w B g ok s L) (hg : w.grownBy w1 row) (h1 : some g ≠ row) (h2 : ∀ k, ok k → some k ≠ row) : WalkAt w1 B g ok s L := by
 obtain ⟨v, h3, h4, h5⟩ := h
 exact ⟨v, blk_grown h3 hg h1, Kd.S_grown h4 hg (fun k hk => h2 k hk.1), h5⟩
theorem attInfo : (Try.prog.info? 39).map (fun i => (i.zero, i.size, i.bytes)) = some (some (.agg #[.string ⟨#[]⟩, .string ⟨#[]⟩]), 2, 32) := by kernel_rfl
theorem token_walk_begin.walk (B g : Nat) {ok : Nat → Prop} (l : List UInt8) (res : Option (S32 × List UInt8)) (L : List S32) (w : World) (h : WalkAt w B g ok (Tk.bs l) L) (hG : Glob w) (hl : l.length ≤ 100000) (hL : L.length ≤ 100000) (hok : ∀ k, w.heap.size ≤ k → ok k) (hh : Tk.head l ≠ []) (hx : Tk.attrs (l.length + 1) (Tk.head l) [] (l.drop (Tk.head l).length) = res) :
 Calls Try.prog 44 #[.pointer (some ⟨g, 0, none⟩)] w fun e w' => (∀ t r, res = some (t, r) → e = .returned (.bool true) ∧ WalkAt w' B g ok (Tk.bs r) (L ++ [t])) ∧ (res = none → e = .returned (.bool false)) ∧ Below B w w' := by
 obtain ⟨e1, e2, e3, e4⟩ := bs_some hh
 have hpos := h.pos
 have hsz := h.size
 have hglt := h.lt
 have hdl : (l.drop (Tk.head l).length).length ≤ l.length := by rw [List.length_drop]; omega
 have hu1 := Try.underlying39
 have hu2 := Try.underlying32
 have HG := Aside0.mk hG
 have HX := Aside0.mk hx
 have H0 := Aside0.mk (h.more (ok' := fun k => ok k ∧ k < w.heap.size) (fun k hk ho => ⟨ho, hk⟩))
 clear h hG hh hx
 go_enter Try.func44, Try.ntmps44
 go_wp2
 refine wp_scope_loop 0 (by rfl) ?_
 go_wp2_with (go_at_call 61; refine (token_walk_name.callsK B g l L _ H0.out HG.out (by omega)).mono ?_)
 rintro e wa ⟨rfl, h1, b1, k1⟩
 have HG1 := Aside0.mk (HG.out.below b1 hpos)
 have H1 := Aside0.mk h1
 have B1 := Aside0.mk b1
 have K1 := Aside0.mk k1
 have hsa : w.heap.size ≤ wa.heap.size := b1.size
 clear h1 b1 k1
 go_wp2
 have hb0 : Below wa.heap.size wa (wa.alloc (.cells #[.int .i64 1, .string (Tk.bs (Tk.head l)), .string ⟨#[]⟩, .slice none 0 0, .bool false] 32)) := below_alloc (Below.refl _ _) _
 have X0 : (wa.alloc (.cells #[.int .i64 1, .string (Tk.bs (Tk.head l)), .string ⟨#[]⟩, .slice none 0 0, .bool false] 32)).heap[wa.heap.size]? = some (.cells #[.int .i64 1, .string (Tk.bs (Tk.head l)), .string ⟨#[]⟩, .slice none 0 0, .bool false] 32 (0, 0)) := heap_alloc_new wa _
 obtain ⟨gt, hgt⟩ : ∃ gt, gt = wa.heap.size := ⟨_, rfl⟩
 have hgtw : w.heap.size ≤ gt := by omega
 have hgtg : gt ≠ g := by omega
 have hBgt : B ≤ gt := by omega
 have H2 := Aside0.mk (H1.out.below hb0)
 have B2 := Aside0.mk (B1.out.trans (hb0.mono (by omega)))
 have S2 := Aside0.mk (Nat.le_trans hsa hb0.size)
 rw [← hgt] at X0
 rw [← hgt]
 have X2 := Aside0.mk X0
 clear hb0 X0 H1 B1 K1 HG1 H0
 generalize wa.alloc _ = w0 at *
 clear hgt hsa
 refine wp_label ?_
 rename_i hlb
 refine hlb _ _ ?_
 refine wp_at_label ?_
 refine LoopAt.intro (fun aB_ kq_ a1 w1 => ∃ (u2 u4 u5 u6 u13 u14 u15 u16 u17 u18 u19 u20 u21 u22 u23 u24 u25 u26 u27 u28 u29 u30 u31 u32 u33 u34 u35 u36 u37 u38 u39 u40 u41 u42 u43 u44 u45 u46 u47 u48 u49 : Value), (∃ (m : List UInt8) (xs : List S39) (va : Value), m.length < kq_ ∧ Aside0 (m.length ≤ l.length) ∧ Aside0 (xs.length + m.length ≤ l.length) ∧ Aside0 (Tk.attrs kq_ (Tk.head l) xs m = res) ∧ Aside0 (WalkAt w1 B g (fun k => ok k ∧ k < w.heap.size) (Tk.bs m) L) ∧ Aside0 (w1.heap[gt]? = some (.cells #[.int .i64 1, .string (Tk.bs (Tk.head l)), .string ⟨#[]⟩, va, .bool false] 32 (0, 0))) ∧ Aside0 (Kd.R k39 39 w1 B (fun k => w.heap.size ≤ k) va xs) ∧ Aside0 (Below B w w1) ∧ Aside0 (w.heap.size ≤ w1.heap.size)) ∧ a1 = (((((((((((((((((((((((((((((((((((((((((aB_.put (some 2) u2).put (some 4) u4).put (some 5) u5).put (some 6) u6).put (some 13) u13).put (some 14) u14).put (some 15) u15).put (some 16) u16).put (some 17) u17).put (some 18) u18).put (some 19) u19).put (some 20) u20).put (some 21) u21).put (some 22) u22).put (some 23) u23).put (some 24) u24).put (some 25) u25).put (some 26) u26).put (some 27) u27).put (some 28) u28).put (some 29) u29).put (some 30) u30).put (some 31) u31).put (some 32) u32).put (some 33) u33).put (some 34) u34).put (some 35) u35).put (some 36) u36).put (some 37) u37).put (some 38) u38).put (some 39) u39).put (some 40) u40).put (some 41) u41).put (some 42) u42).put (some 43) u43).put (some 44) u44).put (some 45) u45).put (some 46) u46).put (some 47) u47).put (some 48) u48).put (some 49) u49)) (l.length + 1) ?_ ?_
 ·(repeat apply Exists.intro)
  (try simp only [Act.put, List.setIfInBounds_toArray, List.set_cons_zero, List.set_cons_succ])
  refine ⟨?_, rfl⟩
  exact ⟨l.drop (Tk.head l).length, [], .slice none 0 0, Nat.lt_succ_of_le hdl, ⟨hdl⟩, ⟨by simp⟩, HX, H2, X2, ⟨Kd.R_nil _ _ _ _ _⟩, B2, S2⟩
 ·intro gk a1 wr hinv
  obtain ⟨u2, u4, u5, u6, u13, u14, u15, u16, u17, u18, u19, u20, u21, u22, u23, u24, u25, u26, u27, u28, u29, u30, u31, u32, u33, u34, u35, u36, u37, u38, u39, u40, u41, u42, u43, u44, u45, u46, u47, u48, u49, hrel, ha⟩ := hinv
  subst ha
  (try simp only [Act.put, List.setIfInBounds_toArray, List.set_cons_zero, List.set_cons_succ])
  intro Js0 Ks0 hJs0 hKs0
  clear H2 X2 B2 S2 HX
  obtain ⟨m, xs, va, hmk, HML, HXL, HX, H, X, R, HB, HS⟩ := hrel
  obtain ⟨g1, rfl⟩ : ∃ g1, gk = g1 + 1 := ⟨gk - 1, by omega⟩
  obtain ⟨A0, c0, rfl⟩ := Kd.R_slice R.out
  have hml := HML.out
  have hxl := HXL.out
  have hG1 : Glob wr := HG.out.below HB.out hpos
  have HG1 := Aside0.mk hG1
  have hsl : (Tk.skip m).length ≤ m.length := skip_len m
  obtain ⟨bsp, hbsp⟩ : ∃ b, b = decide ((Tk.skip m).length < m.length) := ⟨_, rfl⟩
  clear hG1
  have CS := token_walk_skip.callsK B g m L wr H.out HG1.out (by omega)
  rw [← hbsp] at CS
  have HBSP := Lib.hid hbsp
  clear hbsp
  have CS1 := Aside0.mk CS
  clear CS
  go_wp2_with (go_at_call 62; refine CS1.out.mono ?_)
  rintro e ws ⟨rfl, h1, b1, k1⟩
  have H3 := Aside0.mk h1
  have HG3 := Aside0.mk (HG1.out.below b1 hpos)
  have B3 := Aside0.mk (HB.out.trans b1)
  have S3 := Aside0.mk (Nat.le_trans HS.out k1.1)
  have X3 := Aside0.mk (k1.blk X.out hgtg (by simp))
  have R3 := Aside0.mk (Kd.R_step R.out (fun k hk hlt => k1.2 k hlt (by omega) (by simp)))
  clear h1 b1 k1 H HG1 HB HS X R CS1
  cases hgt1 : Tk.behind [62] (Tk.skip m) with
  | some r =>
   have hres : res = some (Tk.tk 1 (Tk.head l) [] xs false, r) := by
    rw [← HX.out, Tk.attrs]
    simp only [hgt1]
   have HRES := Lib.hid hres
   have HE := Aside0.mk hgt1
   clear hres hgt1 HX
   go_wp2_with (go_at_call 39; refine (token_walk_eat.yesK B g _ [62] r L _ H3.out HE.out).mono ?_)
   rintro e we ⟨rfl, h1, b1, k1⟩
   have H4 := Aside0.mk (h1.more (ok' := fun k => ok k ∧ ¬ w.heap.size ≤ k) (fun k _ hk => ⟨hk.1, Nat.not_le.2 hk.2⟩))
   have B4 := Aside0.mk (B3.out.trans b1)
   have S4 := Aside0.mk (Nat.le_trans S3.out k1.1)
   have X4 := k1.blk X3.out hgtg (by simp)
   have R4 := Aside0.mk (Kd.R_step R3.out (fun k hk hlt => k1.2 k hlt (by omega) (by simp)))
   clear h1 b1 k1 H3 HG3 B3 S3 X3 R3
   have x0 := (blk_cell X4 0).trans rfl
   have x1 := (blk_cell X4 1).trans rfl
   have x2 := (blk_cell X4 2).trans rfl
   have x3 := (blk_cell X4 3).trans rfl
   have x4 := (blk_cell X4 4).trans rfl
   clear X4
   go_wp2_with (go_at_call 60; refine (token_walk_put.calls B g (fun k => w.heap.size ≤ k) (Tk.bs r) L (Tk.tk 1 (Tk.head l) [] xs false) (.slice A0 xs.length c0) _ H4.out R4.out hok (fun k hk => hok k (Nat.le_trans S4.out hk)) hL).mono ?_)
   rintro e wf ⟨rfl, h1, b1⟩
   have H5 := Aside0.mk h1
   have B5 := Aside0.mk (B4.out.trans b1)
   clear h1 b1
   go_wp2
   (try simp only [Exit.inBlock, Exit.then, jump_ret])
   go_ret
   refine ⟨fun t r' h => ?_, fun h => ?_, B5.out⟩
   ·rw [HRES.out] at h
    obtain ⟨rfl, rfl⟩ := Prod.mk.inj (Option.some.inj h)
    exact ⟨rfl, H5.out⟩
   ·rw [HRES.out] at h; cases h
  | none =>
   have HE := Aside0.mk hgt1
   go_wp2_with (go_at_call 39; refine (token_walk_eat.noK B g _ [62] L _ H3.out HE.out).mono ?_)
   rintro e we ⟨rfl, h1, b1, k1⟩
   have H4 := Aside0.mk h1
   have HG4 := Aside0.mk (HG3.out.below b1 hpos)
   have B4 := Aside0.mk (B3.out.trans b1)
   have S4 := Aside0.mk (Nat.le_trans S3.out k1.1)
   have X4 := Aside0.mk (k1.blk X3.out hgtg (by simp))
   have R4 := Aside0.mk (Kd.R_step R3.out (fun k hk hlt => k1.2 k hlt (by omega) (by simp)))
   clear h1 b1 k1 H3 HG3 B3 S3 X3 R3 HE
   cases hgt2 : Tk.behind [47, 62] (Tk.skip m) with
   | some r =>
    have hres : res = some (Tk.tk 1 (Tk.head l) [] xs true, r) := by
     rw [← HX.out, Tk.attrs]
     simp only [hgt1, hgt2]
    have HRES := Lib.hid hres
    have HE := Aside0.mk hgt2
    clear hres hgt1 hgt2 HX
    go_wp2_with (go_at_call 39; refine (token_walk_eat.yesK B g _ [47, 62] r L _ H4.out HE.out).mono ?_)
    rintro e wh ⟨rfl, h1, b1, k1⟩
    have H5 := Aside0.mk h1
    have B5 := Aside0.mk (B4.out.trans b1)
    have S5 := Aside0.mk (Nat.le_trans S4.out k1.1)
    have X5 := Aside0.mk (k1.blk X4.out hgtg (by simp))
    have R5 := Aside0.mk (Kd.R_step R4.out (fun k hk hlt => k1.2 k hlt (by omega) (by simp)))
    clear h1 b1 k1 H4 HG4 B4 S4 X4 R4
    have y4 := (blk_cell X5.out 4).trans rfl
    have z4 := blk_frozen X5.out 4
    have X6' := blk_set X5.out 4 (.bool true)
    have X6 : (wh.setCell ⟨gt, 4, none⟩ (.bool true)).heap[gt]? = some (.cells #[.int .i64 1, .string (Tk.bs (Tk.head l)), .string ⟨#[]⟩, .slice A0 xs.length c0, .bool true] 32 (0, 0)) := by simpa using X6'
    have x0 := (blk_cell X6 0).trans rfl
    have x1 := (blk_cell X6 1).trans rfl
    have x2 := (blk_cell X6 2).trans rfl
    have x3 := (blk_cell X6 3).trans rfl
    have x4 := (blk_cell X6 4).trans rfl
    have H6 := Aside0.mk ((H5.out.far (p := ⟨gt, 4, none⟩) hgtg (fun k hk => by have := hk.2; show k ≠ gt; omega) (.bool true)).more (ok' := fun k => ok k ∧ ¬ w.heap.size ≤ k) (fun k _ hk => ⟨hk.1, Nat.not_le.2 hk.2⟩))
    have R6 := Aside0.mk (Kd.R_set R5.out X5.out (by decide) 4 (.bool true))
    have B6 := Aside0.mk (B5.out.setCell (p := ⟨gt, 4, none⟩) hBgt (.bool true))
    have S6 : w.heap.size ≤ (wh.setCell ⟨gt, 4, none⟩ (.bool true)).heap.size := by simpa using S5.out
    have S7 := Aside0.mk S6
    clear X6 X6' S6
    go_wp2_with (go_at_call 60; refine (token_walk_put.calls B g (fun k => w.heap.size ≤ k) (Tk.bs r) L (Tk.tk 1 (Tk.head l) [] xs true) (.slice A0 xs.length c0) _ H6.out R6.out hok (fun k hk => hok k (Nat.le_trans S7.out hk)) hL).mono ?_)
    rintro e wf ⟨rfl, h1, b1⟩
    have H7 := Aside0.mk h1
    have B7 := Aside0.mk (B6.out.trans b1)
    clear h1 b1
    go_wp2
    (try simp only [Exit.inBlock, Exit.then, jump_ret])
    go_ret
    refine ⟨fun t r' h => ?_, fun h => ?_, B7.out⟩
    ·rw [HRES.out] at h
     obtain ⟨rfl, rfl⟩ := Prod.mk.inj (Option.some.inj h)
     exact ⟨rfl, H7.out⟩
    ·rw [HRES.out] at h; cases h
   | none =>
    have HE := Aside0.mk hgt2
    cases bsp with
    | false =>
     have heq : (Tk.skip m).length = m.length := by
      have := of_decide_eq_false HBSP.out.symm
      omega
     have hres : res = none := by
      rw [← HX.out, Tk.attrs]
      simp only [hgt1, hgt2]
      rw [if_pos heq]
     have HRES := Lib.hid hres
     clear hres hgt1 hgt2 HX HBSP heq
     go_wp2_with (go_at_call 39; refine (token_walk_eat.noK B g _ [47, 62] L _ H4.out HE.out).mono ?_)
     rintro e wh ⟨rfl, h1, b1, k1⟩
     have B5 := Aside0.mk (B4.out.trans b1)
     clear h1 b1 k1
     go_wp2_with (fail)
     (try simp only [Exit.inBlock, Exit.then, jump_ret])
     go_ret
     refine ⟨fun t r' h => ?_, fun h => rfl, B5.out⟩
     rw [HRES.out] at h; cases h
    | true =>
     have hne : ¬ (Tk.skip m).length = m.length := by
      have := of_decide_eq_true HBSP.out.symm
      omega
     have hst : res = (Tk.attr (Tk.skip m)).bind fun p => if xs.any (fun x => x.f0.toList == p.1.f0.toList) then none else Tk.attrs g1 (Tk.head l) (xs ++ [p.1]) p.2 := by
      rw [← HX.out, Tk.attrs]
      simp only [hgt1, hgt2]
      rw [if_neg hne]
     have HST := Lib.hid hst
     clear hst hgt1 hgt2 HX HBSP
     go_wp2_with (go_at_call 39; refine (token_walk_eat.noK B g _ [47, 62] L _ H4.out HE.out).mono ?_)
     rintro e wh ⟨rfl, h1, b1, k1⟩
     have H5 := Aside0.mk h1
     have HG5 := Aside0.mk (HG4.out.below b1 hpos)
     have B5 := Aside0.mk (B4.out.trans b1)
     have S5 := Aside0.mk (Nat.le_trans S4.out k1.1)
     have X5 := Aside0.mk (k1.blk X4.out hgtg (by simp))
     have R5 := Aside0.mk (Kd.R_step R4.out (fun k hk hlt => k1.2 k hlt (by omega) (by simp)))
     clear h1 b1 k1 H4 HG4 B4 S4 X4 R4 HE
     cases hat : Tk.attr (Tk.skip m) with
     | none =>
      have hres : res = none := by rw [HST.out, hat]; rfl
      have HRES := Lib.hid hres
      have HAT := Aside0.mk hat
      clear hres hat HST
      go_wp2_with (go_at_call 63; refine (token_walk_attr.noA B g (Tk.skip m) L _ H5.out HG5.out (by omega) HAT.out).mono ?_)
      rintro e wi ⟨⟨xx, yy, rfl⟩, b1, k1⟩
      have B6 := Aside0.mk (B5.out.trans b1)
      have hsz6 : B ≤ wi.heap.size := Nat.le_trans hsz B6.out.size |> fun h => h
      clear b1 k1
      go_wp2
      (try simp only [Exit.inBlock, Exit.then, jump_ret])
      go_ret
      refine ⟨fun t r' h => ?_, fun h => rfl, ?_⟩
      ·rw [HRES.out] at h; cases h
      ·exact B6.out.alloc hsz6 _
     | some p =>
      obtain ⟨x, r⟩ := p
      have hrl := attr_len hat
      have HAT := Aside0.mk hat
      have hst2 := HST.out
      rw [hat, Option.bind_some] at hst2
      have hst3 : res = if xs.any (attEq x.f0) = true then none else Tk.attrs g1 (Tk.head l) (xs ++ [x]) r := hst2
      have HST3 := Lib.hid hst3
      clear hst2 hst3 hat HST
      have hrd : r.length < m.length := by omega
      go_wp2_with (go_at_call 63; refine (token_walk_attr.yesA B g (Tk.skip m) r x L _ H5.out HG5.out (by omega) HAT.out).mono ?_)
      rintro e wi ⟨rfl, h1, b1, k1⟩
      have H6 := Aside0.mk h1
      have B6 := Aside0.mk (B5.out.trans b1)
      have S6 := Aside0.mk (Nat.le_trans S5.out k1.1)
      have X6 := Aside0.mk (k1.blk X5.out hgtg (by simp))
      have R6 := Aside0.mk (Kd.R_step R5.out (fun k hk hlt => k1.2 k hlt (by omega) (by simp)))
      clear h1 b1 k1 H5 HG5 B5 S5 X5 R5 HAT
      have x3' := fun o => (blk_cell (blk_alloc X6.out o) 3).trans rfl
      go_wp2_with (fail)
      have hb0 : Below wi.heap.size wi (wi.alloc (.cells #[.string x.f0, .string x.f1] 39)) := below_alloc (Below.refl _ _) _
      have Y0 : (wi.alloc (.cells #[.string x.f0, .string x.f1] 39)).heap[wi.heap.size]? = some (.cells #[.string x.f0, .string x.f1] 39 (0, 0)) := heap_alloc_new wi _
      obtain ⟨ga, hga⟩ : ∃ ga, ga = wi.heap.size := ⟨_, rfl⟩
      have H7 := Aside0.mk (H6.out.below hb0)
      have S6' := S6.out
      have B7 := Aside0.mk (B6.out.trans (hb0.mono (by omega)))
      have S7 := Aside0.mk (Nat.le_trans S6.out hb0.size)
      have X7 := Aside0.mk (blk_below X6.out hb0)
      have R7 := Aside0.mk (Kd.R_below R6.out hb0)
      have Y7 := Aside0.mk Y0
      rw [← hga] at Y7
      rw [← hga]
      clear hb0 Y0 H6 B6 S6 X6 R6 x3' S6'
      generalize wi.alloc _ = wj at *
      clear hga
      have hC := (Kd.R_reads' R7.out).2.2
      have cA := (blk_cell Y7.out 0).trans rfl
      refine (api_Attr_64.callsA A0 c0 xs x.f0 ga wj hC (by omega) cA).mono ?_
      rintro e wk ⟨rfl, b1⟩
      have H8 := Aside0.mk (H7.out.below b1)
      have S7' := S7.out
      have B8 := Aside0.mk (B7.out.trans (b1.mono (by omega)))
      have S8 := Aside0.mk (Nat.le_trans S7.out b1.size)
      have X8 := Aside0.mk (blk_below X7.out b1)
      have R8 := Aside0.mk (Kd.R_below R7.out b1)
      have Y8 := Aside0.mk (blk_below Y7.out b1)
      clear b1 hC cA H7 B7 S7 X7 R7 Y7 S7'
      cases han : xs.any (attEq x.f0) with
      | true =>
       have hres : res = none := by rw [HST3.out, if_pos han]
       have HRES := Lib.hid hres
       clear hres han HST3
       go_wp2
       (try simp only [Exit.inBlock, Exit.then, jump_ret])
       go_ret
       refine ⟨fun t r' h => ?_, fun h => rfl, B8.out⟩
       rw [HRES.out] at h; cases h
      | false =>
       have hnx : Tk.attrs g1 (Tk.head l) (xs ++ [x]) r = res := by rw [HST3.out, if_neg (by rw [han]; decide)]
       have HNX := Aside0.mk hnx
       clear hnx han HST3
       have y0 := (blk_cell Y8.out 0).trans rfl
       have y1 := (blk_cell Y8.out 1).trans rfl
       have x3 := (blk_cell X8.out 3).trans rfl
       have S8' := S8.out
       go_wp2_with (at_builtin; refine Kd.R_append k39 (w0 := w) B rfl (.tmp 45) (.tmp 47) 30 39 _ 32 rfl Try.underlying30 attInfo rfl (by decide) (by decide) (.slice A0 xs.length c0) xs x [.string x.f0, .string x.f1] (fun k => w.heap.size ≤ k) (fun _ => False) rfl rfl (k39_mkM _ _ _ x) (fun k hk => hk.elim) (fun k hk => Nat.le_trans S8.out hk) R8.out B8.out (by omega) (by omega) ?_; intro v1 w1 r1 b1 g1_ at1; obtain ⟨A1, c1, rfl⟩ := Kd.R_slice r1; have hngt : some gt ≠ (Value.slice A0 xs.length c0).ownBlock := Kd.R_ne R8.out X8.out (by decide); have X9 := Aside0.mk (blk_grown X8.out g1_ hngt); have H9 := Aside0.mk (H8.out.grown g1_ (fun he => by have := R8.out.1 g he.symm; omega) (fun k hk he => by have := R8.out.1 k he.symm; have := hk.2; omega)); have R9 := Aside0.mk r1; have B9 := Aside0.mk b1; have S9 := Aside0.mk (Nat.le_trans S8.out g1_.size); clear r1 b1 g1_ at1 hngt X8 H8 R8 B8 S8 S8' Y8 y0 y1 x3; have x3 := (blk_cell X9.out 3).trans rfl; have z3 := blk_frozen X9.out 3)
       refine wp_goto (And.intro rfl ?_)
       refine hKs0 _ _ ?_
       go_roundg g1
       case measure => omega
       case rel =>
        have el : (xs ++ [x]).length = xs.length + 1 := by simp
        have XA := blk_set X9.out 3 (.slice A1 (xs ++ [x]).length c1)
        have RA := Kd.R_set R9.out X9.out (by decide) 3 (.slice A1 (xs ++ [x]).length c1)
        have HA := H9.out.far (p := ⟨gt, 3, none⟩) hgtg (fun k hk => by have := hk.2; show k ≠ gt; omega) (.slice A1 (xs ++ [x]).length c1)
        have BA := B9.out.setCell (p := ⟨gt, 3, none⟩) hBgt (.slice A1 (xs ++ [x]).length c1)
        have SA : w.heap.size ≤ (w1.setCell ⟨gt, 3, none⟩ (.slice A1 (xs ++ [x]).length c1)).heap.size := by simpa using S9.out
        rw [el] at XA RA HA BA SA
        exact ⟨r, xs ++ [x], .slice A1 (xs.length + 1) c1, by omega, ⟨by omega⟩, ⟨by rw [el]; omega⟩, HNX, ⟨HA⟩, ⟨by simpa using XA⟩, ⟨RA⟩, ⟨BA⟩, ⟨SA⟩⟩
theorem token_walk_begin.noh (B g : Nat) {ok : Nat → Prop} (l : List UInt8) (L : List S32) (w : World) (h : WalkAt w B g ok (Tk.bs l) L) (hG : Glob w) (hl : l.length ≤ 100000) (hh : Tk.head l = []) :
 Calls Try.prog 44 #[.pointer (some ⟨g, 0, none⟩)] w fun e w' => e = .returned (.bool false) ∧ Below B w w' := by
 have e1 := bs_none hh
 have hpos := h.pos
 have hsz := h.size
 have HG := Aside0.mk hG
 have H0 := Aside0.mk h
 have hu2 := Try.underlying32
 clear h hG hh
 go_enter Try.func44, Try.ntmps44
 go_wp2
 refine wp_scope_loop 0 (by rfl) ?_
 go_wp2_with (go_at_call 61; refine (token_walk_name.callsK B g l L _ H0.out HG.out (by omega)).mono ?_)
 rintro e wa ⟨rfl, h1, b1, k1⟩
 have B1 := Aside0.mk b1
 have S1 : B ≤ wa.heap.size := Nat.le_trans hsz b1.size |> fun h => h
 clear h1 b1 k1
 go_wp2_with (fail)
 (try simp only [Exit.inBlock, Exit.then, jump_ret])
 go_ret
 exact ⟨rfl, B1.out.alloc S1 _⟩
theorem token_walk_begin.all (B g : Nat) {ok : Nat → Prop} (l : List UInt8) (res : Option (S32 × List UInt8)) (L : List S32) (w : World) (h : WalkAt w B g ok (Tk.bs l) L) (hG : Glob w) (hl : l.length ≤ 100000) (hL : L.length ≤ 100000) (hok : ∀ k, w.heap.size ≤ k → ok k) (hx : Tk.opening l = res) :
 Calls Try.prog 44 #[.pointer (some ⟨g, 0, none⟩)] w fun e w' => (∀ t r, res = some (t, r) → e = .returned (.bool true) ∧ WalkAt w' B g ok (Tk.bs r) (L ++ [t])) ∧ (res = none → e = .returned (.bool false)) ∧ Below B w w' := by
 unfold Tk.opening at hx
 by_cases hh : Tk.head l = []
 ·rw [if_pos hh] at hx
  subst hx
  refine (token_walk_begin.noh B g l L w h hG hl hh).mono ?_
  rintro e w' ⟨rfl, b⟩
  exact ⟨(fun t r h => by cases h), fun _ => rfl, b⟩
 ·rw [if_neg hh] at hx
  exact token_walk_begin.walk B g l res L w h hG hl hL hok hh hx
theorem tw_index : ∀ l : List UInt8, Lib.indexByte l 60 = if (l.takeWhile (· != 60)).length < l.length then ((l.takeWhile (· != 60)).length : Int) else -1
 | [] => rfl
 | c :: r => by
  have ih := tw_index r
  have hle := tw_le (p := fun x => x != 60) r
  by_cases hc : c = 60
  ·subst hc
   rw [Lib.indexByte, List.takeWhile_cons]
   simp
  have h1 : (c == 60) = false := by simpa using hc
  have h2 : (c != 60) = true := by simpa using hc
  rw [Lib.indexByte, h1, List.takeWhile_cons, h2]
  simp only [Bool.false_eq_true, if_false, if_true, List.length_cons]
  by_cases hl : (r.takeWhile (· != 60)).length < r.length
  ·rw [if_pos hl] at ih
   rw [ih, if_pos (show (r.takeWhile (· != 60)).length + 1 < r.length + 1 by omega), if_neg (by simp)]
   omega
  ·rw [if_neg hl] at ih
   rw [ih, if_neg (show ¬ (r.takeWhile (· != 60)).length + 1 < r.length + 1 by omega)]
   rfl
theorem tw_take {p : UInt8 → Bool} (l : List UInt8) : l.take (l.takeWhile p).length = l.takeWhile p := by
 conv => lhs; arg 2; rw [← List.takeWhile_append_dropWhile (p := p) (l := l)]
 exact List.take_left
theorem token_walk_text.y1 (B g : Nat) {ok : Nat → Prop} (l x : List UInt8) (L : List S32) (w : World) (h : WalkAt w B g ok (Tk.bs l) L) (hG : Glob w) (hl : l.length ≤ 100000) (hL : L.length ≤ 100000) (hok : ∀ k, w.heap.size ≤ k → ok k) (hf :  (l.takeWhile (· != 60)).length < l.length) (hv : Tk.entities (l.takeWhile (· != 60)) = some x) :
 Calls Try.prog 45 #[.pointer (some ⟨g, 0, none⟩)] w fun e w' => e = .returned (.bool true) ∧ WalkAt w' B g ok (Tk.bs (l.drop (l.takeWhile (· != 60)).length)) (L ++ [Tk.tk 3 [] x [] false]) ∧ Below B w w' := by
 have hpos := h.pos
 have hsz := h.size
 have hgeB := h.ge
 have hle := tw_le (p := fun x => x != 60) l
 have htk := tw_take (p := fun x => x != 60) l
 have hix := tw_index l
 rw [if_pos hf] at hix
 obtain ⟨t, ht⟩ : ∃ t, l.takeWhile (· != 60) = t := ⟨_, rfl⟩
 rw [ht] at hle htk hix hv hf ⊢
 have hl0 := bs_size l
 have hdr := bs_drop l t.length
 have hta := bs_take l t.length
 rw [htk] at hta
 obtain ⟨s, hs⟩ : ∃ s, s = Tk.bs l := ⟨_, rfl⟩
 rw [← hs] at hdr hta h hl0
 have CI : ∀ W, Calls Try.prog 66 #[.string s, .int .u8 60] W fun e w' => e = .returned (.int .i64 (t.length : Int)) ∧ W = w' := by
  intro W
  refine (Try.strings_IndexByte s 60 W).mono ?_
  rintro e w' ⟨rfl, rfl⟩
  refine ⟨?_, rfl⟩
  rw [show Lib.indexByte s.data.toList ((60 : Int).toNat.toUInt8) = (t.length : Int) from by rw [hs]; exact hix]
 obtain ⟨z, hz⟩ : ∃ z : Int, z = (t.length : Int) := ⟨_, rfl⟩
 rw [← hz] at CI
 have z0 : decide (z < 0) = false := decide_eq_false (by omega)
 have z1 := eq_true (show 0 ≤ z by omega)
 have z2 := eq_true (show z ≤ (s.size : Int) by omega)
 have hzt : z.toNat = t.length := by omega
 have CE : ∀ W, Glob W → Calls Try.prog 14 #[.string (s.extract 0 z.toNat)] W fun e w' => e = .returned (.tuple #[.string (Tk.bs x), .int .i64 0]) ∧ Below W.heap.size W w' := by
  intro W hW
  rw [hzt, hta]
  exact ent_f (x := (x, 0)) (entsV_some hv) (by omega) W hW
 have hex : s.extract z.toNat s.size = Tk.bs (l.drop t.length) := by rw [hzt, hdr]
 have HEX := Lib.hid hex
 have HG := Aside0.mk hG
 have c0 := h.cell0
 have H0 := Aside0.mk h
 clear h hG hv hf ht htk hix hta hdr hs hex hle hl0 hzt hz
 go_enter Try.func45, Try.ntmps45
 go_wp2_with (go_at_call 66; (with_reducible refine (CI _).mono ?_))
 rintro e w1 ⟨rfl, rfl⟩
 go_wp2_with (go_at_call 14; (with_reducible refine (CE _ HG.out).mono ?_))
 rintro e w2 ⟨rfl, b1⟩
 have H1 := Aside0.mk (H0.out.below b1)
 have B1 := Aside0.mk (b1.mono hsz)
 have S1 := Aside0.mk b1.size
 clear b1 H0
 have c1 := H1.out.cell0
 have f1 := H1.out.frozen 0
 have H2 := Aside0.mk (H1.out.left (s.extract z.toNat s.size))
 have B2 := Aside0.mk (B1.out.setCell (p := ⟨g, 0, none⟩) hgeB (.string (s.extract z.toNat s.size)))
 have S2 : w.heap.size ≤ (w2.setCell ⟨g, 0, none⟩ (.string (s.extract z.toNat s.size))).heap.size := by simpa using S1.out
 have S3 := Aside0.mk S2
 clear S2
 go_wp2_with (go_at_call 60; refine (token_walk_put.calls B g (fun _ => False) _ L (Tk.tk 3 [] x [] false) (.slice none 0 0) _ (H2.out.more (fun k _ hk => ⟨hk, fun h => h⟩)) (Kd.R_nil _ _ _ _ _) (fun _ h => h.elim) (fun k hk => hok k (Nat.le_trans S3.out hk)) hL).mono ?_)
 rintro e w4 ⟨rfl, h4, b4⟩
 have H4 := Aside0.mk h4
 have B4 := Aside0.mk (B2.out.trans b4)
 clear h4 b4
 go_wp2
 go_ret
 refine ⟨rfl, ?_, B4.out⟩
 rw [← HEX.out]
 exact H4.out
theorem token_walk_text.n1 (B g : Nat) {ok : Nat → Prop} (l : List UInt8) (L : List S32) (w : World) (h : WalkAt w B g ok (Tk.bs l) L) (hG : Glob w) (hl : l.length ≤ 100000) (hf :  (l.takeWhile (· != 60)).length < l.length) (hv : Tk.entities (l.takeWhile (· != 60)) = none) :
 Calls Try.prog 45 #[.pointer (some ⟨g, 0, none⟩)] w fun e w' => e = .returned (.bool false) ∧ Below B w w' := by
 have hpos := h.pos
 have hsz := h.size
 have hgeB := h.ge
 have hle := tw_le (p := fun x => x != 60) l
 have htk := tw_take (p := fun x => x != 60) l
 have hix := tw_index l
 rw [if_pos hf] at hix
 obtain ⟨t, ht⟩ : ∃ t, l.takeWhile (· != 60) = t := ⟨_, rfl⟩
 rw [ht] at hle htk hix hv hf
 have hl0 := bs_size l
 have hdr := bs_drop l t.length
 have hta := bs_take l t.length
 rw [htk] at hta
 obtain ⟨s, hs⟩ : ∃ s, s = Tk.bs l := ⟨_, rfl⟩
 rw [← hs] at hdr hta h hl0
 have CI : ∀ W, Calls Try.prog 66 #[.string s, .int .u8 60] W fun e w' => e = .returned (.int .i64 (t.length : Int)) ∧ W = w' := by
  intro W
  refine (Try.strings_IndexByte s 60 W).mono ?_
  rintro e w' ⟨rfl, rfl⟩
  refine ⟨?_, rfl⟩
  rw [show Lib.indexByte s.data.toList ((60 : Int).toNat.toUInt8) = (t.length : Int) from by rw [hs]; exact hix]
 obtain ⟨z, hz⟩ : ∃ z : Int, z = (t.length : Int) := ⟨_, rfl⟩
 rw [← hz] at CI
 have z0 : decide (z < 0) = false := decide_eq_false (by omega)
 have z1 := eq_true (show 0 ≤ z by omega)
 have z2 := eq_true (show z ≤ (s.size : Int) by omega)
 have hzt : z.toNat = t.length := by omega
 have CE : ∀ W, Glob W → Calls Try.prog 14 #[.string (s.extract 0 z.toNat)] W fun e w' => e = .returned (.tuple #[.string (Tk.bs []), .int .i64 5]) ∧ Below W.heap.size W w' := by
  intro W hW
  rw [hzt, hta]
  exact ent_f (x := ([], 5)) (entsV_none hv) (by omega) W hW
 have hex : s.extract z.toNat s.size = Tk.bs (l.drop t.length) := by rw [hzt, hdr]
 have HEX := Lib.hid hex
 have HG := Aside0.mk hG
 have c0 := h.cell0
 have H0 := Aside0.mk h
 clear h hG hv hf ht htk hix hta hdr hs hex hle hl0 hzt hz
 go_enter Try.func45, Try.ntmps45
 go_wp2_with (go_at_call 66; (with_reducible refine (CI _).mono ?_))
 rintro e w1 ⟨rfl, rfl⟩
 go_wp2_with (go_at_call 14; (with_reducible refine (CE _ HG.out).mono ?_))
 rintro e w2 ⟨rfl, b1⟩
 have H1 := Aside0.mk (H0.out.below b1)
 have B1 := Aside0.mk (b1.mono hsz)
 have S1 := Aside0.mk b1.size
 clear b1 H0
 have c1 := H1.out.cell0
 have f1 := H1.out.frozen 0
 have B2 := Aside0.mk (B1.out.setCell (p := ⟨g, 0, none⟩) hgeB (.string (s.extract z.toNat s.size)))
 go_wp2
 go_ret
 exact ⟨rfl, B2.out⟩
theorem token_walk_text.y0 (B g : Nat) {ok : Nat → Prop} (l x : List UInt8) (L : List S32) (w : World) (h : WalkAt w B g ok (Tk.bs l) L) (hG : Glob w) (hl : l.length ≤ 100000) (hL : L.length ≤ 100000) (hok : ∀ k, w.heap.size ≤ k → ok k) (hf : ¬ (l.takeWhile (· != 60)).length < l.length) (hv : Tk.entities (l.takeWhile (· != 60)) = some x) :
 Calls Try.prog 45 #[.pointer (some ⟨g, 0, none⟩)] w fun e w' => e = .returned (.bool true) ∧ WalkAt w' B g ok (Tk.bs (l.drop (l.takeWhile (· != 60)).length)) (L ++ [Tk.tk 3 [] x [] false]) ∧ Below B w w' := by
 have hpos := h.pos
 have hsz := h.size
 have hgeB := h.ge
 have hle := tw_le (p := fun x => x != 60) l
 have htk := tw_take (p := fun x => x != 60) l
 have hix := tw_index l
 rw [if_neg hf] at hix
 obtain ⟨t, ht⟩ : ∃ t, l.takeWhile (· != 60) = t := ⟨_, rfl⟩
 rw [ht] at hle htk hv hf ⊢
 have hl0 := bs_size l
 have hdr := bs_drop l t.length
 have hta := bs_take l t.length
 rw [htk] at hta
 obtain ⟨s, hs⟩ : ∃ s, s = Tk.bs l := ⟨_, rfl⟩
 rw [← hs] at hdr hta h hl0
 have CI : ∀ W, Calls Try.prog 66 #[.string s, .int .u8 60] W fun e w' => e = .returned (.int .i64 (-1)) ∧ W = w' := by
  intro W
  refine (Try.strings_IndexByte s 60 W).mono ?_
  rintro e w' ⟨rfl, rfl⟩
  refine ⟨?_, rfl⟩
  rw [show Lib.indexByte s.data.toList ((60 : Int).toNat.toUInt8) = (-1) from by rw [hs]; exact hix]
 have hts : t.length = l.length := by omega
 have hss : t.length = s.size := by omega
 obtain ⟨z, hz⟩ : ∃ z : Int, z = (s.size : Int) := ⟨_, rfl⟩
 have z0 : decide (z < 0) = false := decide_eq_false (by omega)
 have z1 := eq_true (show 0 ≤ z by omega)
 have z2 := eq_true (show z ≤ (s.size : Int) by omega)
 have hzt : z.toNat = t.length := by omega
 have CE : ∀ W, Glob W → Calls Try.prog 14 #[.string (s.extract 0 z.toNat)] W fun e w' => e = .returned (.tuple #[.string (Tk.bs x), .int .i64 0]) ∧ Below W.heap.size W w' := by
  intro W hW
  rw [hzt, hta]
  exact ent_f (x := (x, 0)) (entsV_some hv) (by omega) W hW
 have hex : s.extract z.toNat s.size = Tk.bs (l.drop t.length) := by rw [hzt, hdr]
 have HEX := Lib.hid hex
 have HG := Aside0.mk hG
 have c0 := h.cell0
 have H0 := Aside0.mk h
 have hzs : (s.size : Int) = z := hz.symm
 have HZ := Lib.hid hzs
 clear h hG hv hf ht htk hix hta hdr hs hex hle hl0 hzt hz hzs hts hss
 go_enter Try.func45, Try.ntmps45
 go_wp2_with (go_at_call 66; (with_reducible refine (CI _).mono ?_))
 rintro e w1 ⟨rfl, rfl⟩
 have hmz := HZ.out
 go_wp2_with (go_at_call 14; (with_reducible refine (CE _ HG.out).mono ?_))
 rintro e w2 ⟨rfl, b1⟩
 have H1 := Aside0.mk (H0.out.below b1)
 have B1 := Aside0.mk (b1.mono hsz)
 have S1 := Aside0.mk b1.size
 clear b1 H0
 have c1 := H1.out.cell0
 have f1 := H1.out.frozen 0
 have H2 := Aside0.mk (H1.out.left (s.extract z.toNat s.size))
 have B2 := Aside0.mk (B1.out.setCell (p := ⟨g, 0, none⟩) hgeB (.string (s.extract z.toNat s.size)))
 have S2 : w.heap.size ≤ (w2.setCell ⟨g, 0, none⟩ (.string (s.extract z.toNat s.size))).heap.size := by simpa using S1.out
 have S3 := Aside0.mk S2
 clear S2
 go_wp2_with (go_at_call 60; refine (token_walk_put.calls B g (fun _ => False) _ L (Tk.tk 3 [] x [] false) (.slice none 0 0) _ (H2.out.more (fun k _ hk => ⟨hk, fun h => h⟩)) (Kd.R_nil _ _ _ _ _) (fun _ h => h.elim) (fun k hk => hok k (Nat.le_trans S3.out hk)) hL).mono ?_)
 rintro e w4 ⟨rfl, h4, b4⟩
 have H4 := Aside0.mk h4
 have B4 := Aside0.mk (B2.out.trans b4)
 clear h4 b4
 go_wp2
 go_ret
 refine ⟨rfl, ?_, B4.out⟩
 rw [← HEX.out]
 exact H4.out
theorem token_walk_text.n0 (B g : Nat) {ok : Nat → Prop} (l : List UInt8) (L : List S32) (w : World) (h : WalkAt w B g ok (Tk.bs l) L) (hG : Glob w) (hl : l.length ≤ 100000) (hf : ¬ (l.takeWhile (· != 60)).length < l.length) (hv : Tk.entities (l.takeWhile (· != 60)) = none) :
 Calls Try.prog 45 #[.pointer (some ⟨g, 0, none⟩)] w fun e w' => e = .returned (.bool false) ∧ Below B w w' := by
 have hpos := h.pos
 have hsz := h.size
 have hgeB := h.ge
 have hle := tw_le (p := fun x => x != 60) l
 have htk := tw_take (p := fun x => x != 60) l
 have hix := tw_index l
 rw [if_neg hf] at hix
 obtain ⟨t, ht⟩ : ∃ t, l.takeWhile (· != 60) = t := ⟨_, rfl⟩
 rw [ht] at hle htk hv hf
 have hl0 := bs_size l
 have hdr := bs_drop l t.length
 have hta := bs_take l t.length
 rw [htk] at hta
 obtain ⟨s, hs⟩ : ∃ s, s = Tk.bs l := ⟨_, rfl⟩
 rw [← hs] at hdr hta h hl0
 have CI : ∀ W, Calls Try.prog 66 #[.string s, .int .u8 60] W fun e w' => e = .returned (.int .i64 (-1)) ∧ W = w' := by
  intro W
  refine (Try.strings_IndexByte s 60 W).mono ?_
  rintro e w' ⟨rfl, rfl⟩
  refine ⟨?_, rfl⟩
  rw [show Lib.indexByte s.data.toList ((60 : Int).toNat.toUInt8) = (-1) from by rw [hs]; exact hix]
 have hts : t.length = l.length := by omega
 have hss : t.length = s.size := by omega
 obtain ⟨z, hz⟩ : ∃ z : Int, z = (s.size : Int) := ⟨_, rfl⟩
 have z0 : decide (z < 0) = false := decide_eq_false (by omega)
 have z1 := eq_true (show 0 ≤ z by omega)
 have z2 := eq_true (show z ≤ (s.size : Int) by omega)
 have hzt : z.toNat = t.length := by omega
 have CE : ∀ W, Glob W → Calls Try.prog 14 #[.string (s.extract 0 z.toNat)] W fun e w' => e = .returned (.tuple #[.string (Tk.bs []), .int .i64 5]) ∧ Below W.heap.size W w' := by
  intro W hW
  rw [hzt, hta]
  exact ent_f (x := ([], 5)) (entsV_none hv) (by omega) W hW
 have hex : s.extract z.toNat s.size = Tk.bs (l.drop t.length) := by rw [hzt, hdr]
 have HEX := Lib.hid hex
 have HG := Aside0.mk hG
 have c0 := h.cell0
 have H0 := Aside0.mk h
 have hzs : (s.size : Int) = z := hz.symm
 have HZ := Lib.hid hzs
 clear h hG hv hf ht htk hix hta hdr hs hex hle hl0 hzt hz hzs hts hss
 go_enter Try.func45, Try.ntmps45
 go_wp2_with (go_at_call 66; (with_reducible refine (CI _).mono ?_))
 rintro e w1 ⟨rfl, rfl⟩
 have hmz := HZ.out
 go_wp2_with (go_at_call 14; (with_reducible refine (CE _ HG.out).mono ?_))
 rintro e w2 ⟨rfl, b1⟩
 have H1 := Aside0.mk (H0.out.below b1)
 have B1 := Aside0.mk (b1.mono hsz)
 have S1 := Aside0.mk b1.size
 clear b1 H0
 have c1 := H1.out.cell0
 have f1 := H1.out.frozen 0
 have B2 := Aside0.mk (B1.out.setCell (p := ⟨g, 0, none⟩) hgeB (.string (s.extract z.toNat s.size)))
 go_wp2
 go_ret
 exact ⟨rfl, B2.out⟩
theorem token_walk_text.all (B g : Nat) {ok : Nat → Prop} (l : List UInt8) (res : Option (S32 × List UInt8)) (L : List S32) (w : World) (h : WalkAt w B g ok (Tk.bs l) L) (hG : Glob w) (hl : l.length ≤ 100000) (hL : L.length ≤ 100000) (hok : ∀ k, w.heap.size ≤ k → ok k) (hx : Tk.text l = res) :
 Calls Try.prog 45 #[.pointer (some ⟨g, 0, none⟩)] w fun e w' => (∀ t r, res = some (t, r) → e = .returned (.bool true) ∧ WalkAt w' B g ok (Tk.bs r) (L ++ [t])) ∧ (res = none → e = .returned (.bool false)) ∧ Below B w w' := by
 unfold Tk.text at hx
 dsimp only at hx
 cases hv : Tk.entities (l.takeWhile (· != 60)) with
 | none =>
  rw [hv] at hx
  subst hx
  by_cases hf : (l.takeWhile (· != 60)).length < l.length
  ·refine (token_walk_text.n1 B g l L w h hG hl hf hv).mono ?_
   rintro e w' ⟨rfl, b⟩
   exact ⟨(fun t r h => by cases h), fun _ => rfl, b⟩
  ·refine (token_walk_text.n0 B g l L w h hG hl hf hv).mono ?_
   rintro e w' ⟨rfl, b⟩
   exact ⟨(fun t r h => by cases h), fun _ => rfl, b⟩
 | some x =>
  rw [hv] at hx
  subst hx
  by_cases hf : (l.takeWhile (· != 60)).length < l.length
  ·refine (token_walk_text.y1 B g l x L w h hG hl hL hok hf hv).mono ?_
   rintro e w' ⟨rfl, h1, b⟩
   refine ⟨fun t r h => ?_, (fun h => by cases h), b⟩
   obtain ⟨rfl, rfl⟩ := Prod.mk.inj (Option.some.inj h)
   exact ⟨rfl, h1⟩
  ·refine (token_walk_text.y0 B g l x L w h hG hl hL hok hf hv).mono ?_
   rintro e w' ⟨rfl, h1, b⟩
   refine ⟨fun t r h => ?_, (fun h => by cases h), b⟩
   obtain ⟨rfl, rfl⟩ := Prod.mk.inj (Option.some.inj h)
   exact ⟨rfl, h1⟩
end Go.Proofs.Ytomikblbfappnaa.Q
