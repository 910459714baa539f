/- Texts put together: what functions of the program compute, and plain words about them. -/
import Derived.Test.YtomikblbfappnaaLawTokenTextsM1
import Derived.Test.YtomikblbfappnaaLawTokenTextsM2
import Derived.Test.YtomikblbfappnaaProg
import Derived.Test.YtomikblbfappnaaRows
import Derived.ChangeArms
import Derived.Deep.DeepHandedRow
import Derived.Shelf.Vars
import Derived.Below
import Derived.Deep.Draws
import Derived.Deep.AppendLies
import Derived.Maps.AppendAt
import Derived.OwnWalk
import Derived.Laws.BytesArg
import Derived.Laws.MakeOwn
import Derived.Laws.OwnMore
import Derived.Deep.OwnRows
import Derived.Tactics
import Derived.Lib.ConvBytes
import Derived.Laws.Slices
import Derived.WalkKit
import Derived.KernelRfl
import Derived.RowKit3
import Derived.Deep.LoopGhost
import Derived.Deep.QuietTactic
import Derived.BigQuiet
import Derived.WideLaws
import Derived.Deep.DeepCutAuto
import Derived.Deep.CutBlock
import Derived.Deep.RegionHeld3
import Derived.Laws.Rows
import Derived.Lib.AppendStr
import Derived.ArgAppend
import Derived.Laws.IdiomCopy
import Derived.OrdersHeld
import Derived.Laws.BitsLemmas
import Derived.RowKit

-- Printed by this session's wip/np.py over the kit's print program. Not trusted: Lean checks it.
namespace Go.Proofs.Ytomikblbfappnaa.Q
open Go.RowKit Go.Proofs.YtomikblbfappnaaW.PrintWords Go.Proofs.YtomikblbfappnaaW.PrintLast Go.Proofs.YtomikblbfappnaaW.Own Go.Proofs.YtomikblbfappnaaW.PrintMore
attribute [local go_sem] max2_int min2_int max_two min_two max_three min_three max_four min_four
set_option linter.unusedVariables false
set_option linter.unusedSimpArgs false

/-! ### token_walk_text: function 45 -/
theorem tw_index : ∀ l : List UInt8, Lib.indexByte l 60 = if (l.takeWhile (· != 60)).length < l.length then ((l.takeWhile (· != 60)).length : Int) else -1
 | [] => rfl
 | c :: r => by
  have ih := tw_index r
  have hle := tw_le (p := fun x => x != 60) r
  by_cases hc : c = 60
  ·subst hc
   rw [Lib.indexByte, List.takeWhile_cons]
   simp
  ·have h1 : (c == 60) = false := by simpa using hc
   have h2 : (c != 60) = true := by simpa using hc
   rw [Lib.indexByte, h1, List.takeWhile_cons, h2]
   simp only [Bool.false_eq_true, if_false, if_true, List.length_cons]
   by_cases hl : (r.takeWhile (· != 60)).length < r.length
   ·rw [if_pos hl] at ih
    rw [ih, if_pos (show (r.takeWhile (· != 60)).length + 1 < r.length + 1 by omega), if_neg (by simp)]
    omega
   ·rw [if_neg hl] at ih
    rw [ih, if_neg (show ¬ (r.takeWhile (· != 60)).length + 1 < r.length + 1 by omega)]
    rfl
theorem tw_take {p : UInt8 → Bool} (l : List UInt8) : l.take (l.takeWhile p).length = l.takeWhile p := by
 conv => lhs; arg 2; rw [← List.takeWhile_append_dropWhile (p := p) (l := l)]
 exact List.take_left
set_option maxHeartbeats 4000000 in
set_option maxRecDepth 100000 in
theorem token_walk_text.y1 (B g : Nat) {ok : Nat → Prop} (l x : List UInt8) (L : List S32) (w : World) (h : WalkAt w B g ok (Tk.bs l) L) (hG : Glob w) (hl : l.length ≤ 100000) (hL : L.length ≤ 100000) (hok : ∀ k, w.heap.size ≤ k → ok k) (hf :  (l.takeWhile (· != 60)).length < l.length) (hv : Tk.entities (l.takeWhile (· != 60)) = some x) :
 Calls Try.prog 45 #[.pointer (some ⟨g, 0, none⟩)] w fun e w' => e = .returned (.bool true) ∧ WalkAt w' B g ok (Tk.bs (l.drop (l.takeWhile (· != 60)).length)) (L ++ [Tk.tk 3 [] x [] false]) ∧ Below B w w' := by
 have hpos := h.pos
 have hsz := h.size
 have hgeB := h.ge
 have hle := tw_le (p := fun x => x != 60) l
 have htk := tw_take (p := fun x => x != 60) l
 have hix := tw_index l
 rw [if_pos hf] at hix
 obtain ⟨t, ht⟩ : ∃ t, l.takeWhile (· != 60) = t := ⟨_, rfl⟩
 rw [ht] at hle htk hix hv hf ⊢
 have hl0 := bs_size l
 have hdr := bs_drop l t.length
 have hta := bs_take l t.length
 rw [htk] at hta
 obtain ⟨s, hs⟩ : ∃ s, s = Tk.bs l := ⟨_, rfl⟩
 rw [← hs] at hdr hta h hl0
 have CI : ∀ W, Calls Try.prog 66 #[.string s, .int .u8 60] W fun e w' => e = .returned (.int .i64 (t.length : Int)) ∧ W = w' := by
  intro W
  refine (Try.strings_IndexByte s 60 W).mono ?_
  rintro e w' ⟨rfl, rfl⟩
  refine ⟨?_, rfl⟩
  rw [show Lib.indexByte s.data.toList ((60 : Int).toNat.toUInt8) = (t.length : Int) from by rw [hs]; exact hix]
 obtain ⟨z, hz⟩ : ∃ z : Int, z = (t.length : Int) := ⟨_, rfl⟩
 rw [← hz] at CI
 have z0 : decide (z < 0) = false := decide_eq_false (by omega)
 have z1 := eq_true (show 0 ≤ z by omega)
 have z2 := eq_true (show z ≤ (s.size : Int) by omega)
 have hzt : z.toNat = t.length := by omega
 have CE : ∀ W, Glob W → Calls Try.prog 14 #[.string (s.extract 0 z.toNat)] W fun e w' => e = .returned (.tuple #[.string (Tk.bs x), .int .i64 0]) ∧ Below W.heap.size W w' := by
  intro W hW
  rw [hzt, hta]
  exact ent_f (x := (x, 0)) (entsV_some hv) (by omega) W hW
 have hex : s.extract z.toNat s.size = Tk.bs (l.drop t.length) := by rw [hzt, hdr]
 have HEX := Lib.hid hex
 have HG := Aside0.mk hG
 have c0 := h.cell0
 have H0 := Aside0.mk h
 clear h hG hv hf ht htk hix hta hdr hs hex hle hl0 hzt hz
 go_enter Try.func45, Try.ntmps45
 go_wp2_with (go_at_call 66; (with_reducible refine (CI _).mono ?_))
 rintro e w1 ⟨rfl, rfl⟩
 go_wp2_with (go_at_call 14; (with_reducible refine (CE _ HG.out).mono ?_))
 rintro e w2 ⟨rfl, b1⟩
 have H1 := Aside0.mk (H0.out.below b1)
 have B1 := Aside0.mk (b1.mono hsz)
 have S1 := Aside0.mk b1.size
 clear b1 H0
 have c1 := H1.out.cell0
 have f1 := H1.out.frozen 0
 have H2 := Aside0.mk (H1.out.left (s.extract z.toNat s.size))
 have B2 := Aside0.mk (B1.out.setCell (p := ⟨g, 0, none⟩) hgeB (.string (s.extract z.toNat s.size)))
 have S2 : w.heap.size ≤ (w2.setCell ⟨g, 0, none⟩ (.string (s.extract z.toNat s.size))).heap.size := by simpa using S1.out
 have S3 := Aside0.mk S2
 clear S2
 go_wp2_with (go_at_call 60; refine (token_walk_put.calls B g (fun _ => False) _ L (Tk.tk 3 [] x [] false) (.slice none 0 0) _ (H2.out.more (fun k _ hk => ⟨hk, fun h => h⟩)) (Kd.R_nil _ _ _ _ _) (fun _ h => h.elim) (fun k hk => hok k (Nat.le_trans S3.out hk)) hL).mono ?_)
 rintro e w4 ⟨rfl, h4, b4⟩
 have H4 := Aside0.mk h4
 have B4 := Aside0.mk (B2.out.trans b4)
 clear h4 b4
 go_wp2
 go_ret
 refine ⟨rfl, ?_, B4.out⟩
 rw [← HEX.out]
 exact H4.out
set_option maxHeartbeats 4000000 in
set_option maxRecDepth 100000 in
theorem token_walk_text.n1 (B g : Nat) {ok : Nat → Prop} (l : List UInt8) (L : List S32) (w : World) (h : WalkAt w B g ok (Tk.bs l) L) (hG : Glob w) (hl : l.length ≤ 100000) (hf :  (l.takeWhile (· != 60)).length < l.length) (hv : Tk.entities (l.takeWhile (· != 60)) = none) :
 Calls Try.prog 45 #[.pointer (some ⟨g, 0, none⟩)] w fun e w' => e = .returned (.bool false) ∧ Below B w w' := by
 have hpos := h.pos
 have hsz := h.size
 have hgeB := h.ge
 have hle := tw_le (p := fun x => x != 60) l
 have htk := tw_take (p := fun x => x != 60) l
 have hix := tw_index l
 rw [if_pos hf] at hix
 obtain ⟨t, ht⟩ : ∃ t, l.takeWhile (· != 60) = t := ⟨_, rfl⟩
 rw [ht] at hle htk hix hv hf
 have hl0 := bs_size l
 have hdr := bs_drop l t.length
 have hta := bs_take l t.length
 rw [htk] at hta
 obtain ⟨s, hs⟩ : ∃ s, s = Tk.bs l := ⟨_, rfl⟩
 rw [← hs] at hdr hta h hl0
 have CI : ∀ W, Calls Try.prog 66 #[.string s, .int .u8 60] W fun e w' => e = .returned (.int .i64 (t.length : Int)) ∧ W = w' := by
  intro W
  refine (Try.strings_IndexByte s 60 W).mono ?_
  rintro e w' ⟨rfl, rfl⟩
  refine ⟨?_, rfl⟩
  rw [show Lib.indexByte s.data.toList ((60 : Int).toNat.toUInt8) = (t.length : Int) from by rw [hs]; exact hix]
 obtain ⟨z, hz⟩ : ∃ z : Int, z = (t.length : Int) := ⟨_, rfl⟩
 rw [← hz] at CI
 have z0 : decide (z < 0) = false := decide_eq_false (by omega)
 have z1 := eq_true (show 0 ≤ z by omega)
 have z2 := eq_true (show z ≤ (s.size : Int) by omega)
 have hzt : z.toNat = t.length := by omega
 have CE : ∀ W, Glob W → Calls Try.prog 14 #[.string (s.extract 0 z.toNat)] W fun e w' => e = .returned (.tuple #[.string (Tk.bs []), .int .i64 5]) ∧ Below W.heap.size W w' := by
  intro W hW
  rw [hzt, hta]
  exact ent_f (x := ([], 5)) (entsV_none hv) (by omega) W hW
 have hex : s.extract z.toNat s.size = Tk.bs (l.drop t.length) := by rw [hzt, hdr]
 have HEX := Lib.hid hex
 have HG := Aside0.mk hG
 have c0 := h.cell0
 have H0 := Aside0.mk h
 clear h hG hv hf ht htk hix hta hdr hs hex hle hl0 hzt hz
 go_enter Try.func45, Try.ntmps45
 go_wp2_with (go_at_call 66; (with_reducible refine (CI _).mono ?_))
 rintro e w1 ⟨rfl, rfl⟩
 go_wp2_with (go_at_call 14; (with_reducible refine (CE _ HG.out).mono ?_))
 rintro e w2 ⟨rfl, b1⟩
 have H1 := Aside0.mk (H0.out.below b1)
 have B1 := Aside0.mk (b1.mono hsz)
 have S1 := Aside0.mk b1.size
 clear b1 H0
 have c1 := H1.out.cell0
 have f1 := H1.out.frozen 0
 have B2 := Aside0.mk (B1.out.setCell (p := ⟨g, 0, none⟩) hgeB (.string (s.extract z.toNat s.size)))
 go_wp2
 go_ret
 exact ⟨rfl, B2.out⟩
set_option maxHeartbeats 4000000 in
set_option maxRecDepth 100000 in
theorem token_walk_text.y0 (B g : Nat) {ok : Nat → Prop} (l x : List UInt8) (L : List S32) (w : World) (h : WalkAt w B g ok (Tk.bs l) L) (hG : Glob w) (hl : l.length ≤ 100000) (hL : L.length ≤ 100000) (hok : ∀ k, w.heap.size ≤ k → ok k) (hf : ¬ (l.takeWhile (· != 60)).length < l.length) (hv : Tk.entities (l.takeWhile (· != 60)) = some x) :
 Calls Try.prog 45 #[.pointer (some ⟨g, 0, none⟩)] w fun e w' => e = .returned (.bool true) ∧ WalkAt w' B g ok (Tk.bs (l.drop (l.takeWhile (· != 60)).length)) (L ++ [Tk.tk 3 [] x [] false]) ∧ Below B w w' := by
 have hpos := h.pos
 have hsz := h.size
 have hgeB := h.ge
 have hle := tw_le (p := fun x => x != 60) l
 have htk := tw_take (p := fun x => x != 60) l
 have hix := tw_index l
 rw [if_neg hf] at hix
 obtain ⟨t, ht⟩ : ∃ t, l.takeWhile (· != 60) = t := ⟨_, rfl⟩
 rw [ht] at hle htk hv hf ⊢
 have hl0 := bs_size l
 have hdr := bs_drop l t.length
 have hta := bs_take l t.length
 rw [htk] at hta
 obtain ⟨s, hs⟩ : ∃ s, s = Tk.bs l := ⟨_, rfl⟩
 rw [← hs] at hdr hta h hl0
 have CI : ∀ W, Calls Try.prog 66 #[.string s, .int .u8 60] W fun e w' => e = .returned (.int .i64 (-1)) ∧ W = w' := by
  intro W
  refine (Try.strings_IndexByte s 60 W).mono ?_
  rintro e w' ⟨rfl, rfl⟩
  refine ⟨?_, rfl⟩
  rw [show Lib.indexByte s.data.toList ((60 : Int).toNat.toUInt8) = (-1) from by rw [hs]; exact hix]
 have hts : t.length = l.length := by omega
 have hss : t.length = s.size := by omega
 obtain ⟨z, hz⟩ : ∃ z : Int, z = (s.size : Int) := ⟨_, rfl⟩
 have z0 : decide (z < 0) = false := decide_eq_false (by omega)
 have z1 := eq_true (show 0 ≤ z by omega)
 have z2 := eq_true (show z ≤ (s.size : Int) by omega)
 have hzt : z.toNat = t.length := by omega
 have CE : ∀ W, Glob W → Calls Try.prog 14 #[.string (s.extract 0 z.toNat)] W fun e w' => e = .returned (.tuple #[.string (Tk.bs x), .int .i64 0]) ∧ Below W.heap.size W w' := by
  intro W hW
  rw [hzt, hta]
  exact ent_f (x := (x, 0)) (entsV_some hv) (by omega) W hW
 have hex : s.extract z.toNat s.size = Tk.bs (l.drop t.length) := by rw [hzt, hdr]
 have HEX := Lib.hid hex
 have HG := Aside0.mk hG
 have c0 := h.cell0
 have H0 := Aside0.mk h
 have hzs : (s.size : Int) = z := hz.symm
 have HZ := Lib.hid hzs
 clear h hG hv hf ht htk hix hta hdr hs hex hle hl0 hzt hz hzs hts hss
 go_enter Try.func45, Try.ntmps45
 go_wp2_with (go_at_call 66; (with_reducible refine (CI _).mono ?_))
 rintro e w1 ⟨rfl, rfl⟩
 have hmz := HZ.out
 go_wp2_with (go_at_call 14; (with_reducible refine (CE _ HG.out).mono ?_))
 rintro e w2 ⟨rfl, b1⟩
 have H1 := Aside0.mk (H0.out.below b1)
 have B1 := Aside0.mk (b1.mono hsz)
 have S1 := Aside0.mk b1.size
 clear b1 H0
 have c1 := H1.out.cell0
 have f1 := H1.out.frozen 0
 have H2 := Aside0.mk (H1.out.left (s.extract z.toNat s.size))
 have B2 := Aside0.mk (B1.out.setCell (p := ⟨g, 0, none⟩) hgeB (.string (s.extract z.toNat s.size)))
 have S2 : w.heap.size ≤ (w2.setCell ⟨g, 0, none⟩ (.string (s.extract z.toNat s.size))).heap.size := by simpa using S1.out
 have S3 := Aside0.mk S2
 clear S2
 go_wp2_with (go_at_call 60; refine (token_walk_put.calls B g (fun _ => False) _ L (Tk.tk 3 [] x [] false) (.slice none 0 0) _ (H2.out.more (fun k _ hk => ⟨hk, fun h => h⟩)) (Kd.R_nil _ _ _ _ _) (fun _ h => h.elim) (fun k hk => hok k (Nat.le_trans S3.out hk)) hL).mono ?_)
 rintro e w4 ⟨rfl, h4, b4⟩
 have H4 := Aside0.mk h4
 have B4 := Aside0.mk (B2.out.trans b4)
 clear h4 b4
 go_wp2
 go_ret
 refine ⟨rfl, ?_, B4.out⟩
 rw [← HEX.out]
 exact H4.out
set_option maxHeartbeats 4000000 in
set_option maxRecDepth 100000 in
theorem token_walk_text.n0 (B g : Nat) {ok : Nat → Prop} (l : List UInt8) (L : List S32) (w : World) (h : WalkAt w B g ok (Tk.bs l) L) (hG : Glob w) (hl : l.length ≤ 100000) (hf : ¬ (l.takeWhile (· != 60)).length < l.length) (hv : Tk.entities (l.takeWhile (· != 60)) = none) :
 Calls Try.prog 45 #[.pointer (some ⟨g, 0, none⟩)] w fun e w' => e = .returned (.bool false) ∧ Below B w w' := by
 have hpos := h.pos
 have hsz := h.size
 have hgeB := h.ge
 have hle := tw_le (p := fun x => x != 60) l
 have htk := tw_take (p := fun x => x != 60) l
 have hix := tw_index l
 rw [if_neg hf] at hix
 obtain ⟨t, ht⟩ : ∃ t, l.takeWhile (· != 60) = t := ⟨_, rfl⟩
 rw [ht] at hle htk hv hf
 have hl0 := bs_size l
 have hdr := bs_drop l t.length
 have hta := bs_take l t.length
 rw [htk] at hta
 obtain ⟨s, hs⟩ : ∃ s, s = Tk.bs l := ⟨_, rfl⟩
 rw [← hs] at hdr hta h hl0
 have CI : ∀ W, Calls Try.prog 66 #[.string s, .int .u8 60] W fun e w' => e = .returned (.int .i64 (-1)) ∧ W = w' := by
  intro W
  refine (Try.strings_IndexByte s 60 W).mono ?_
  rintro e w' ⟨rfl, rfl⟩
  refine ⟨?_, rfl⟩
  rw [show Lib.indexByte s.data.toList ((60 : Int).toNat.toUInt8) = (-1) from by rw [hs]; exact hix]
 have hts : t.length = l.length := by omega
 have hss : t.length = s.size := by omega
 obtain ⟨z, hz⟩ : ∃ z : Int, z = (s.size : Int) := ⟨_, rfl⟩
 have z0 : decide (z < 0) = false := decide_eq_false (by omega)
 have z1 := eq_true (show 0 ≤ z by omega)
 have z2 := eq_true (show z ≤ (s.size : Int) by omega)
 have hzt : z.toNat = t.length := by omega
 have CE : ∀ W, Glob W → Calls Try.prog 14 #[.string (s.extract 0 z.toNat)] W fun e w' => e = .returned (.tuple #[.string (Tk.bs []), .int .i64 5]) ∧ Below W.heap.size W w' := by
  intro W hW
  rw [hzt, hta]
  exact ent_f (x := ([], 5)) (entsV_none hv) (by omega) W hW
 have hex : s.extract z.toNat s.size = Tk.bs (l.drop t.length) := by rw [hzt, hdr]
 have HEX := Lib.hid hex
 have HG := Aside0.mk hG
 have c0 := h.cell0
 have H0 := Aside0.mk h
 have hzs : (s.size : Int) = z := hz.symm
 have HZ := Lib.hid hzs
 clear h hG hv hf ht htk hix hta hdr hs hex hle hl0 hzt hz hzs hts hss
 go_enter Try.func45, Try.ntmps45
 go_wp2_with (go_at_call 66; (with_reducible refine (CI _).mono ?_))
 rintro e w1 ⟨rfl, rfl⟩
 have hmz := HZ.out
 go_wp2_with (go_at_call 14; (with_reducible refine (CE _ HG.out).mono ?_))
 rintro e w2 ⟨rfl, b1⟩
 have H1 := Aside0.mk (H0.out.below b1)
 have B1 := Aside0.mk (b1.mono hsz)
 have S1 := Aside0.mk b1.size
 clear b1 H0
 have c1 := H1.out.cell0
 have f1 := H1.out.frozen 0
 have B2 := Aside0.mk (B1.out.setCell (p := ⟨g, 0, none⟩) hgeB (.string (s.extract z.toNat s.size)))
 go_wp2
 go_ret
 exact ⟨rfl, B2.out⟩
theorem token_walk_text.all (B g : Nat) {ok : Nat → Prop} (l : List UInt8) (res : Option (S32 × List UInt8)) (L : List S32) (w : World) (h : WalkAt w B g ok (Tk.bs l) L) (hG : Glob w) (hl : l.length ≤ 100000) (hL : L.length ≤ 100000) (hok : ∀ k, w.heap.size ≤ k → ok k) (hx : Tk.text l = res) :
 Calls Try.prog 45 #[.pointer (some ⟨g, 0, none⟩)] w fun e w' => (∀ t r, res = some (t, r) → e = .returned (.bool true) ∧ WalkAt w' B g ok (Tk.bs r) (L ++ [t])) ∧ (res = none → e = .returned (.bool false)) ∧ Below B w w' := by
 unfold Tk.text at hx
 dsimp only at hx
 cases hv : Tk.entities (l.takeWhile (· != 60)) with
 | none =>
  rw [hv] at hx
  subst hx
  by_cases hf : (l.takeWhile (· != 60)).length < l.length
  ·refine (token_walk_text.n1 B g l L w h hG hl hf hv).mono ?_
   rintro e w' ⟨rfl, b⟩
   exact ⟨(fun t r h => by cases h), fun _ => rfl, b⟩
  ·refine (token_walk_text.n0 B g l L w h hG hl hf hv).mono ?_
   rintro e w' ⟨rfl, b⟩
   exact ⟨(fun t r h => by cases h), fun _ => rfl, b⟩
 | some x =>
  rw [hv] at hx
  subst hx
  by_cases hf : (l.takeWhile (· != 60)).length < l.length
  ·refine (token_walk_text.y1 B g l x L w h hG hl hL hok hf hv).mono ?_
   rintro e w' ⟨rfl, h1, b⟩
   refine ⟨fun t r h => ?_, (fun h => by cases h), b⟩
   obtain ⟨rfl, rfl⟩ := Prod.mk.inj (Option.some.inj h)
   exact ⟨rfl, h1⟩
  ·refine (token_walk_text.y0 B g l x L w h hG hl hL hok hf hv).mono ?_
   rintro e w' ⟨rfl, h1, b⟩
   refine ⟨fun t r h => ?_, (fun h => by cases h), b⟩
   obtain ⟨rfl, rfl⟩ := Prod.mk.inj (Option.some.inj h)
   exact ⟨rfl, h1⟩



end Go.Proofs.Ytomikblbfappnaa.Q

-- Printed by this session's wip/np.py over the kit's print program. Not trusted: Lean checks it.
namespace Go.Proofs.Ytomikblbfappnaa.Q
open Go.RowKit Go.Proofs.YtomikblbfappnaaW.PrintWords Go.Proofs.YtomikblbfappnaaW.PrintLast Go.Proofs.YtomikblbfappnaaW.Own Go.Proofs.YtomikblbfappnaaW.PrintMore
attribute [local go_sem] max2_int min2_int max_two min_two max_three min_three max_four min_four
set_option linter.unusedVariables false
set_option linter.unusedSimpArgs false

/-! ### token_walk_next: function 25 -/
theorem behind_le {x l r : List UInt8} (h : Tk.behind x l = some r) : r.length ≤ l.length := behind_len h
set_option maxHeartbeats 4000000 in
set_option maxRecDepth 100000 in
theorem token_walk_next.w0 (B g : Nat) {ok : Nat → Prop} (fst : Bool) (l : List UInt8) (res : Option (S32 × List UInt8)) (q : List UInt8) (L : List S32) (w : World) (h : WalkAt w B g ok (Tk.bs l) L) (hG : Glob w) (hl : l.length ≤ 100000) (hL : L.length ≤ 100000) (hok : ∀ k, w.heap.size ≤ k → ok k) (h0 : Tk.behind [60, 33, 45, 45] l = some q) (hx : Tk.comment q = res) :
 Calls Try.prog 25 #[.pointer (some ⟨g, 0, none⟩), .bool fst] w fun e w' => (∀ t r, res = some (t, r) → e = .returned (.bool true) ∧ WalkAt w' B g ok (Tk.bs r) (L ++ [t])) ∧ (res = none → e = .returned (.bool false)) ∧ Below B w w' := by
 have hpos := h.pos
 have HG := Aside0.mk hG
 have HX := Aside0.mk hx
 have H := Aside0.mk h
 have E0 := Aside0.mk h0
 have hlq : q.length ≤ 100000 := Nat.le_trans (behind_le h0) hl
 clear h hG hx h0
 have B0 := Aside0.mk (Below.refl B w)
 have S0 := Aside0.mk (Nat.le_refl w.heap.size)
 go_enter Try.func25, Try.ntmps25
 go_wp2_with (go_at_call 39; refine (token_walk_eat.yesK B g _ [60, 33, 45, 45] q L _ H.out E0.out).mono ?_)
 rintro e w0 ⟨rfl, h1, b1, k1⟩
 have Hn := Aside0.mk h1
 have HGn := Aside0.mk (HG.out.below b1 hpos)
 have Bn := Aside0.mk (B0.out.trans b1)
 have Sn := Aside0.mk (Nat.le_trans S0.out k1.1)
 clear h1 b1 k1 H HG B0 S0
 have H := Hn
 have HG := HGn
 have B0 := Bn
 have S0 := Sn
 clear Hn HGn Bn Sn
 have CF : Calls Try.prog 40 #[.pointer (some ⟨g, 0, none⟩)] w0 fun e w' => (∀ t r, res = some (t, r) → e = .returned (.bool true) ∧ WalkAt w' B g ok (Tk.bs r) (L ++ [t])) ∧ (res = none → e = .returned (.bool false)) ∧ Below B w0 w' := by
  cases hr : res with
  | none =>
   refine (token_walk_comment.no B g q L _ H.out HG.out (by omega) (HX.out.trans hr)).mono ?_
   rintro e w' ⟨rfl, b⟩
   exact ⟨(fun t r h => by cases h), fun _ => rfl, b⟩
  | some p =>
   obtain ⟨t0, r0⟩ := p
   refine (token_walk_comment.yes B g q r0 t0 L _ H.out HG.out (by omega) hL (fun k hk => hok k (Nat.le_trans S0.out hk)) (HX.out.trans hr)).mono ?_
   rintro e w' ⟨rfl, h1, b⟩
   refine ⟨fun t r h => ?_, (fun h => by cases h), b⟩
   obtain ⟨rfl, rfl⟩ := Prod.mk.inj (Option.some.inj h)
   exact ⟨rfl, h1⟩
 have CF1 := Aside0.mk CF
 clear CF
 go_wp2_with (go_at_call 40; refine CF1.out.mono ?_)
 rintro e wz ⟨hy, hn, bz⟩
 have BZ := Aside0.mk (B0.out.trans bz)
 clear bz
 cases hr : res with
 | none =>
  obtain rfl := hn hr
  clear hy hn
  go_wp2
  go_ret
  exact ⟨(fun t r h => by rw [hr] at h; cases h), fun _ => rfl, BZ.out⟩
 | some p =>
  obtain ⟨t0, r0⟩ := p
  obtain ⟨rfl, h1⟩ := hy t0 r0 hr
  have H1 := Aside0.mk h1
  clear hy hn h1
  go_wp2
  go_ret
  refine ⟨fun t r h => ?_, (fun h => by rw [hr] at h; cases h), BZ.out⟩
  rw [hr] at h
  obtain ⟨rfl, rfl⟩ := Prod.mk.inj (Option.some.inj h)
  exact ⟨rfl, H1.out⟩
set_option maxHeartbeats 4000000 in
set_option maxRecDepth 100000 in
theorem token_walk_next.w1 (B g : Nat) {ok : Nat → Prop} (fst : Bool) (l : List UInt8) (res : Option (S32 × List UInt8)) (q : List UInt8) (L : List S32) (w : World) (h : WalkAt w B g ok (Tk.bs l) L) (hG : Glob w) (hl : l.length ≤ 100000) (hL : L.length ≤ 100000) (hok : ∀ k, w.heap.size ≤ k → ok k) (h0 : Tk.behind [60, 33, 45, 45] l = none) (h1 : Tk.behind [60, 33, 91, 67, 68, 65, 84, 65, 91] l = some q) (hx : Tk.data q = res) :
 Calls Try.prog 25 #[.pointer (some ⟨g, 0, none⟩), .bool fst] w fun e w' => (∀ t r, res = some (t, r) → e = .returned (.bool true) ∧ WalkAt w' B g ok (Tk.bs r) (L ++ [t])) ∧ (res = none → e = .returned (.bool false)) ∧ Below B w w' := by
 have hpos := h.pos
 have HG := Aside0.mk hG
 have HX := Aside0.mk hx
 have H := Aside0.mk h
 have E0 := Aside0.mk h0
 have E1 := Aside0.mk h1
 have hlq : q.length ≤ 100000 := Nat.le_trans (behind_le h1) hl
 clear h hG hx h0 h1
 have B0 := Aside0.mk (Below.refl B w)
 have S0 := Aside0.mk (Nat.le_refl w.heap.size)
 go_enter Try.func25, Try.ntmps25
 go_wp2_with (go_at_call 39; refine (token_walk_eat.noK B g _ [60, 33, 45, 45] L _ H.out E0.out).mono ?_)
 rintro e w0 ⟨rfl, h1, b1, k1⟩
 have Hn := Aside0.mk h1
 have HGn := Aside0.mk (HG.out.below b1 hpos)
 have Bn := Aside0.mk (B0.out.trans b1)
 have Sn := Aside0.mk (Nat.le_trans S0.out k1.1)
 clear h1 b1 k1 H HG B0 S0
 have H := Hn
 have HG := HGn
 have B0 := Bn
 have S0 := Sn
 clear Hn HGn Bn Sn
 go_wp2_with (go_at_call 39; refine (token_walk_eat.yesK B g _ [60, 33, 91, 67, 68, 65, 84, 65, 91] q L _ H.out E1.out).mono ?_)
 rintro e w1 ⟨rfl, h1, b1, k1⟩
 have Hn := Aside0.mk h1
 have HGn := Aside0.mk (HG.out.below b1 hpos)
 have Bn := Aside0.mk (B0.out.trans b1)
 have Sn := Aside0.mk (Nat.le_trans S0.out k1.1)
 clear h1 b1 k1 H HG B0 S0
 have H := Hn
 have HG := HGn
 have B0 := Bn
 have S0 := Sn
 clear Hn HGn Bn Sn
 have CF : Calls Try.prog 41 #[.pointer (some ⟨g, 0, none⟩)] w1 fun e w' => (∀ t r, res = some (t, r) → e = .returned (.bool true) ∧ WalkAt w' B g ok (Tk.bs r) (L ++ [t])) ∧ (res = none → e = .returned (.bool false)) ∧ Below B w1 w' := by
  cases hr : res with
  | none =>
   refine (token_walk_data.no B g q L _ H.out HG.out (by omega) (HX.out.trans hr)).mono ?_
   rintro e w' ⟨rfl, b⟩
   exact ⟨(fun t r h => by cases h), fun _ => rfl, b⟩
  | some p =>
   obtain ⟨t0, r0⟩ := p
   refine (token_walk_data.yes B g q r0 t0 L _ H.out HG.out (by omega) hL (fun k hk => hok k (Nat.le_trans S0.out hk)) (HX.out.trans hr)).mono ?_
   rintro e w' ⟨rfl, h1, b⟩
   refine ⟨fun t r h => ?_, (fun h => by cases h), b⟩
   obtain ⟨rfl, rfl⟩ := Prod.mk.inj (Option.some.inj h)
   exact ⟨rfl, h1⟩
 have CF1 := Aside0.mk CF
 clear CF
 go_wp2_with (go_at_call 41; refine CF1.out.mono ?_)
 rintro e wz ⟨hy, hn, bz⟩
 have BZ := Aside0.mk (B0.out.trans bz)
 clear bz
 cases hr : res with
 | none =>
  obtain rfl := hn hr
  clear hy hn
  go_wp2
  go_ret
  exact ⟨(fun t r h => by rw [hr] at h; cases h), fun _ => rfl, BZ.out⟩
 | some p =>
  obtain ⟨t0, r0⟩ := p
  obtain ⟨rfl, h1⟩ := hy t0 r0 hr
  have H1 := Aside0.mk h1
  clear hy hn h1
  go_wp2
  go_ret
  refine ⟨fun t r h => ?_, (fun h => by rw [hr] at h; cases h), BZ.out⟩
  rw [hr] at h
  obtain ⟨rfl, rfl⟩ := Prod.mk.inj (Option.some.inj h)
  exact ⟨rfl, H1.out⟩
set_option maxHeartbeats 4000000 in
set_option maxRecDepth 100000 in
theorem token_walk_next.w2 (B g : Nat) {ok : Nat → Prop} (fst : Bool) (l : List UInt8) (res : Option (S32 × List UInt8)) (q : List UInt8) (L : List S32) (w : World) (h : WalkAt w B g ok (Tk.bs l) L) (hG : Glob w) (hl : l.length ≤ 100000) (hL : L.length ≤ 100000) (hok : ∀ k, w.heap.size ≤ k → ok k) (h0 : Tk.behind [60, 33, 45, 45] l = none) (h1 : Tk.behind [60, 33, 91, 67, 68, 65, 84, 65, 91] l = none) (h2 : Tk.behind [60, 63] l = some q) (hx : Tk.prolog fst q = res) :
 Calls Try.prog 25 #[.pointer (some ⟨g, 0, none⟩), .bool fst] w fun e w' => (∀ t r, res = some (t, r) → e = .returned (.bool true) ∧ WalkAt w' B g ok (Tk.bs r) (L ++ [t])) ∧ (res = none → e = .returned (.bool false)) ∧ Below B w w' := by
 have hpos := h.pos
 have HG := Aside0.mk hG
 have HX := Aside0.mk hx
 have H := Aside0.mk h
 have E0 := Aside0.mk h0
 have E1 := Aside0.mk h1
 have E2 := Aside0.mk h2
 have hlq : q.length ≤ 100000 := Nat.le_trans (behind_le h2) hl
 clear h hG hx h0 h1 h2
 have B0 := Aside0.mk (Below.refl B w)
 have S0 := Aside0.mk (Nat.le_refl w.heap.size)
 go_enter Try.func25, Try.ntmps25
 go_wp2_with (go_at_call 39; refine (token_walk_eat.noK B g _ [60, 33, 45, 45] L _ H.out E0.out).mono ?_)
 rintro e w0 ⟨rfl, h1, b1, k1⟩
 have Hn := Aside0.mk h1
 have HGn := Aside0.mk (HG.out.below b1 hpos)
 have Bn := Aside0.mk (B0.out.trans b1)
 have Sn := Aside0.mk (Nat.le_trans S0.out k1.1)
 clear h1 b1 k1 H HG B0 S0
 have H := Hn
 have HG := HGn
 have B0 := Bn
 have S0 := Sn
 clear Hn HGn Bn Sn
 go_wp2_with (go_at_call 39; refine (token_walk_eat.noK B g _ [60, 33, 91, 67, 68, 65, 84, 65, 91] L _ H.out E1.out).mono ?_)
 rintro e w1 ⟨rfl, h1, b1, k1⟩
 have Hn := Aside0.mk h1
 have HGn := Aside0.mk (HG.out.below b1 hpos)
 have Bn := Aside0.mk (B0.out.trans b1)
 have Sn := Aside0.mk (Nat.le_trans S0.out k1.1)
 clear h1 b1 k1 H HG B0 S0
 have H := Hn
 have HG := HGn
 have B0 := Bn
 have S0 := Sn
 clear Hn HGn Bn Sn
 go_wp2_with (go_at_call 39; refine (token_walk_eat.yesK B g _ [60, 63] q L _ H.out E2.out).mono ?_)
 rintro e w2 ⟨rfl, h1, b1, k1⟩
 have Hn := Aside0.mk h1
 have HGn := Aside0.mk (HG.out.below b1 hpos)
 have Bn := Aside0.mk (B0.out.trans b1)
 have Sn := Aside0.mk (Nat.le_trans S0.out k1.1)
 clear h1 b1 k1 H HG B0 S0
 have H := Hn
 have HG := HGn
 have B0 := Bn
 have S0 := Sn
 clear Hn HGn Bn Sn
 have CF : Calls Try.prog 42 #[.pointer (some ⟨g, 0, none⟩), .bool fst] w2 fun e w' => (∀ t r, res = some (t, r) → e = .returned (.bool true) ∧ WalkAt w' B g ok (Tk.bs r) (L ++ [t])) ∧ (res = none → e = .returned (.bool false)) ∧ Below B w2 w' := by
  cases hr : res with
  | none =>
   refine (token_walk_prolog.no B g fst q L _ H.out HG.out (by omega) (HX.out.trans hr)).mono ?_
   rintro e w' ⟨rfl, b⟩
   exact ⟨(fun t r h => by cases h), fun _ => rfl, b⟩
  | some p =>
   obtain ⟨t0, r0⟩ := p
   refine (token_walk_prolog.yes B g fst q r0 t0 L _ H.out HG.out (by omega) hL (fun k hk => hok k (Nat.le_trans S0.out hk)) (HX.out.trans hr)).mono ?_
   rintro e w' ⟨rfl, h1, b⟩
   refine ⟨fun t r h => ?_, (fun h => by cases h), b⟩
   obtain ⟨rfl, rfl⟩ := Prod.mk.inj (Option.some.inj h)
   exact ⟨rfl, h1⟩
 have CF1 := Aside0.mk CF
 clear CF
 go_wp2_with (go_at_call 42; refine CF1.out.mono ?_)
 rintro e wz ⟨hy, hn, bz⟩
 have BZ := Aside0.mk (B0.out.trans bz)
 clear bz
 cases hr : res with
 | none =>
  obtain rfl := hn hr
  clear hy hn
  go_wp2
  go_ret
  exact ⟨(fun t r h => by rw [hr] at h; cases h), fun _ => rfl, BZ.out⟩
 | some p =>
  obtain ⟨t0, r0⟩ := p
  obtain ⟨rfl, h1⟩ := hy t0 r0 hr
  have H1 := Aside0.mk h1
  clear hy hn h1
  go_wp2
  go_ret
  refine ⟨fun t r h => ?_, (fun h => by rw [hr] at h; cases h), BZ.out⟩
  rw [hr] at h
  obtain ⟨rfl, rfl⟩ := Prod.mk.inj (Option.some.inj h)
  exact ⟨rfl, H1.out⟩
set_option maxHeartbeats 4000000 in
set_option maxRecDepth 100000 in
theorem token_walk_next.w3 (B g : Nat) {ok : Nat → Prop} (fst : Bool) (l : List UInt8) (res : Option (S32 × List UInt8)) (q : List UInt8) (L : List S32) (w : World) (h : WalkAt w B g ok (Tk.bs l) L) (hG : Glob w) (hl : l.length ≤ 100000) (hL : L.length ≤ 100000) (hok : ∀ k, w.heap.size ≤ k → ok k) (h0 : Tk.behind [60, 33, 45, 45] l = none) (h1 : Tk.behind [60, 33, 91, 67, 68, 65, 84, 65, 91] l = none) (h2 : Tk.behind [60, 63] l = none) (h3 : Tk.behind [60, 47] l = some q) (hx : Tk.close q = res) :
 Calls Try.prog 25 #[.pointer (some ⟨g, 0, none⟩), .bool fst] w fun e w' => (∀ t r, res = some (t, r) → e = .returned (.bool true) ∧ WalkAt w' B g ok (Tk.bs r) (L ++ [t])) ∧ (res = none → e = .returned (.bool false)) ∧ Below B w w' := by
 have hpos := h.pos
 have HG := Aside0.mk hG
 have HX := Aside0.mk hx
 have H := Aside0.mk h
 have E0 := Aside0.mk h0
 have E1 := Aside0.mk h1
 have E2 := Aside0.mk h2
 have E3 := Aside0.mk h3
 have hlq : q.length ≤ 100000 := Nat.le_trans (behind_le h3) hl
 clear h hG hx h0 h1 h2 h3
 have B0 := Aside0.mk (Below.refl B w)
 have S0 := Aside0.mk (Nat.le_refl w.heap.size)
 go_enter Try.func25, Try.ntmps25
 go_wp2_with (go_at_call 39; refine (token_walk_eat.noK B g _ [60, 33, 45, 45] L _ H.out E0.out).mono ?_)
 rintro e w0 ⟨rfl, h1, b1, k1⟩
 have Hn := Aside0.mk h1
 have HGn := Aside0.mk (HG.out.below b1 hpos)
 have Bn := Aside0.mk (B0.out.trans b1)
 have Sn := Aside0.mk (Nat.le_trans S0.out k1.1)
 clear h1 b1 k1 H HG B0 S0
 have H := Hn
 have HG := HGn
 have B0 := Bn
 have S0 := Sn
 clear Hn HGn Bn Sn
 go_wp2_with (go_at_call 39; refine (token_walk_eat.noK B g _ [60, 33, 91, 67, 68, 65, 84, 65, 91] L _ H.out E1.out).mono ?_)
 rintro e w1 ⟨rfl, h1, b1, k1⟩
 have Hn := Aside0.mk h1
 have HGn := Aside0.mk (HG.out.below b1 hpos)
 have Bn := Aside0.mk (B0.out.trans b1)
 have Sn := Aside0.mk (Nat.le_trans S0.out k1.1)
 clear h1 b1 k1 H HG B0 S0
 have H := Hn
 have HG := HGn
 have B0 := Bn
 have S0 := Sn
 clear Hn HGn Bn Sn
 go_wp2_with (go_at_call 39; refine (token_walk_eat.noK B g _ [60, 63] L _ H.out E2.out).mono ?_)
 rintro e w2 ⟨rfl, h1, b1, k1⟩
 have Hn := Aside0.mk h1
 have HGn := Aside0.mk (HG.out.below b1 hpos)
 have Bn := Aside0.mk (B0.out.trans b1)
 have Sn := Aside0.mk (Nat.le_trans S0.out k1.1)
 clear h1 b1 k1 H HG B0 S0
 have H := Hn
 have HG := HGn
 have B0 := Bn
 have S0 := Sn
 clear Hn HGn Bn Sn
 go_wp2_with (go_at_call 39; refine (token_walk_eat.yesK B g _ [60, 47] q L _ H.out E3.out).mono ?_)
 rintro e w3 ⟨rfl, h1, b1, k1⟩
 have Hn := Aside0.mk h1
 have HGn := Aside0.mk (HG.out.below b1 hpos)
 have Bn := Aside0.mk (B0.out.trans b1)
 have Sn := Aside0.mk (Nat.le_trans S0.out k1.1)
 clear h1 b1 k1 H HG B0 S0
 have H := Hn
 have HG := HGn
 have B0 := Bn
 have S0 := Sn
 clear Hn HGn Bn Sn
 have CF : Calls Try.prog 43 #[.pointer (some ⟨g, 0, none⟩)] w3 fun e w' => (∀ t r, res = some (t, r) → e = .returned (.bool true) ∧ WalkAt w' B g ok (Tk.bs r) (L ++ [t])) ∧ (res = none → e = .returned (.bool false)) ∧ Below B w3 w' := by
  cases hr : res with
  | none =>
   refine (token_walk_end.no B g q L _ H.out HG.out (by omega) (HX.out.trans hr)).mono ?_
   rintro e w' ⟨rfl, b⟩
   exact ⟨(fun t r h => by cases h), fun _ => rfl, b⟩
  | some p =>
   obtain ⟨t0, r0⟩ := p
   refine (token_walk_end.yes B g q r0 t0 L _ H.out HG.out (by omega) hL (fun k hk => hok k (Nat.le_trans S0.out hk)) (HX.out.trans hr)).mono ?_
   rintro e w' ⟨rfl, h1, b⟩
   refine ⟨fun t r h => ?_, (fun h => by cases h), b⟩
   obtain ⟨rfl, rfl⟩ := Prod.mk.inj (Option.some.inj h)
   exact ⟨rfl, h1⟩
 have CF1 := Aside0.mk CF
 clear CF
 go_wp2_with (go_at_call 43; refine CF1.out.mono ?_)
 rintro e wz ⟨hy, hn, bz⟩
 have BZ := Aside0.mk (B0.out.trans bz)
 clear bz
 cases hr : res with
 | none =>
  obtain rfl := hn hr
  clear hy hn
  go_wp2
  go_ret
  exact ⟨(fun t r h => by rw [hr] at h; cases h), fun _ => rfl, BZ.out⟩
 | some p =>
  obtain ⟨t0, r0⟩ := p
  obtain ⟨rfl, h1⟩ := hy t0 r0 hr
  have H1 := Aside0.mk h1
  clear hy hn h1
  go_wp2
  go_ret
  refine ⟨fun t r h => ?_, (fun h => by rw [hr] at h; cases h), BZ.out⟩
  rw [hr] at h
  obtain ⟨rfl, rfl⟩ := Prod.mk.inj (Option.some.inj h)
  exact ⟨rfl, H1.out⟩
set_option maxHeartbeats 4000000 in
set_option maxRecDepth 100000 in
theorem token_walk_next.w4 (B g : Nat) {ok : Nat → Prop} (fst : Bool) (l : List UInt8) (res : Option (S32 × List UInt8)) (q : List UInt8) (L : List S32) (w : World) (h : WalkAt w B g ok (Tk.bs l) L) (hG : Glob w) (hl : l.length ≤ 100000) (hL : L.length ≤ 100000) (hok : ∀ k, w.heap.size ≤ k → ok k) (h0 : Tk.behind [60, 33, 45, 45] l = none) (h1 : Tk.behind [60, 33, 91, 67, 68, 65, 84, 65, 91] l = none) (h2 : Tk.behind [60, 63] l = none) (h3 : Tk.behind [60, 47] l = none) (h4 : Tk.behind [60] l = some q) (hx : Tk.opening q = res) :
 Calls Try.prog 25 #[.pointer (some ⟨g, 0, none⟩), .bool fst] w fun e w' => (∀ t r, res = some (t, r) → e = .returned (.bool true) ∧ WalkAt w' B g ok (Tk.bs r) (L ++ [t])) ∧ (res = none → e = .returned (.bool false)) ∧ Below B w w' := by
 have hpos := h.pos
 have HG := Aside0.mk hG
 have HX := Aside0.mk hx
 have H := Aside0.mk h
 have E0 := Aside0.mk h0
 have E1 := Aside0.mk h1
 have E2 := Aside0.mk h2
 have E3 := Aside0.mk h3
 have E4 := Aside0.mk h4
 have hlq : q.length ≤ 100000 := Nat.le_trans (behind_le h4) hl
 clear h hG hx h0 h1 h2 h3 h4
 have B0 := Aside0.mk (Below.refl B w)
 have S0 := Aside0.mk (Nat.le_refl w.heap.size)
 go_enter Try.func25, Try.ntmps25
 go_wp2_with (go_at_call 39; refine (token_walk_eat.noK B g _ [60, 33, 45, 45] L _ H.out E0.out).mono ?_)
 rintro e w0 ⟨rfl, h1, b1, k1⟩
 have Hn := Aside0.mk h1
 have HGn := Aside0.mk (HG.out.below b1 hpos)
 have Bn := Aside0.mk (B0.out.trans b1)
 have Sn := Aside0.mk (Nat.le_trans S0.out k1.1)
 clear h1 b1 k1 H HG B0 S0
 have H := Hn
 have HG := HGn
 have B0 := Bn
 have S0 := Sn
 clear Hn HGn Bn Sn
 go_wp2_with (go_at_call 39; refine (token_walk_eat.noK B g _ [60, 33, 91, 67, 68, 65, 84, 65, 91] L _ H.out E1.out).mono ?_)
 rintro e w1 ⟨rfl, h1, b1, k1⟩
 have Hn := Aside0.mk h1
 have HGn := Aside0.mk (HG.out.below b1 hpos)
 have Bn := Aside0.mk (B0.out.trans b1)
 have Sn := Aside0.mk (Nat.le_trans S0.out k1.1)
 clear h1 b1 k1 H HG B0 S0
 have H := Hn
 have HG := HGn
 have B0 := Bn
 have S0 := Sn
 clear Hn HGn Bn Sn
 go_wp2_with (go_at_call 39; refine (token_walk_eat.noK B g _ [60, 63] L _ H.out E2.out).mono ?_)
 rintro e w2 ⟨rfl, h1, b1, k1⟩
 have Hn := Aside0.mk h1
 have HGn := Aside0.mk (HG.out.below b1 hpos)
 have Bn := Aside0.mk (B0.out.trans b1)
 have Sn := Aside0.mk (Nat.le_trans S0.out k1.1)
 clear h1 b1 k1 H HG B0 S0
 have H := Hn
 have HG := HGn
 have B0 := Bn
 have S0 := Sn
 clear Hn HGn Bn Sn
 go_wp2_with (go_at_call 39; refine (token_walk_eat.noK B g _ [60, 47] L _ H.out E3.out).mono ?_)
 rintro e w3 ⟨rfl, h1, b1, k1⟩
 have Hn := Aside0.mk h1
 have HGn := Aside0.mk (HG.out.below b1 hpos)
 have Bn := Aside0.mk (B0.out.trans b1)
 have Sn := Aside0.mk (Nat.le_trans S0.out k1.1)
 clear h1 b1 k1 H HG B0 S0
 have H := Hn
 have HG := HGn
 have B0 := Bn
 have S0 := Sn
 clear Hn HGn Bn Sn
 go_wp2_with (go_at_call 39; refine (token_walk_eat.yesK B g _ [60] q L _ H.out E4.out).mono ?_)
 rintro e w4 ⟨rfl, h1, b1, k1⟩
 have Hn := Aside0.mk h1
 have HGn := Aside0.mk (HG.out.below b1 hpos)
 have Bn := Aside0.mk (B0.out.trans b1)
 have Sn := Aside0.mk (Nat.le_trans S0.out k1.1)
 clear h1 b1 k1 H HG B0 S0
 have H := Hn
 have HG := HGn
 have B0 := Bn
 have S0 := Sn
 clear Hn HGn Bn Sn
 go_wp2_with (go_at_call 44; refine (token_walk_begin.all B g q res L _ H.out HG.out hlq hL (fun k hk => hok k (Nat.le_trans S0.out hk)) HX.out).mono ?_)
 rintro e wz ⟨hy, hn, bz⟩
 have BZ := Aside0.mk (B0.out.trans bz)
 clear bz
 cases hr : res with
 | none =>
  obtain rfl := hn hr
  clear hy hn
  go_wp2
  go_ret
  exact ⟨(fun t r h => by rw [hr] at h; cases h), fun _ => rfl, BZ.out⟩
 | some p =>
  obtain ⟨t0, r0⟩ := p
  obtain ⟨rfl, h1⟩ := hy t0 r0 hr
  have H1 := Aside0.mk h1
  clear hy hn h1
  go_wp2
  go_ret
  refine ⟨fun t r h => ?_, (fun h => by rw [hr] at h; cases h), BZ.out⟩
  rw [hr] at h
  obtain ⟨rfl, rfl⟩ := Prod.mk.inj (Option.some.inj h)
  exact ⟨rfl, H1.out⟩
set_option maxHeartbeats 4000000 in
set_option maxRecDepth 100000 in
theorem token_walk_next.w5 (B g : Nat) {ok : Nat → Prop} (fst : Bool) (l : List UInt8) (res : Option (S32 × List UInt8)) (L : List S32) (w : World) (h : WalkAt w B g ok (Tk.bs l) L) (hG : Glob w) (hl : l.length ≤ 100000) (hL : L.length ≤ 100000) (hok : ∀ k, w.heap.size ≤ k → ok k) (h0 : Tk.behind [60, 33, 45, 45] l = none) (h1 : Tk.behind [60, 33, 91, 67, 68, 65, 84, 65, 91] l = none) (h2 : Tk.behind [60, 63] l = none) (h3 : Tk.behind [60, 47] l = none) (h4 : Tk.behind [60] l = none) (hx : Tk.text l = res) :
 Calls Try.prog 25 #[.pointer (some ⟨g, 0, none⟩), .bool fst] w fun e w' => (∀ t r, res = some (t, r) → e = .returned (.bool true) ∧ WalkAt w' B g ok (Tk.bs r) (L ++ [t])) ∧ (res = none → e = .returned (.bool false)) ∧ Below B w w' := by
 have hpos := h.pos
 have HG := Aside0.mk hG
 have HX := Aside0.mk hx
 have H := Aside0.mk h
 have E0 := Aside0.mk h0
 have E1 := Aside0.mk h1
 have E2 := Aside0.mk h2
 have E3 := Aside0.mk h3
 have E4 := Aside0.mk h4
 clear h hG hx h0 h1 h2 h3 h4
 have B0 := Aside0.mk (Below.refl B w)
 have S0 := Aside0.mk (Nat.le_refl w.heap.size)
 go_enter Try.func25, Try.ntmps25
 go_wp2_with (go_at_call 39; refine (token_walk_eat.noK B g _ [60, 33, 45, 45] L _ H.out E0.out).mono ?_)
 rintro e w0 ⟨rfl, h1, b1, k1⟩
 have Hn := Aside0.mk h1
 have HGn := Aside0.mk (HG.out.below b1 hpos)
 have Bn := Aside0.mk (B0.out.trans b1)
 have Sn := Aside0.mk (Nat.le_trans S0.out k1.1)
 clear h1 b1 k1 H HG B0 S0
 have H := Hn
 have HG := HGn
 have B0 := Bn
 have S0 := Sn
 clear Hn HGn Bn Sn
 go_wp2_with (go_at_call 39; refine (token_walk_eat.noK B g _ [60, 33, 91, 67, 68, 65, 84, 65, 91] L _ H.out E1.out).mono ?_)
 rintro e w1 ⟨rfl, h1, b1, k1⟩
 have Hn := Aside0.mk h1
 have HGn := Aside0.mk (HG.out.below b1 hpos)
 have Bn := Aside0.mk (B0.out.trans b1)
 have Sn := Aside0.mk (Nat.le_trans S0.out k1.1)
 clear h1 b1 k1 H HG B0 S0
 have H := Hn
 have HG := HGn
 have B0 := Bn
 have S0 := Sn
 clear Hn HGn Bn Sn
 go_wp2_with (go_at_call 39; refine (token_walk_eat.noK B g _ [60, 63] L _ H.out E2.out).mono ?_)
 rintro e w2 ⟨rfl, h1, b1, k1⟩
 have Hn := Aside0.mk h1
 have HGn := Aside0.mk (HG.out.below b1 hpos)
 have Bn := Aside0.mk (B0.out.trans b1)
 have Sn := Aside0.mk (Nat.le_trans S0.out k1.1)
 clear h1 b1 k1 H HG B0 S0
 have H := Hn
 have HG := HGn
 have B0 := Bn
 have S0 := Sn
 clear Hn HGn Bn Sn
 go_wp2_with (go_at_call 39; refine (token_walk_eat.noK B g _ [60, 47] L _ H.out E3.out).mono ?_)
 rintro e w3 ⟨rfl, h1, b1, k1⟩
 have Hn := Aside0.mk h1
 have HGn := Aside0.mk (HG.out.below b1 hpos)
 have Bn := Aside0.mk (B0.out.trans b1)
 have Sn := Aside0.mk (Nat.le_trans S0.out k1.1)
 clear h1 b1 k1 H HG B0 S0
 have H := Hn
 have HG := HGn
 have B0 := Bn
 have S0 := Sn
 clear Hn HGn Bn Sn
 go_wp2_with (go_at_call 39; refine (token_walk_eat.noK B g _ [60] L _ H.out E4.out).mono ?_)
 rintro e w4 ⟨rfl, h1, b1, k1⟩
 have Hn := Aside0.mk h1
 have HGn := Aside0.mk (HG.out.below b1 hpos)
 have Bn := Aside0.mk (B0.out.trans b1)
 have Sn := Aside0.mk (Nat.le_trans S0.out k1.1)
 clear h1 b1 k1 H HG B0 S0
 have H := Hn
 have HG := HGn
 have B0 := Bn
 have S0 := Sn
 clear Hn HGn Bn Sn
 go_wp2_with (go_at_call 45; refine (token_walk_text.all B g l res L _ H.out HG.out hl hL (fun k hk => hok k (Nat.le_trans S0.out hk)) HX.out).mono ?_)
 rintro e wz ⟨hy, hn, bz⟩
 have BZ := Aside0.mk (B0.out.trans bz)
 clear bz
 cases hr : res with
 | none =>
  obtain rfl := hn hr
  clear hy hn
  go_wp2
  go_ret
  exact ⟨(fun t r h => by rw [hr] at h; cases h), fun _ => rfl, BZ.out⟩
 | some p =>
  obtain ⟨t0, r0⟩ := p
  obtain ⟨rfl, h1⟩ := hy t0 r0 hr
  have H1 := Aside0.mk h1
  clear hy hn h1
  go_wp2
  go_ret
  refine ⟨fun t r h => ?_, (fun h => by rw [hr] at h; cases h), BZ.out⟩
  rw [hr] at h
  obtain ⟨rfl, rfl⟩ := Prod.mk.inj (Option.some.inj h)
  exact ⟨rfl, H1.out⟩
theorem token_walk_next.all (B g : Nat) {ok : Nat → Prop} (fst : Bool) (l : List UInt8) (res : Option (S32 × List UInt8)) (L : List S32) (w : World) (h : WalkAt w B g ok (Tk.bs l) L) (hG : Glob w) (hl : l.length ≤ 100000) (hL : L.length ≤ 100000) (hok : ∀ k, w.heap.size ≤ k → ok k) (hx : Tk.next fst l = res) :
 Calls Try.prog 25 #[.pointer (some ⟨g, 0, none⟩), .bool fst] w fun e w' => (∀ t r, res = some (t, r) → e = .returned (.bool true) ∧ WalkAt w' B g ok (Tk.bs r) (L ++ [t])) ∧ (res = none → e = .returned (.bool false)) ∧ Below B w w' := by
 unfold Tk.next at hx
 cases h0 : Tk.behind [60, 33, 45, 45] l with
 | some q => rw [h0] at hx; exact token_walk_next.w0 B g fst l res q L w h hG hl hL hok h0 hx
 | none =>
  rw [h0] at hx
  dsimp only at hx
  cases h1 : Tk.behind [60, 33, 91, 67, 68, 65, 84, 65, 91] l with
  | some q => rw [h1] at hx; exact token_walk_next.w1 B g fst l res q L w h hG hl hL hok h0 h1 hx
  | none =>
   rw [h1] at hx
   dsimp only at hx
   cases h2 : Tk.behind [60, 63] l with
   | some q => rw [h2] at hx; exact token_walk_next.w2 B g fst l res q L w h hG hl hL hok h0 h1 h2 hx
   | none =>
    rw [h2] at hx
    dsimp only at hx
    cases h3 : Tk.behind [60, 47] l with
    | some q => rw [h3] at hx; exact token_walk_next.w3 B g fst l res q L w h hG hl hL hok h0 h1 h2 h3 hx
    | none =>
     rw [h3] at hx
     dsimp only at hx
     cases h4 : Tk.behind [60] l with
     | some q => rw [h4] at hx; exact token_walk_next.w4 B g fst l res q L w h hG hl hL hok h0 h1 h2 h3 h4 hx
     | none =>
      rw [h4] at hx
      dsimp only at hx
      exact token_walk_next.w5 B g fst l res L w h hG hl hL hok h0 h1 h2 h3 h4 hx


end Go.Proofs.Ytomikblbfappnaa.Q

-- Printed by this session's wip/np.py over the kit's print program. Not trusted: Lean checks it.
namespace Go.Proofs.Ytomikblbfappnaa.Q
open Go.RowKit Go.Proofs.YtomikblbfappnaaW.PrintWords Go.Proofs.YtomikblbfappnaaW.PrintLast Go.Proofs.YtomikblbfappnaaW.Own Go.Proofs.YtomikblbfappnaaW.PrintMore
attribute [local go_sem] max2_int min2_int max_two min_two max_three min_three max_four min_four
set_option linter.unusedVariables false
set_option linter.unusedSimpArgs false

/-! ### token_Split: function 12 -/
theorem allowed_f (c : UInt8) : chars_Allowed.f (c.toNat : Int) = some (Tk.allowed c) := Tk.bytes_all (by kernel_rfl) c
def badB (c : UInt8) : Bool := !Tk.allowed c
set_option maxHeartbeats 4000000 in
set_option maxRecDepth 100000 in
theorem token_Split.clo (c : UInt8) (x : Int) (hx : x = (c.toNat : Int)) (w : World) (hG : Glob w) :
 Calls Try.prog 23 #[.int .u8 x] w fun e w' => e = .returned (.bool (badB c)) ∧ Below w.heap.size w w' := by
 have hf := allowed_f c
 rw [← hx] at hf
 obtain ⟨b, hb⟩ : ∃ b, Tk.allowed c = b := ⟨_, rfl⟩
 have hbb : badB c = !b := by unfold badB; rw [hb]
 rw [hb] at hf
 rw [hbb]
 have HF := Aside0.mk hf
 have HG := Aside0.mk hG
 clear hf hG hb hbb hx
 go_enter Try.func23, Try.ntmps23
 go_wp2_with (first | (go_at_call 24; (with_reducible refine (chars_Allowed.calls x b _ HG.out HF.out).mono ?_); rintro e w1 ⟨rfl, ⟨nd, rfl⟩⟩))
 go_ret
 exact ⟨rfl, pw_below_drewN (Below.refl _ _) nd⟩
theorem bytes_rd (l : List UInt8) (i : Nat) (h : i < l.length) : rd (bytesOf (Tk.bs l)) (i : Int) = (l[i].toNat : Int) := by rw [rd_bytesOf, bs_bt l i h]
set_option maxHeartbeats 8000000 in
set_option maxRecDepth 100000 in
theorem token_Split.ix (A0 : Option Addr) (c0 : Nat) (l : List UInt8) (w : World) (hr0 : Kd.C (Kd.int .u8) w A0 l.length (bytesOf (Tk.bs l))) (hlen : l.length ≤ 1000000) (hG : Glob w) :
 Calls Try.prog 37 #[.slice A0 l.length c0, .func (.func 23) #[] #[]] w fun e w' => (∃ r : Int, e = .returned (.int .i64 r) ∧ decide (0 ≤ r) = l.any badB) ∧ Below w.heap.size w w' := by
 have HR0 := Aside0.mk hr0
 have HG := Aside0.mk hG
 clear hr0 hG
 go_enter Try.func37, Try.ntmps37
 go_wp2
 go_loopg [8] (l.length + 1) (fun gk v8 w' => ∃ (i : Nat) (x : Int), i ≤ l.length ∧ i + gk = l.length + 1 ∧ v8 = .int .i64 x ∧ Aside0 (x = (i : Int)) ∧ Aside0 ((l.take i).any badB = false) ∧ Aside0 (Below w.heap.size w w'))
 case atStart => exact ⟨0, 0, by omega, by omega, by first | rfl | (simp; done), ⟨rfl⟩, ⟨by rw [List.take_zero]; rfl⟩, ⟨Below.refl _ _⟩⟩
 case round =>
  obtain ⟨i, x, hi, hgk, rfl, HX, HA, HB⟩ := hrel
  have hxi := HX.out
  by_cases hlt : i < l.length
  ·obtain ⟨g1, rfl⟩ : ∃ g1, gk = g1 + 1 := ⟨gk - 1, by omega⟩
   have d1 : decide (x < (l.length : Int)) = true := decide_eq_true (by omega)
   obtain ⟨ad, e_, hx0⟩ := Kd.at_int HR0.out x (by omega) (by omega)
   cases e_
   obtain ⟨y, hy⟩ : ∃ y, rd (bytesOf (Tk.bs l)) x = y := ⟨_, rfl⟩
   have hyc : y = (l[i].toNat : Int) := by rw [← hy, hxi, bytes_rd l i hlt]
   rw [hy] at hx0
   replace hx0 := (HB.out.cell (World.block_lt_of_cell? w _ hx0)).trans hx0
   have p_ := eq_true (show 0 ≤ x by omega)
   have q_ := eq_true (show x < (l.length : Int) by omega)
   have hat := any_take badB l i hlt
   rw [HA.out, Bool.false_or] at hat
   have C2 := token_Split.clo l[i] y hyc wr (HG.out.step HB.out)
   cases hps : badB l[i] with
   | true =>
    rw [hps] at C2
    have hall : l.any badB = true := any_hit hlt hps
    have HALL := Lib.hid hall
    have HX0 : decide (0 ≤ x) = true := decide_eq_true (by omega)
    have HXX := Lib.hid HX0
    have C3 := Aside0.mk C2
    clear hps hall hat hxi C2 HX0 hy hyc
    go_wp2_with (first | (go_at_call 23; (with_reducible refine (C3.out).mono ?_); rintro e w4 ⟨rfl, hb⟩; have B4 := Aside0.mk hb; clear hb))
    go_ret
    exact ⟨⟨_, rfl, by rw [HALL.out, HXX.out]⟩, below_step HB.out B4.out⟩
   | false =>
    rw [hps] at C2 hat
    have HAT := Aside0.mk hat
    have C3 := Aside0.mk C2
    have hw1 : wrap64 (x + 1) = ((i + 1 : Nat) : Int) := by unfold wrap64; omega
    have HW1 := Aside0.mk hw1
    clear hps hat hxi C2 hw1 hy hyc
    go_wp2_with (first | (go_at_call 23; (with_reducible refine (C3.out).mono ?_); rintro e w4 ⟨rfl, hb⟩; have B4 := Aside0.mk hb; clear hb))
    go_roundg g1
    case measure => omega
    case rel => exact ⟨i + 1, _, by omega, by omega, by first | rfl | (simp; done), HW1, HAT, ⟨below_step HB.out B4.out⟩⟩
  ·obtain rfl : i = l.length := by omega
   have d1 : decide (x < (l.length : Int)) = false := decide_eq_false (by omega)
   have hall : l.any badB = false := by have := HA.out; rwa [List.take_length] at this
   have HALL := Lib.hid hall
   clear hall hxi
   go_wp2
   go_ret
   exact ⟨⟨_, rfl, by rw [HALL.out]; rfl⟩, HB.out⟩
set_option maxHeartbeats 8000000 in
set_option maxRecDepth 100000 in
theorem token_Split.has (A0 : Option Addr) (c0 : Nat) (l : List UInt8) (w : World) (hr0 : Kd.C (Kd.int .u8) w A0 l.length (bytesOf (Tk.bs l))) (hlen : l.length ≤ 1000000) (hG : Glob w) :
 Calls Try.prog 22 #[.slice A0 l.length c0, .func (.func 23) #[] #[]] w fun e w' => e = .returned (.bool (l.any badB)) ∧ Below w.heap.size w w' := by
 have C1 := Aside0.mk (token_Split.ix A0 c0 l w hr0 hlen hG)
 obtain ⟨b, hb⟩ : ∃ b, b = l.any badB := ⟨_, rfl⟩
 rw [← hb] at C1 ⊢
 clear hr0 hG hb
 go_enter Try.func22, Try.ntmps22
 go_wp2_with (first | (go_at_call 37; (with_reducible refine C1.out.mono ?_); rintro e w4 ⟨⟨r, rfl, hr⟩, hb⟩; have HB := Aside0.mk hb; have HR := Lib.hid hr; clear hb hr))
 go_ret
 refine ⟨?_, HB.out⟩
 rw [← HR.out]
 first | rfl | (simp; done)
theorem attrs_len : ∀ (n : Nat) (nm : List UInt8) (ys : List S39) (l : List UInt8) (t : S32) (r : List UInt8), Tk.attrs n nm ys l = some (t, r) → r.length ≤ l.length
 | 0, _, _, _, _, _, h => by simp [Tk.attrs] at h
 | n + 1, nm, ys, l, t, r, h => by
  rw [Tk.attrs] at h
  (try dsimp only at h)
  have hs := skip_len l
  cases h1 : Tk.behind [62] (Tk.skip l) with
  | some q =>
   rw [h1] at h
   obtain ⟨_, rfl⟩ := Prod.mk.inj (Option.some.inj h)
   exact Nat.le_trans (behind_len h1) hs
  | none =>
   rw [h1] at h
   (try dsimp only at h)
   cases h2 : Tk.behind [47, 62] (Tk.skip l) with
   | some q =>
    rw [h2] at h
    obtain ⟨_, rfl⟩ := Prod.mk.inj (Option.some.inj h)
    exact Nat.le_trans (behind_len h2) hs
   | none =>
    rw [h2] at h
    (try dsimp only at h)
    split at h
    ·cases h
    ·obtain ⟨⟨x, q⟩, h3, h⟩ := Option.bind_eq_some_iff.1 h
     (try dsimp only at h)
     split at h
     ·cases h
     ·have := attrs_len n nm _ q t r h
      have := attr_len h3
      omega
theorem next_len {fst : Bool} {l r : List UInt8} {t : S32} (hl : l ≠ []) (h : Tk.next fst l = some (t, r)) : r.length < l.length := by
 unfold Tk.next at h
 cases h1 : Tk.behind [60, 33, 45, 45] l with
 | some q =>
  rw [h1] at h
  have e := behind_sum h1
  unfold Tk.comment at h
  obtain ⟨⟨a, b⟩, h2, h⟩ := Option.bind_eq_some_iff.1 h
  (try dsimp only at h)
  split at h
  ·cases h
  ·obtain ⟨_, rfl⟩ := Prod.mk.inj (Option.some.inj h)
   have := (upto_len h2).2
   simp only [List.length_cons, List.length_nil] at e
   (try dsimp only)
   omega
 | none =>
 rw [h1] at h
 (try dsimp only at h)
 cases h1 : Tk.behind [60, 33, 91, 67, 68, 65, 84, 65, 91] l with
 | some q =>
  rw [h1] at h
  have e := behind_sum h1
  obtain ⟨⟨a, b⟩, h2, h⟩ := Option.map_eq_some_iff.1 (show (Tk.upto [93, 93, 62] q).map _ = some (t, r) from h)
  obtain ⟨_, rfl⟩ := Prod.mk.inj h
  have := (upto_len h2).2
  simp only [List.length_cons, List.length_nil] at e
  (try dsimp only)
  omega
 | none =>
 rw [h1] at h
 (try dsimp only at h)
 cases h1 : Tk.behind [60, 63] l with
 | some q =>
  rw [h1] at h
  have e := behind_sum h1
  obtain ⟨⟨a, b⟩, h2, h⟩ := Option.bind_eq_some_iff.1 (show (Tk.upto [63, 62] q).bind _ = some (t, r) from h)
  (try dsimp only at h)
  split at h
  ·obtain ⟨_, rfl⟩ := Prod.mk.inj (Option.some.inj h)
   have := (upto_len h2).2
   simp only [List.length_cons, List.length_nil] at e
   (try dsimp only)
   omega
  ·cases h
 | none =>
 rw [h1] at h
 (try dsimp only at h)
 cases h1 : Tk.behind [60, 47] l with
 | some q =>
  rw [h1] at h
  have e := behind_sum h1
  (try dsimp only at h)
  unfold Tk.close at h
  split at h
  ·cases h
  ·obtain ⟨b, h2, h⟩ := Option.map_eq_some_iff.1 h
   obtain ⟨_, rfl⟩ := Prod.mk.inj h
   have e2 := behind_len h2
   have e3 := skip_len (q.drop (Tk.head q).length)
   rw [List.length_drop] at e3
   simp only [List.length_cons, List.length_nil] at e
   omega
 | none =>
 rw [h1] at h
 (try dsimp only at h)
 cases h1 : Tk.behind [60] l with
 | some q =>
  rw [h1] at h
  have e := behind_sum h1
  (try dsimp only at h)
  unfold Tk.opening at h
  split at h
  ·cases h
  ·have e2 := attrs_len _ _ _ _ _ _ h
   rw [List.length_drop] at e2
   simp only [List.length_cons, List.length_nil] at e
   omega
 | none =>
 rw [h1] at h
 (try dsimp only at h)
 unfold Tk.text at h
 (try dsimp only at h)
 obtain ⟨x, _, h⟩ := Option.map_eq_some_iff.1 h
 obtain ⟨_, rfl⟩ := Prod.mk.inj h
 cases l with
 | nil => exact absurd rfl hl
 | cons c q =>
  have hc : (c != 60) = true := by
   by_cases hc : c = 60
   ·subst hc; simp [Tk.behind, List.isPrefixOf] at h1
   ·simpa using hc
  rw [List.takeWhile_cons, if_pos hc, List.length_drop, List.length_cons, List.length_cons]
  omega
def token_Split.f (a0 : ByteArray) : Option (List S32 × Int) := if a0.size ≤ 9223372036854775807 then some (Tk.split a0.data.toList) else none
set_option maxHeartbeats 16000000 in
set_option maxRecDepth 100000 in
/-- The walk over the pieces; B: where the call began, wb: the world then. -/
theorem token_Split.loop (l : List UInt8) (P : Option (List S32)) (hl : l.length ≤ 20000) (hbad : l.any badB = false) (hP : Tk.pieces (l.length + 1) true l = P) (w : World) (hG : Glob w) :
 Calls Try.prog 12 #[.string (Tk.bs l)] w fun e w' => (∀ t, P = some t → ∃ v0_ : Value, e = .returned (.tuple #[v0_, .int .i64 0]) ∧ Kd.S k32 32 w' w.heap.size (fun _ => True) v0_ t) ∧ (P = none → e = .returned (.tuple #[.slice none 0 0, .int .i64 5])) ∧ Below w.heap.size w w' := by
 have hsz := bs_size l
 have hpos := hG.lt
 obtain ⟨s, hs⟩ : ∃ s, s = Tk.bs l := ⟨_, rfl⟩
 have d1 : decide ((20000 : Int) < (s.size : Int)) = false := decide_eq_false (by rw [hs, hsz]; omega)
 have d1' : decide (20000 < s.size) = false := decide_eq_false (by rw [hs, hsz]; omega)
 have kb := fun W => print_bytes (P := Try.prog) 9 35 5 Try.underlying9 Try.underlying35 Try.underlying5 s W
 have hr : Kd.C (Kd.int .u8) (Lib.bytesWorld w 5 s) (some ⟨w.heap.size, 0, none⟩) s.size (bytesOf s) := Kd.C_of_reads (enc := Value.int .u8) (d := (0 : Int)) (h1 := fun _ => rfl) (bytes_reads w 5 s (by rw [hs, hsz]; omega))
 have hb : Below w.heap.size w (Lib.bytesWorld w 5 s) := bytes_below (Below.refl _ _) (Nat.le_refl _) _ _
 have hu := Try.underlying54
 have HSZ := Lib.hid (show s.size = l.length by rw [hs, hsz])
 have HS := Lib.hid hs
 have HBAD := Lib.hid hbad
 have HP := Lib.hid hP
 have HR := Aside0.mk hr
 have HBB := Aside0.mk hb
 have HG := Aside0.mk hG
 rw [← hs]
 clear hs hsz hr hb hG hbad hP
 go_enter Try.func12, Try.ntmps12
 go_wp2
 refine wp_scope_loop 0 (by rfl) ?_
 go_wp2_with (fail)
 have hC := HR.out
 rw [HSZ.out, HS.out] at hC
 rw [HSZ.out]
 refine (token_Split.has _ _ l _ (by rw [← HS.out] at hC ⊢; exact hC) (by omega) (HG.out.step HBB.out)).mono ?_
 rintro e wc ⟨rfl, b1⟩
 rw [HBAD.out]
 have HBC := Aside0.mk (HBB.out.trans (b1.mono HBB.out.size))
 clear b1 hC HBB HR kb d1 d1'
 go_wp2_with (fail)
 have hb0 : Below wc.heap.size wc (wc.alloc (.cells #[.string s, .slice none 0 0] 54)) := below_alloc (Below.refl _ _) _
 have X0 : (wc.alloc (.cells #[.string s, .slice none 0 0] 54)).heap[wc.heap.size]? = some (.cells #[.string s, .slice none 0 0] 54 (0, 0)) := heap_alloc_new wc _
 obtain ⟨g, hg⟩ : ∃ g, g = wc.heap.size := ⟨_, rfl⟩
 obtain ⟨B, hBe⟩ : ∃ B, B = w.heap.size := ⟨_, rfl⟩
 obtain ⟨wb, hwb⟩ : ∃ wb, wb = w := ⟨_, rfl⟩
 have hgB : B ≤ g := by have := HBC.out.size; omega
 have H2 := Aside0.mk (show WalkAt (wc.alloc (.cells #[.string s, .slice none 0 0] 54)) B g (fun _ => True) (Tk.bs l) [] from by rw [← HS.out]; exact ⟨_, by rw [hg]; exact X0, Kd.S_nil _ _ _ _ _, hgB, by omega⟩)
 have B2 := Aside0.mk (show Below B wb (wc.alloc (.cells #[.string s, .slice none 0 0] 54)) from by rw [hBe, hwb]; exact HBC.out.trans (hb0.mono HBC.out.size))
 have HGb := Aside0.mk (show Glob wb from by rw [hwb]; exact HG.out)
 have hposB : 0 < B := by omega
 rw [← hg]
 rw [← hBe, ← hwb]
 clear hb0 X0 HBC HG
 generalize wc.alloc _ = w0 at *
 have HBE := Lib.hid hBe
 have HWB := Lib.hid hwb
 clear hg hBe hwb
 refine wp_label ?_
 rename_i hlb
 refine hlb _ _ ?_
 refine wp_at_label ?_
 refine LoopAt.intro (fun aB_ kq_ a1 w1 => ∃ (u2 u3 u16 u17 u18 u19 u20 u21 u22 u23 u24 u25 u26 u27 u28 u29 u30 u31 u32 u33 u34 u35 : Value), (∃ (m : List UInt8) (L : List S32) (fst : Bool), m.length < kq_ ∧ Aside0 (fst = decide (m.length = l.length)) ∧ Aside0 (L.length + m.length ≤ l.length) ∧ Aside0 (P = (Tk.pieces kq_ fst m).map fun t => L ++ t) ∧ Aside0 (WalkAt w1 B g (fun _ => True) (Tk.bs m) L) ∧ Aside0 (Below B wb w1)) ∧ a1 = ((((((((((((((((((((((aB_.put (some 2) u2).put (some 3) u3).put (some 16) u16).put (some 17) u17).put (some 18) u18).put (some 19) u19).put (some 20) u20).put (some 21) u21).put (some 22) u22).put (some 23) u23).put (some 24) u24).put (some 25) u25).put (some 26) u26).put (some 27) u27).put (some 28) u28).put (some 29) u29).put (some 30) u30).put (some 31) u31).put (some 32) u32).put (some 33) u33).put (some 34) u34).put (some 35) u35)) (l.length + 1) ?_ ?_
 ·(repeat apply Exists.intro)
  (try simp only [Act.put, List.setIfInBounds_toArray, List.set_cons_zero, List.set_cons_succ])
  refine ⟨?_, rfl⟩
  exact ⟨l, [], true, Nat.lt_succ_self _, ⟨by simp⟩, ⟨by simp⟩, ⟨by rw [HP.out]; simp⟩, H2, B2⟩
 ·intro gk a1 wr hinv
  obtain ⟨u2, u3, u16, u17, u18, u19, u20, u21, u22, u23, u24, u25, u26, u27, u28, u29, u30, u31, u32, u33, u34, u35, hrel, ha⟩ := hinv
  subst ha
  (try simp only [Act.put, List.setIfInBounds_toArray, List.set_cons_zero, List.set_cons_succ])
  intro Js0 Ks0 hJs0 hKs0
  clear H2 B2 HP
  obtain ⟨m, L, fst, hmk, HFS, HLM, HP, H, HB⟩ := hrel
  obtain ⟨g1, rfl⟩ : ∃ g1, gk = g1 + 1 := ⟨gk - 1, by omega⟩
  have hlm := HLM.out
  have hsl := HSZ.out
  have hmz := bs_size m
  have c0 := H.out.cell0
  have HG1 := Aside0.mk (HGb.out.below HB.out (by show 0 < B; omega))
  by_cases hm : m = []
  ·have hPL : P = some L := by
    rw [HP.out, Tk.pieces, if_pos hm]; simp
   have HPL := Lib.hid hPL
   have e1 := bs_none hm
   have H0 := H.out
   obtain ⟨v, h1, h2, _⟩ := H0
   obtain ⟨A1, c1, rfl⟩ := Kd.S_slice h2
   have c1' := (blk_cell h1 1).trans rfl
   have H2 := Aside0.mk h2
   clear h1 h2 hPL hm HP hlm hsl hmz
   go_wp2_with (fail)
   (try simp only [Exit.inBlock, Exit.then, jump_ret])
   go_ret2
   have HBf := HB.out
   have H2f := H2.out
   rw [HBE.out, HWB.out] at HBf
   rw [HBE.out] at H2f
   refine ⟨fun t h => ?_, (fun h => by rw [HPL.out] at h; cases h), HBf⟩
   rw [HPL.out] at h
   obtain rfl := Option.some.inj h
   exact ⟨_, rfl, Kd.S_mono H2f (fun _ _ => trivial)⟩
  ·obtain ⟨e1, e2, e3, e4⟩ := bs_some hm
   have hP1 : P = ((Tk.next fst m).bind fun p => (Tk.pieces g1 false p.2).map fun t => p.1 :: t).map fun t => L ++ t := by
    rw [HP.out, Tk.pieces, if_neg hm]
   have hfs : ((((Tk.bs m).size : Nat) : Int) == ((s.size : Nat) : Int)) = fst := by
    rw [HFS.out, hmz, hsl]
    rw [Bool.eq_iff_iff, beq_iff_eq, decide_eq_true_eq]
    omega
   have hfs2 : ((Tk.bs m).size == s.size) = fst := by
    rw [HFS.out, hmz, hsl]
    rw [Bool.eq_iff_iff, beq_iff_eq, decide_eq_true_eq]
   have HP1 := Lib.hid hP1
   obtain ⟨res, hres⟩ : ∃ res, Tk.next fst m = res := ⟨_, rfl⟩
   have CN := Aside0.mk (token_walk_next.all B g fst m res L wr H.out HG1.out (by omega) (by omega) (fun _ _ => trivial) hres)
   have HRS := Lib.hid hres
   have HM := Lib.hid hm
   clear hP1 hres hm HP hsl hmz
   go_wp2_with (go_at_call 25; (with_reducible refine CN.out.mono ?_))
   rintro e wn ⟨hy, hn, bn⟩
   have B3 := Aside0.mk (HB.out.trans bn)
   clear bn CN
   cases hr : res with
   | none =>
    obtain rfl := hn hr
    have hPN : P = none := by rw [HP1.out, HRS.out, hr]; rfl
    have HPN := Lib.hid hPN
    clear hy hn hPN hr
    go_wp2_with (fail)
    (try simp only [Exit.inBlock, Exit.then, jump_ret])
    go_ret2
    have HBf := B3.out
    rw [HBE.out, HWB.out] at HBf
    exact ⟨(fun t h => by rw [HPN.out] at h; cases h), fun _ => rfl, HBf⟩
   | some p =>
    obtain ⟨t0, r0⟩ := p
    obtain ⟨rfl, h1⟩ := hy t0 r0 hr
    have H3 := Aside0.mk h1
    have hrl := next_len HM.out (HRS.out.trans hr)
    have hPN : P = (Tk.pieces g1 false r0).map fun t => (L ++ [t0]) ++ t := by
     rw [HP1.out, HRS.out, hr]
     cases hq : Tk.pieces g1 false r0 with
     | none => simp [hq]
     | some t => simp [hq]
    have HPN := Aside0.mk hPN
    clear hy hn h1 hPN hr hfs hfs2
    go_wp2_with (fail)
    refine wp_goto (And.intro rfl ?_)
    refine hKs0 _ _ ?_
    go_roundg g1
    case measure => omega
    case rel => exact ⟨r0, L ++ [t0], false, by omega, ⟨by rw [eq_comm, decide_eq_false_iff_not]; omega⟩, ⟨by rw [List.length_append, List.length_singleton]; omega⟩, HPN, H3, B3⟩
set_option maxHeartbeats 4000000 in
set_option maxRecDepth 100000 in
theorem token_Split.big (l : List UInt8) (hl : 20000 < l.length) (hl2 : l.length ≤ 9223372036854775807) (w : World) :
 Calls Try.prog 12 #[.string (Tk.bs l)] w fun e w' => e = .returned (.tuple #[.slice none 0 0, .int .i64 3]) ∧ w = w' := by
 have hsz := bs_size l
 obtain ⟨s, hs⟩ : ∃ s, s = Tk.bs l := ⟨_, rfl⟩
 rw [← hs] at hsz ⊢
 have d1 : decide ((20000 : Int) < (s.size : Int)) = true := decide_eq_true (by omega)
 have d1' : decide (20000 < s.size) = true := decide_eq_true (by omega)
 clear hs hsz
 go_enter Try.func12, Try.ntmps12
 go_wp2
 refine wp_scope_loop 0 (by rfl) ?_
 go_wp2_with (fail)
 (try simp only [Exit.inBlock, Exit.then, jump_ret])
 go_ret2
 exact ⟨rfl, rfl⟩
set_option maxHeartbeats 4000000 in
set_option maxRecDepth 100000 in
theorem token_Split.bad (l : List UInt8) (hl : l.length ≤ 20000) (hbad : l.any badB = true) (w : World) (hG : Glob w) :
 Calls Try.prog 12 #[.string (Tk.bs l)] w fun e w' => e = .returned (.tuple #[.slice none 0 0, .int .i64 4]) ∧ Below w.heap.size w w' := by
 have hsz := bs_size l
 obtain ⟨s, hs⟩ : ∃ s, s = Tk.bs l := ⟨_, rfl⟩
 have d1 : decide ((20000 : Int) < (s.size : Int)) = false := decide_eq_false (by rw [hs, hsz]; omega)
 have d1' : decide (20000 < s.size) = false := decide_eq_false (by rw [hs, hsz]; omega)
 have kb := fun W => print_bytes (P := Try.prog) 9 35 5 Try.underlying9 Try.underlying35 Try.underlying5 s W
 have hr : Kd.C (Kd.int .u8) (Lib.bytesWorld w 5 s) (some ⟨w.heap.size, 0, none⟩) s.size (bytesOf s) := Kd.C_of_reads (enc := Value.int .u8) (d := (0 : Int)) (h1 := fun _ => rfl) (bytes_reads w 5 s (by rw [hs, hsz]; omega))
 have hb : Below w.heap.size w (Lib.bytesWorld w 5 s) := bytes_below (Below.refl _ _) (Nat.le_refl _) _ _
 have HSZ := Lib.hid (show s.size = l.length by rw [hs, hsz])
 have HS := Lib.hid hs
 have HBAD := Lib.hid hbad
 have HR := Aside0.mk hr
 have HBB := Aside0.mk hb
 have HG := Aside0.mk hG
 rw [← hs]
 clear hs hsz hr hb hG hbad
 go_enter Try.func12, Try.ntmps12
 go_wp2
 refine wp_scope_loop 0 (by rfl) ?_
 go_wp2_with (fail)
 have hC := HR.out
 rw [HSZ.out, HS.out] at hC
 rw [HSZ.out]
 refine (token_Split.has _ _ l _ (by rw [← HS.out] at hC ⊢; exact hC) (by omega) (HG.out.step HBB.out)).mono ?_
 rintro e wc ⟨rfl, b1⟩
 rw [HBAD.out]
 have HBC := Aside0.mk (HBB.out.trans (b1.mono HBB.out.size))
 clear b1 hC HBB HR kb d1 d1'
 go_wp2_with (fail)
 (try simp only [Exit.inBlock, Exit.then, jump_ret])
 go_ret2
 exact ⟨rfl, HBC.out⟩
theorem badB_eq (l : List UInt8) : l.any badB = l.any (fun c => !Tk.allowed c) := rfl
theorem token_Split.calls (a0 : ByteArray) (r1 : List S32) (r2 : Int) (w : World) (hG : Glob w) (h : token_Split.f a0 = some (r1, r2)) :
 Calls Try.prog 12 #[.string a0] w fun e w' => ∃ v0_ : Value, e = .returned (.tuple #[v0_, .int .i64 r2]) ∧ Kd.S k32 32 w' w.heap.size (fun _ => True) v0_ r1 ∧ Below w.heap.size w w' := by
 unfold token_Split.f at h
 have hl2 : a0.size ≤ 9223372036854775807 := by
  refine Classical.byContradiction fun hc => ?_
  rw [if_neg hc] at h
  cases h
 rw [if_pos hl2] at h
 have hx := Option.some.inj h
 rw [Lib.size_eq] at hl2
 have ha : a0 = Tk.bs a0.data.toList := (bs_data a0).symm
 rw [ha]
 rw [ha] at hx
 generalize a0.data.toList = l at *
 clear ha h
 have hx : Tk.split l = (r1, r2) := hx
 unfold Tk.split at hx
 by_cases hl : 20000 < l.length
 ·rw [if_pos hl] at hx
  obtain ⟨rfl, rfl⟩ := Prod.mk.inj hx
  refine (token_Split.big l hl hl2 w).mono ?_
  rintro e w' ⟨rfl, rfl⟩
  exact ⟨_, rfl, Kd.S_nil _ _ _ _ _, Below.refl _ _⟩
 ·rw [if_neg hl] at hx
  by_cases hb : l.any badB = true
  ·rw [if_pos (by rw [← badB_eq]; exact hb)] at hx
   obtain ⟨rfl, rfl⟩ := Prod.mk.inj hx
   refine (token_Split.bad l (by omega) hb w hG).mono ?_
   rintro e w' ⟨rfl, b⟩
   exact ⟨_, rfl, Kd.S_nil _ _ _ _ _, b⟩
  ·rw [if_neg (by rw [← badB_eq]; exact hb)] at hx
   refine (token_Split.loop l _ (by omega) (Bool.eq_false_iff.2 hb) rfl w hG).mono ?_
   rintro e w' ⟨hy, hn, b⟩
   cases hp : Tk.pieces (l.length + 1) true l with
   | none =>
    rw [hp] at hx
    obtain ⟨rfl, rfl⟩ := Prod.mk.inj hx
    exact ⟨_, hn hp, Kd.S_nil _ _ _ _ _, b⟩
   | some t =>
    rw [hp] at hx
    obtain ⟨rfl, rfl⟩ := Prod.mk.inj hx
    obtain ⟨v, he, hr⟩ := hy t hp
    exact ⟨v, he, hr, b⟩


end Go.Proofs.Ytomikblbfappnaa.Q

-- Printed by this session's wip/np.py over the kit's print program. Not trusted: Lean checks it.
namespace Go.Proofs.Ytomikblbfappnaa.Q
open Go.RowKit Go.Proofs.YtomikblbfappnaaW.PrintWords Go.Proofs.YtomikblbfappnaaW.PrintLast Go.Proofs.YtomikblbfappnaaW.Own Go.Proofs.YtomikblbfappnaaW.PrintMore
attribute [local go_sem] max2_int min2_int max_two min_two max_three min_three max_four min_four
set_option linter.unusedVariables false
set_option linter.unusedSimpArgs false

/-! ### newellaw02_awake: function 11 -/
def newellaw02_awake.f  : Option (Bool) := (token_Split.f (⟨#[60, 97, 62, 120, 60, 47, 97, 62]⟩ : ByteArray)).bind fun bt112 => (if bt112.2 = 0 then (if (bt112.1.length : Int) = 3 then (if 0 < (bt112.1.length : Int) then (if ((rd_T32 bt112.1 0).f1).toList = ([97] : List UInt8) then (if 1 < (bt112.1.length : Int) then (some (((rd_T32 bt112.1 1).f2).toList == ([120] : List UInt8))) else (none)) else (some false)) else (none)) else (some false)) else (some false))
set_option maxHeartbeats 8000000 in
set_option maxRecDepth 100000 in
theorem newellaw02_awake.calls  (r : Bool) (w : World) (hG : Glob w) (h : newellaw02_awake.f  = some r) :
 Calls Try.prog 11 #[] w fun e w' => e = .returned (.bool r) ∧ Below w.heap.size w w' := by
 have HG := Aside0.mk hG
 clear hG
 have HB := Aside0.mk (Below.refl w.heap.size w)
 have H : ((token_Split.f (⟨#[60, 97, 62, 120, 60, 47, 97, 62]⟩ : ByteArray)).bind fun bt112 => (if bt112.2 = 0 then (if (bt112.1.length : Int) = 3 then (if 0 < (bt112.1.length : Int) then (if ((rd_T32 bt112.1 0).f1).toList = ([97] : List UInt8) then (if 1 < (bt112.1.length : Int) then (some (((rd_T32 bt112.1 1).f2).toList == ([120] : List UInt8))) else (none)) else (some false)) else (none)) else (some false)) else (some false))) = some r := h
 clear h
 replace H := Option.bind_eq_some_iff.mp H
 obtain ⟨⟨t112, t113⟩, A10, H⟩ := H
 replace H : (if t113 = 0 then (if (t112.length : Int) = 3 then (if 0 < (t112.length : Int) then (if ((rd_T32 t112 0).f1).toList = ([97] : List UInt8) then (if 1 < (t112.length : Int) then (some (((rd_T32 t112 1).f2).toList == ([120] : List UInt8))) else (none)) else (some false)) else (none)) else (some false)) else (some false)) = some r := H
 have A1 := Aside0.mk A10
 clear A10
 by_cases c2 : t113 = 0
 ·rw [if_pos c2] at H
  have c2b0 : (t113 == 0) = true := beq_iff_eq.mpr c2
  have c2b1 : (t113 != 0) = false := bne_eq_false_iff_eq.mpr c2
  clear c2
  by_cases c3 : (t112.length : Int) = 3
  ·rw [if_pos c3] at H
   have c3b0 : ((t112.length : Int) == 3) = true := beq_iff_eq.mpr c3
   have c3b1 : ((t112.length : Int) != 3) = false := bne_eq_false_iff_eq.mpr c3
   clear c3
   by_cases c4 : 0 < (t112.length : Int)
   ·rw [if_pos c4] at H
    have c4b0 : decide (0 < (t112.length : Int)) = true := decide_eq_true c4
    have c4b1 : decide (0 < t112.length) = true := decide_eq_true (by omega)
    clear c4
    by_cases c5 : ((rd_T32 t112 0).f1).toList = ([97] : List UInt8)
    ·rw [if_pos c5] at H
     have c5b0 : (((rd_T32 t112 0).f1).toList == ([97] : List UInt8)) = true := beq_iff_eq.mpr c5
     have c5b1 : (((rd_T32 t112 0).f1).toList != ([97] : List UInt8)) = false := bne_eq_false_iff_eq.mpr c5
     clear c5
     by_cases c6 : 1 < (t112.length : Int)
     ·rw [if_pos c6] at H
      have c6b0 : decide (1 < (t112.length : Int)) = true := decide_eq_true c6
      have c6b1 : decide (1 < t112.length) = true := decide_eq_true (by omega)
      clear c6
      obtain rfl := Option.some.inj H
      go_enter Try.func11, Try.ntmps11
      go_wp2_with (first | ((with_reducible refine gate_callee (f := 12) rfl ?_); refine goesL_ (some 4) rfl rfl Try.func12 (by kernel_rfl) rfl #[.string (⟨#[60, 97, 62, 120, 60, 47, 97, 62]⟩ : ByteArray)] rfl (by (try simp only [List.map_toArray, List.map_cons, List.map_nil]); first | done | rfl | (simp only [List.length_drop, List.length_take]; rfl)) ?_; (with_reducible refine (token_Split.calls (⟨#[60, 97, 62, 120, 60, 47, 97, 62]⟩ : ByteArray) t112 t113 _ ?side1 A1.out).mono ?_); (case side1 => exact Glob.step HG.out (by repeat (first | (with_reducible first | exact HB.out | apply below_alloc | apply pw_below_drewN | apply below_drew1) | exact HB.out))); rintro e w7 ⟨v114, rfl, ho0, hb⟩; refine ⟨_, rfl, ?_⟩; have n0_ := Aside0.mk (Kd.S_lower ho0 (below_size (by repeat (first | (with_reducible first | exact HB.out | apply below_alloc | apply pw_below_drewN | apply below_drew1) | exact HB.out)))); have n1_ := Aside0.mk (below_step (by repeat (first | (with_reducible first | exact HB.out | apply below_alloc | apply pw_below_drewN | apply below_drew1) | exact HB.out)) hb); clear HB; have HO115 := n0_; have HB := n1_; clear n0_ n1_; (try clear hb); (try clear hb2); (try clear hk); (try clear hi); (try clear ho0); obtain ⟨Ao8, co8, eo8⟩ := Kd.S_slice HO115.out; subst eo8; have p116 : 0 ≤ (0 : Int) := (by omega); have q116 : 0 < (t112.length : Int) := of_decide_eq_true (by first | (with_reducible assumption) | assumption); obtain ⟨ad116, A116_3, c116_3, e116, hx116_0, hx116_1, hx116_2, hx116_3, hx116_4, hl116_3, hi116_3⟩ := at_T32 (Kd.S_reads' HO115.out).2.2 0 p116 q116; cases e116; obtain ⟨ce116, hce116, hMe116, hcc116⟩ := Kd.S_get HO115.out z32 0 p116 (by first | exact q116 | exact of_decide_eq_true (by first | (with_reducible assumption) | assumption) | (have e_ := (Kd.S_reads' HO115.out).1; omega)); obtain ⟨ve116_3, rfl, ge116_3⟩ := k32_openM hMe116; have hv116_3 := hcc116 3 _ rfl; rw [add_field _ _ 3 (by omega)] at hv116_3; replace hv116_3 := Option.some.inj (hv116_3.symm.trans hx116_3); rw [hv116_3] at ge116_3; have HL116_3 := Aside0.mk (show Kd.R k39 39 _ _ _ _ ((rd_T32 t112 0).f3) from ge116_3); clear hv116_3 ge116_3; clear hcc116 hce116; have qi116 : (0 < t112.length) = True := eq_true (by omega); (try rw [show ((0 : Int)).toNat = 0 from rfl] at hx116_0); (try rw [show 0 * 5 = 0 from rfl] at hx116_0); (try rw [Addr.add_zero'] at hx116_0); (try rw [show ((0 : Int)).toNat = 0 from rfl] at hx116_1); (try rw [show 0 * 5 = 0 from rfl] at hx116_1); (try rw [Addr.add_zero'] at hx116_1); (try rw [show ((0 : Int)).toNat = 0 from rfl] at hx116_2); (try rw [show 0 * 5 = 0 from rfl] at hx116_2); (try rw [Addr.add_zero'] at hx116_2); (try rw [show ((0 : Int)).toNat = 0 from rfl] at hx116_3); (try rw [show 0 * 5 = 0 from rfl] at hx116_3); (try rw [Addr.add_zero'] at hx116_3); (try rw [show ((0 : Int)).toNat = 0 from rfl] at hx116_4); (try rw [show 0 * 5 = 0 from rfl] at hx116_4); (try rw [Addr.add_zero'] at hx116_4); have HR116_3 := Aside0.mk hi116_3; have HC116_3 := Aside0.mk hl116_3; clear hi116_3 hl116_3; replace p116 := eq_true p116; replace q116 := eq_true q116; have p117 : 0 ≤ (1 : Int) := (by omega); have q117 : 1 < (t112.length : Int) := of_decide_eq_true (by first | (with_reducible assumption) | assumption); obtain ⟨ad117, A117_3, c117_3, e117, hx117_0, hx117_1, hx117_2, hx117_3, hx117_4, hl117_3, hi117_3⟩ := at_T32 (Kd.S_reads' HO115.out).2.2 1 p117 q117; obtain rfl : ad116 = ad117 := (by injection e117); obtain ⟨ce117, hce117, hMe117, hcc117⟩ := Kd.S_get HO115.out z32 1 p117 (by first | exact q117 | exact of_decide_eq_true (by first | (with_reducible assumption) | assumption) | (have e_ := (Kd.S_reads' HO115.out).1; omega)); obtain ⟨ve117_3, rfl, ge117_3⟩ := k32_openM hMe117; have hv117_3 := hcc117 3 _ rfl; rw [add_field _ _ 3 (by omega)] at hv117_3; replace hv117_3 := Option.some.inj (hv117_3.symm.trans hx117_3); rw [hv117_3] at ge117_3; have HL117_3 := Aside0.mk (show Kd.R k39 39 _ _ _ _ ((rd_T32 t112 1).f3) from ge117_3); clear hv117_3 ge117_3; clear hcc117 hce117; (try simp only [show (1 : Int).toNat = 1 from rfl, Nat.reduceMul, Nat.reduceEqDiff, Go.Addr.add, ↓reduceIte] at hx117_0); (try simp only [show (1 : Int).toNat = 1 from rfl, Nat.reduceMul, Nat.reduceEqDiff, Go.Addr.add, ↓reduceIte] at hx117_1); (try simp only [show (1 : Int).toNat = 1 from rfl, Nat.reduceMul, Nat.reduceEqDiff, Go.Addr.add, ↓reduceIte] at hx117_2); (try simp only [show (1 : Int).toNat = 1 from rfl, Nat.reduceMul, Nat.reduceEqDiff, Go.Addr.add, ↓reduceIte] at hx117_3); (try simp only [show (1 : Int).toNat = 1 from rfl, Nat.reduceMul, Nat.reduceEqDiff, Go.Addr.add, ↓reduceIte] at hx117_4); have qi117 : (1 < t112.length) = True := eq_true (by omega); (try rw [show ((1 : Int)).toNat = 1 from rfl] at hx117_0); (try rw [show 1 * 5 = 5 from rfl] at hx117_0); (try rw [show ((1 : Int)).toNat = 1 from rfl] at hx117_1); (try rw [show 1 * 5 = 5 from rfl] at hx117_1); (try rw [show ((1 : Int)).toNat = 1 from rfl] at hx117_2); (try rw [show 1 * 5 = 5 from rfl] at hx117_2); (try rw [show ((1 : Int)).toNat = 1 from rfl] at hx117_3); (try rw [show 1 * 5 = 5 from rfl] at hx117_3); (try rw [show ((1 : Int)).toNat = 1 from rfl] at hx117_4); (try rw [show 1 * 5 = 5 from rfl] at hx117_4); have HR117_3 := Aside0.mk hi117_3; have HC117_3 := Aside0.mk hl117_3; clear hi117_3 hl117_3; replace p117 := eq_true p117; replace q117 := eq_true q117))
      go_ret
      exact ⟨by first | rfl | (simp [errW_none, errW_some] <;> rfl) | (simp [*, errW_none, errW_some] <;> rfl), by repeat (first | (with_reducible first | exact HB.out | apply below_alloc | apply pw_below_drewN | apply below_drew1) | exact HB.out)⟩
     ·rw [if_neg c6] at H
      exact absurd H (by simp)
    ·rw [if_neg c5] at H
     have c5b0 : (((rd_T32 t112 0).f1).toList == ([97] : List UInt8)) = false := beq_eq_false_iff_ne.mpr c5
     have c5b1 : (((rd_T32 t112 0).f1).toList != ([97] : List UInt8)) = true := bne_iff_ne.mpr c5
     obtain rfl := Option.some.inj H
     go_enter Try.func11, Try.ntmps11
     go_wp2_with (first | ((with_reducible refine gate_callee (f := 12) rfl ?_); refine goesL_ (some 4) rfl rfl Try.func12 (by kernel_rfl) rfl #[.string (⟨#[60, 97, 62, 120, 60, 47, 97, 62]⟩ : ByteArray)] rfl (by (try simp only [List.map_toArray, List.map_cons, List.map_nil]); first | done | rfl | (simp only [List.length_drop, List.length_take]; rfl)) ?_; (with_reducible refine (token_Split.calls (⟨#[60, 97, 62, 120, 60, 47, 97, 62]⟩ : ByteArray) t112 t113 _ ?side1 A1.out).mono ?_); (case side1 => exact Glob.step HG.out (by repeat (first | (with_reducible first | exact HB.out | apply below_alloc | apply pw_below_drewN | apply below_drew1) | exact HB.out))); rintro e w9 ⟨v114, rfl, ho0, hb⟩; refine ⟨_, rfl, ?_⟩; have n0_ := Aside0.mk (Kd.S_lower ho0 (below_size (by repeat (first | (with_reducible first | exact HB.out | apply below_alloc | apply pw_below_drewN | apply below_drew1) | exact HB.out)))); have n1_ := Aside0.mk (below_step (by repeat (first | (with_reducible first | exact HB.out | apply below_alloc | apply pw_below_drewN | apply below_drew1) | exact HB.out)) hb); clear HB; have HO115 := n0_; have HB := n1_; clear n0_ n1_; (try clear hb); (try clear hb2); (try clear hk); (try clear hi); (try clear ho0); obtain ⟨Ao10, co10, eo10⟩ := Kd.S_slice HO115.out; subst eo10; have p116 : 0 ≤ (0 : Int) := (by omega); have q116 : 0 < (t112.length : Int) := of_decide_eq_true (by first | (with_reducible assumption) | assumption); obtain ⟨ad116, A116_3, c116_3, e116, hx116_0, hx116_1, hx116_2, hx116_3, hx116_4, hl116_3, hi116_3⟩ := at_T32 (Kd.S_reads' HO115.out).2.2 0 p116 q116; cases e116; obtain ⟨ce116, hce116, hMe116, hcc116⟩ := Kd.S_get HO115.out z32 0 p116 (by first | exact q116 | exact of_decide_eq_true (by first | (with_reducible assumption) | assumption) | (have e_ := (Kd.S_reads' HO115.out).1; omega)); obtain ⟨ve116_3, rfl, ge116_3⟩ := k32_openM hMe116; have hv116_3 := hcc116 3 _ rfl; rw [add_field _ _ 3 (by omega)] at hv116_3; replace hv116_3 := Option.some.inj (hv116_3.symm.trans hx116_3); rw [hv116_3] at ge116_3; have HL116_3 := Aside0.mk (show Kd.R k39 39 _ _ _ _ ((rd_T32 t112 0).f3) from ge116_3); clear hv116_3 ge116_3; clear hcc116 hce116; have qi116 : (0 < t112.length) = True := eq_true (by omega); (try rw [show ((0 : Int)).toNat = 0 from rfl] at hx116_0); (try rw [show 0 * 5 = 0 from rfl] at hx116_0); (try rw [Addr.add_zero'] at hx116_0); (try rw [show ((0 : Int)).toNat = 0 from rfl] at hx116_1); (try rw [show 0 * 5 = 0 from rfl] at hx116_1); (try rw [Addr.add_zero'] at hx116_1); (try rw [show ((0 : Int)).toNat = 0 from rfl] at hx116_2); (try rw [show 0 * 5 = 0 from rfl] at hx116_2); (try rw [Addr.add_zero'] at hx116_2); (try rw [show ((0 : Int)).toNat = 0 from rfl] at hx116_3); (try rw [show 0 * 5 = 0 from rfl] at hx116_3); (try rw [Addr.add_zero'] at hx116_3); (try rw [show ((0 : Int)).toNat = 0 from rfl] at hx116_4); (try rw [show 0 * 5 = 0 from rfl] at hx116_4); (try rw [Addr.add_zero'] at hx116_4); have HR116_3 := Aside0.mk hi116_3; have HC116_3 := Aside0.mk hl116_3; clear hi116_3 hl116_3; replace p116 := eq_true p116; replace q116 := eq_true q116))
     go_ret
     exact ⟨by first | rfl | (simp [errW_none, errW_some] <;> rfl) | (simp [*, errW_none, errW_some] <;> rfl), by repeat (first | (with_reducible first | exact HB.out | apply below_alloc | apply pw_below_drewN | apply below_drew1) | exact HB.out)⟩
   ·rw [if_neg c4] at H
    exact absurd H (by simp)
  ·rw [if_neg c3] at H
   have c3b0 : ((t112.length : Int) == 3) = false := beq_eq_false_iff_ne.mpr c3
   have c3b1 : ((t112.length : Int) != 3) = true := bne_iff_ne.mpr c3
   obtain rfl := Option.some.inj H
   go_enter Try.func11, Try.ntmps11
   go_wp2_with (first | ((with_reducible refine gate_callee (f := 12) rfl ?_); refine goesL_ (some 4) rfl rfl Try.func12 (by kernel_rfl) rfl #[.string (⟨#[60, 97, 62, 120, 60, 47, 97, 62]⟩ : ByteArray)] rfl (by (try simp only [List.map_toArray, List.map_cons, List.map_nil]); first | done | rfl | (simp only [List.length_drop, List.length_take]; rfl)) ?_; (with_reducible refine (token_Split.calls (⟨#[60, 97, 62, 120, 60, 47, 97, 62]⟩ : ByteArray) t112 t113 _ ?side1 A1.out).mono ?_); (case side1 => exact Glob.step HG.out (by repeat (first | (with_reducible first | exact HB.out | apply below_alloc | apply pw_below_drewN | apply below_drew1) | exact HB.out))); rintro e w11 ⟨v114, rfl, ho0, hb⟩; refine ⟨_, rfl, ?_⟩; have n0_ := Aside0.mk (Kd.S_lower ho0 (below_size (by repeat (first | (with_reducible first | exact HB.out | apply below_alloc | apply pw_below_drewN | apply below_drew1) | exact HB.out)))); have n1_ := Aside0.mk (below_step (by repeat (first | (with_reducible first | exact HB.out | apply below_alloc | apply pw_below_drewN | apply below_drew1) | exact HB.out)) hb); clear HB; have HO115 := n0_; have HB := n1_; clear n0_ n1_; (try clear hb); (try clear hb2); (try clear hk); (try clear hi); (try clear ho0); obtain ⟨Ao12, co12, eo12⟩ := Kd.S_slice HO115.out; subst eo12))
   go_ret
   exact ⟨by first | rfl | (simp [errW_none, errW_some] <;> rfl) | (simp [*, errW_none, errW_some] <;> rfl), by repeat (first | (with_reducible first | exact HB.out | apply below_alloc | apply pw_below_drewN | apply below_drew1) | exact HB.out)⟩
 ·rw [if_neg c2] at H
  have c2b0 : (t113 == 0) = false := beq_eq_false_iff_ne.mpr c2
  have c2b1 : (t113 != 0) = true := bne_iff_ne.mpr c2
  obtain rfl := Option.some.inj H
  go_enter Try.func11, Try.ntmps11
  go_wp2_with (first | ((with_reducible refine gate_callee (f := 12) rfl ?_); refine goesL_ (some 4) rfl rfl Try.func12 (by kernel_rfl) rfl #[.string (⟨#[60, 97, 62, 120, 60, 47, 97, 62]⟩ : ByteArray)] rfl (by (try simp only [List.map_toArray, List.map_cons, List.map_nil]); first | done | rfl | (simp only [List.length_drop, List.length_take]; rfl)) ?_; (with_reducible refine (token_Split.calls (⟨#[60, 97, 62, 120, 60, 47, 97, 62]⟩ : ByteArray) t112 t113 _ ?side1 A1.out).mono ?_); (case side1 => exact Glob.step HG.out (by repeat (first | (with_reducible first | exact HB.out | apply below_alloc | apply pw_below_drewN | apply below_drew1) | exact HB.out))); rintro e w13 ⟨v114, rfl, ho0, hb⟩; refine ⟨_, rfl, ?_⟩; have n0_ := Aside0.mk (Kd.S_lower ho0 (below_size (by repeat (first | (with_reducible first | exact HB.out | apply below_alloc | apply pw_below_drewN | apply below_drew1) | exact HB.out)))); have n1_ := Aside0.mk (below_step (by repeat (first | (with_reducible first | exact HB.out | apply below_alloc | apply pw_below_drewN | apply below_drew1) | exact HB.out)) hb); clear HB; have HO115 := n0_; have HB := n1_; clear n0_ n1_; (try clear hb); (try clear hb2); (try clear hk); (try clear hi); (try clear ho0)))
  go_ret
  exact ⟨by first | rfl | (simp [errW_none, errW_some] <;> rfl) | (simp [*, errW_none, errW_some] <;> rfl), by repeat (first | (with_reducible first | exact HB.out | apply below_alloc | apply pw_below_drewN | apply below_drew1) | exact HB.out)⟩

end Go.Proofs.Ytomikblbfappnaa.Q

-- Printed by this session's wip/np.py over the kit's print program. Not trusted: Lean checks it.
namespace Go.Proofs.Ytomikblbfappnaa.Q
open Go.RowKit Go.Proofs.YtomikblbfappnaaW.PrintWords Go.Proofs.YtomikblbfappnaaW.PrintLast Go.Proofs.YtomikblbfappnaaW.Own Go.Proofs.YtomikblbfappnaaW.PrintMore
attribute [local go_sem] max2_int min2_int max_two min_two max_three min_three max_four min_four
set_option linter.unusedVariables false
set_option linter.unusedSimpArgs false

/-! ### newelref01_Space: function 34 -/
def newelref01_Space.f (a0 : Int) : Option (Bool) := if a0 = 9 then (some true) else (if a0 = 10 then (some true) else (if a0 = 13 then (some true) else (some (a0 == 32))))
set_option maxHeartbeats 8000000 in
set_option maxRecDepth 100000 in
theorem newelref01_Space.calls (a0 : Int) (r : Bool) (w : World) (hG : Glob w) (h : newelref01_Space.f a0 = some r) :
 Calls Try.prog 34 #[.int .u8 a0] w fun e w' => e = .returned (.bool r) ∧ Drawn0 w w' := by
 have HG := Aside0.mk hG
 clear hG
 have H : (if a0 = 9 then (some true) else (if a0 = 10 then (some true) else (if a0 = 13 then (some true) else (some (a0 == 32))))) = some r := h
 clear h
 by_cases c2 : a0 = 9
 ·rw [if_pos c2] at H
  have c2b0 : (a0 == 9) = true := beq_iff_eq.mpr c2
  have c2b1 : (a0 != 9) = false := bne_eq_false_iff_eq.mpr c2
  clear c2
  obtain rfl := Option.some.inj H
  go_enter Try.func34, Try.ntmps34
  go_wp2
  go_ret
  exact ⟨by first | rfl | (simp; done) | (simp [*]; done), by repeat (first | exact Drawn0.refl _ | apply Drawn0.step)⟩
 ·rw [if_neg c2] at H
  have c2b0 : (a0 == 9) = false := beq_eq_false_iff_ne.mpr c2
  have c2b1 : (a0 != 9) = true := bne_iff_ne.mpr c2
  by_cases c3 : a0 = 10
  ·rw [if_pos c3] at H
   have c3b0 : (a0 == 10) = true := beq_iff_eq.mpr c3
   have c3b1 : (a0 != 10) = false := bne_eq_false_iff_eq.mpr c3
   clear c3
   obtain rfl := Option.some.inj H
   go_enter Try.func34, Try.ntmps34
   go_wp2
   go_ret
   exact ⟨by first | rfl | (simp; done) | (simp [*]; done), by repeat (first | exact Drawn0.refl _ | apply Drawn0.step)⟩
  ·rw [if_neg c3] at H
   have c3b0 : (a0 == 10) = false := beq_eq_false_iff_ne.mpr c3
   have c3b1 : (a0 != 10) = true := bne_iff_ne.mpr c3
   by_cases c4 : a0 = 13
   ·rw [if_pos c4] at H
    have c4b0 : (a0 == 13) = true := beq_iff_eq.mpr c4
    have c4b1 : (a0 != 13) = false := bne_eq_false_iff_eq.mpr c4
    clear c4
    obtain rfl := Option.some.inj H
    go_enter Try.func34, Try.ntmps34
    go_wp2
    go_ret
    exact ⟨by first | rfl | (simp; done) | (simp [*]; done), by repeat (first | exact Drawn0.refl _ | apply Drawn0.step)⟩
   ·rw [if_neg c4] at H
    have c4b0 : (a0 == 13) = false := beq_eq_false_iff_ne.mpr c4
    have c4b1 : (a0 != 13) = true := bne_iff_ne.mpr c4
    obtain rfl := Option.some.inj H
    go_enter Try.func34, Try.ntmps34
    go_wp2
    go_ret
    exact ⟨by first | rfl | (simp; done) | (simp [*]; done), by repeat (first | exact Drawn0.refl _ | apply Drawn0.step)⟩

end Go.Proofs.Ytomikblbfappnaa.Q

-- Printed by this session's wip/np.py over the kit's print program. Not trusted: Lean checks it.
namespace Go.Proofs.Ytomikblbfappnaa.Q
open Go.RowKit Go.Proofs.YtomikblbfappnaaW.PrintWords Go.Proofs.YtomikblbfappnaaW.PrintLast Go.Proofs.YtomikblbfappnaaW.Own Go.Proofs.YtomikblbfappnaaW.PrintMore
attribute [local go_sem] max2_int min2_int max_two min_two max_three min_three max_four min_four
set_option linter.unusedVariables false
set_option linter.unusedSimpArgs false

/-! ### newelref01_Allowed: function 18 -/
def newelref01_Allowed.f (a0 : Int) : Option (Bool) := (newelref01_Space.f a0).bind fun t223 => (if t223 = true then (some true) else (some (decide (a0 > 32))))
set_option maxHeartbeats 8000000 in
set_option maxRecDepth 100000 in
theorem newelref01_Allowed.calls (a0 : Int) (r : Bool) (w : World) (hG : Glob w) (h : newelref01_Allowed.f a0 = some r) :
 Calls Try.prog 18 #[.int .u8 a0] w fun e w' => e = .returned (.bool r) ∧ Drawn0 w w' := by
 have HG := Aside0.mk hG
 clear hG
 have H : ((newelref01_Space.f a0).bind fun t223 => (if t223 = true then (some true) else (some (decide (a0 > 32))))) = some r := h
 clear h
 replace H := Option.bind_eq_some_iff.mp H
 obtain ⟨t223, A20, H⟩ := H
 replace H : (if t223 = true then (some true) else (some (decide (a0 > 32)))) = some r := H
 have A2 := Aside0.mk A20
 clear A20
 by_cases c3 : t223 = true
 ·subst c3
  have H1 : (some true) = some r := by rw [if_pos rfl] at H; exact H
  clear H
  have H := H1
  clear H1
  obtain rfl := Option.some.inj H
  go_enter Try.func18, Try.ntmps18
  go_wp2_with (first | ((with_reducible refine gate_callee (f := 34) rfl ?_); refine goesL_ (some 4) rfl rfl Try.func34 (by kernel_rfl) rfl #[.int .u8 a0] rfl (by (try simp only [List.map_toArray, List.map_cons, List.map_nil]); first | done | rfl | (simp only [List.length_drop, List.length_take]; rfl)) ?_; (with_reducible refine (newelref01_Space.calls a0 true _ ?side1 A2.out).mono ?_); (case side1 => exact Glob.drawn HG.out (by repeat (first | exact Drawn0.refl _ | apply Drawn0.step))); rintro e w' ⟨rfl, ⟨nd, rfl⟩⟩; refine ⟨_, rfl, ?_⟩))
  go_ret
  exact ⟨by first | rfl | (simp; done) | (simp [*]; done), by repeat (first | exact Drawn0.refl _ | apply Drawn0.step)⟩
 ·replace c3 := Bool.eq_false_iff.mpr c3
  subst c3
  have H1 : (some (decide (a0 > 32))) = some r := by rw [if_neg (show ¬ (false = true) by decide)] at H; exact H
  clear H
  have H := H1
  clear H1
  obtain rfl := Option.some.inj H
  go_enter Try.func18, Try.ntmps18
  go_wp2_with (first | ((with_reducible refine gate_callee (f := 34) rfl ?_); refine goesL_ (some 4) rfl rfl Try.func34 (by kernel_rfl) rfl #[.int .u8 a0] rfl (by (try simp only [List.map_toArray, List.map_cons, List.map_nil]); first | done | rfl | (simp only [List.length_drop, List.length_take]; rfl)) ?_; (with_reducible refine (newelref01_Space.calls a0 false _ ?side1 A2.out).mono ?_); (case side1 => exact Glob.drawn HG.out (by repeat (first | exact Drawn0.refl _ | apply Drawn0.step))); rintro e w' ⟨rfl, ⟨nd, rfl⟩⟩; refine ⟨_, rfl, ?_⟩))
  go_ret
  exact ⟨by first | rfl | (simp; done) | (simp [*]; done), by repeat (first | exact Drawn0.refl _ | apply Drawn0.step)⟩

end Go.Proofs.Ytomikblbfappnaa.Q

-- Printed by this session's wip/np.py over the kit's print program. Not trusted: Lean checks it.
namespace Go.Proofs.Ytomikblbfappnaa.Q
open Go.RowKit Go.Proofs.YtomikblbfappnaaW.PrintWords Go.Proofs.YtomikblbfappnaaW.PrintLast Go.Proofs.YtomikblbfappnaaW.Own Go.Proofs.YtomikblbfappnaaW.PrintMore
attribute [local go_sem] max2_int min2_int max_two min_two max_three min_three max_four min_four
set_option linter.unusedVariables false
set_option linter.unusedSimpArgs false

/-! ### newelref01_Escape: function 19 -/
def newelref01_Escape.l0 : Nat → ByteArray → List Int → Int → Option (ByteArray)
 | 0, _, _, _ => none
 | k + 1, x0, x3, x4 => if x4 < (x0.size : Int) then (if 0 ≤ x4 then (if (bt x0 x4) = 38 then (if x3.length + 5 < 140737488355328 then (newelref01_Escape.l0 k x0 (x3 ++ bytesOf (⟨#[38, 97, 109, 112, 59]⟩ : ByteArray)) (wrap64 (x4 + 1))) else (none)) else (if (bt x0 x4) = 60 then (if x3.length + 4 < 140737488355328 then (newelref01_Escape.l0 k x0 (x3 ++ bytesOf (⟨#[38, 108, 116, 59]⟩ : ByteArray)) (wrap64 (x4 + 1))) else (none)) else (if (bt x0 x4) = 62 then (if x3.length + 4 < 140737488355328 then (newelref01_Escape.l0 k x0 (x3 ++ bytesOf (⟨#[38, 103, 116, 59]⟩ : ByteArray)) (wrap64 (x4 + 1))) else (none)) else (if (bt x0 x4) = 34 then (if x3.length + 6 < 140737488355328 then (newelref01_Escape.l0 k x0 (x3 ++ bytesOf (⟨#[38, 113, 117, 111, 116, 59]⟩ : ByteArray)) (wrap64 (x4 + 1))) else (none)) else (if x3.length < 140737488355328 then (newelref01_Escape.l0 k x0 (x3 ++ [bt x0 x4]) (wrap64 (x4 + 1))) else (none)))))) else (none)) else (some (strOfNums x3))
def newelref01_Escape.f (k : Nat) (a0 : ByteArray) : Option (ByteArray) := newelref01_Escape.l0 k a0 ([] : List Int) 0
theorem newelref01_Escape.mono_l : ∀ k, (∀ y0 y1 y2, LeO (newelref01_Escape.l0 k y0 y1 y2) (newelref01_Escape.l0 (k + 1) y0 y1 y2))
 | 0 => fun _ _ _ r h => by simp [newelref01_Escape.l0] at h
 | k + 1 => by
  have ih0 := newelref01_Escape.mono_l k
  ·intro y0 y1 y2
   unfold newelref01_Escape.l0
   repeat' first
   | (with_reducible exact ih0 _ _ _)
   | (with_reducible exact LeO.refl _)
   | (with_reducible exact LeO.none _)
   | (with_reducible refine LeO.ite ?_ ?_)
   | (with_reducible refine LeO.bind ?_ (fun _ => ?_))
   | exact ih0 _ _ _
   | exact LeO.none _
   | refine LeO.ite ?_ ?_
   | refine LeO.bind ?_ (fun _ => ?_)
theorem newelref01_Escape.mono : ∀ a0 k, LeO (newelref01_Escape.f k a0) (newelref01_Escape.f (k + 1) a0) := by
 intro a0 k
 have ih0 := newelref01_Escape.mono_l k
 unfold newelref01_Escape.f
 repeat' first
  | (with_reducible exact ih0 _ _ _)
  | (with_reducible exact LeO.refl _)
  | (with_reducible exact LeO.none _)
  | (with_reducible refine LeO.ite ?_ ?_)
  | (with_reducible refine LeO.bind ?_ (fun _ => ?_))
  | exact ih0 _ _ _
  | exact LeO.none _
  | refine LeO.ite ?_ ?_
  | refine LeO.bind ?_ (fun _ => ?_)
set_option maxHeartbeats 8000000 in
set_option maxRecDepth 100000 in
theorem newelref01_Escape.calls (k : Nat) (a0 : ByteArray) (r : ByteArray) (w : World) (hG : Glob w) (h : newelref01_Escape.f k a0 = some r) :
 Calls Try.prog 19 #[.string a0] w fun e w' => e = .returned (.string r) ∧ Below w.heap.size w w' := by
 have HG := Aside0.mk hG
 clear hG
 have HB := Aside0.mk (Below.refl w.heap.size w)
 have H : (newelref01_Escape.l0 k a0 ([] : List Int) 0) = some r := h
 clear h
 have H' := Aside0.mk H
 clear H
 go_enter Try.func19, Try.ntmps19
 go_wp2
 go_loopg [3, 4] k (fun kq v3 v4 w' => ∃ (x3_1 : List Int) (x4_1 : Int), v4 = .int .i64 x4_1 ∧ Aside0 (newelref01_Escape.l0 kq a0 x3_1 x4_1 = some r) ∧ Aside0 (kq ≤ k) ∧ Aside0 (Kd.R (Kd.int .u8) 5 w' w.heap.size (fun _ => True) v3 x3_1) ∧ Aside0 (Below w.heap.size w w'))
 case atStart => exact ⟨(([] : List Int)), (0), (by first | rfl | (simp; done) | (simp [*]; done) | (simp; exact isEmpty_bne _)), H', ⟨Nat.le_refl _⟩, ⟨by first | exact Kd.R_nil _ _ _ _ _ | exact Kd.N_nil _ _ _ _ _ | exact Kd.V_nil _ _ _ _ _ | exact Kd.Q_nil _ _ _ _ _ | exact Kd.S_nil _ _ _ _ _⟩, ⟨by repeat (first | (with_reducible first | exact HB.out | apply below_alloc | apply pw_below_drewN | apply below_drew1) | exact HB.out)⟩⟩
 case round =>
  clear H'
  try clear c1
  obtain ⟨x3_1, x4_1, rfl, HA, HK1, HO_3, HB⟩ := hrel
  cases gk with
  | zero => exact absurd HA.out (by simp [newelref01_Escape.l0])
  | succ k1 =>
   have H := HA.out
   clear HA
   simp only [newelref01_Escape.l0] at H
   (try simp only [toList_lit] at H)
   by_cases c2 : x4_1 < (a0.size : Int)
   ·rw [if_pos c2] at H
    have c2b0 : decide (x4_1 < (a0.size : Int)) = true := decide_eq_true c2
    clear c2
    by_cases c3 : 0 ≤ x4_1
    ·rw [if_pos c3] at H
     have c3b0 : decide (0 ≤ x4_1) = true := decide_eq_true c3
     clear c3
     by_cases c5 : (bt a0 x4_1) = 38
     ·rw [if_pos c5] at H
      have c5b0 : ((bt a0 x4_1) == 38) = true := beq_iff_eq.mpr c5
      have c5b1 : ((bt a0 x4_1) != 38) = false := bne_eq_false_iff_eq.mpr c5
      clear c5
      by_cases c6 : x3_1.length + 5 < 140737488355328
      ·rw [if_pos c6] at H
       have LMc6 := Aside0.mk c6
       clear c6
       obtain ⟨y224, hy224⟩ : ∃ y_ : List Int, y_ = (x3_1 ++ bytesOf (⟨#[38, 97, 109, 112, 59]⟩ : ByteArray)) := ⟨_, rfl⟩
       replace H : (newelref01_Escape.l0 k1 a0 y224 (wrap64 (x4_1 + 1))) = some r := by first | (rw [hy224]; with_reducible exact H) | (have H2_ := (Option.bind_some _ _).symm.trans H; rw [hy224]; with_reducible exact H2_) | (have H2_ := (Option.bind_some _ _).symm.trans H; with_reducible exact H2_) | with_reducible exact H | (rw [hy224]; exact H) | exact H
       have Ny224 := Aside0.mk hy224
       clear hy224
       have H' := Aside0.mk H
       clear H
       have p4 : 0 ≤ (x4_1 : Int) := of_decide_eq_true (by first | (with_reducible assumption) | assumption)
       have q4 : x4_1 < (a0.size : Int) := of_decide_eq_true (by first | (with_reducible assumption) | assumption)
       have hx4 := bt_at a0 x4_1
       replace p4 := eq_true p4
       replace q4 := eq_true q4
       go_wp2_with (first | (at_builtin; refine print_append_str (w0 := w) w.heap.size rfl (.tmp 22) _ 35 9 5 rfl Try.underlying35 Try.underlying9 info5 u3 x3_1 (⟨#[38, 97, 109, 112, 59]⟩ : ByteArray) rfl rfl ?aO ?aB ?aS ?aL ?_; (case aB => exact (by repeat (first | (with_reducible first | exact HB.out | apply below_alloc | apply pw_below_drewN | apply below_drew1) | exact HB.out))); (case aO => exact (Kd.own_of_R (by (with_reducible repeat (first | apply Kd.R_alloc | apply Kd.R_drewN | apply Kd.R_drew)); exact HO_3.out))); (case aS => exact (below_size (by repeat (first | (with_reducible first | exact HB.out | apply below_alloc | apply pw_below_drewN | apply below_drew1) | exact HB.out)))); (case aL => have := LMc6.out; simp only [show (⟨#[38, 97, 109, 112, 59]⟩ : ByteArray).size = 5 from rfl]; omega); intro v225 w7 ho0 hb hg; have ho := Kd.R_of_own (h1 := fun _ => rfl) (ok := fun _ => True) ho0 (fun _ _ => trivial); clear ho0; have hat := True.intro; rw [← Ny224.out] at ho; change Kd.R (Kd.int .u8) 5 w7 w.heap.size (fun _ => True) v225 y224 at ho; have n0_ := Aside0.mk (hb); have n1_ := Aside0.mk (ho); clear HB; clear HO_3; have HB := n0_; have HO226 := n1_; clear n0_ n1_; clear ho hb hg hat))
       go_roundg k1
       case measure => have := HK1.out; omega
       case rel => exact ⟨(y224), (wrap64 (x4_1 + 1)), (by first | rfl | (simp; done) | (simp [*]; done) | (simp; exact isEmpty_bne _)), H', ⟨by have := HK1.out; omega⟩, ⟨by (with_reducible repeat (first | apply Kd.R_alloc | apply Kd.R_drewN | apply Kd.R_drew)); exact HO226.out⟩, ⟨by repeat (first | (with_reducible first | exact HB.out | apply below_alloc | apply pw_below_drewN | apply below_drew1) | exact HB.out)⟩⟩
      ·rw [if_neg c6] at H
       exact absurd H (by simp)
     ·rw [if_neg c5] at H
      have c5b0 : ((bt a0 x4_1) == 38) = false := beq_eq_false_iff_ne.mpr c5
      have c5b1 : ((bt a0 x4_1) != 38) = true := bne_iff_ne.mpr c5
      by_cases c8 : (bt a0 x4_1) = 60
      ·rw [if_pos c8] at H
       have c8b0 : ((bt a0 x4_1) == 60) = true := beq_iff_eq.mpr c8
       have c8b1 : ((bt a0 x4_1) != 60) = false := bne_eq_false_iff_eq.mpr c8
       clear c8
       by_cases c9 : x3_1.length + 4 < 140737488355328
       ·rw [if_pos c9] at H
        have LMc9 := Aside0.mk c9
        clear c9
        obtain ⟨y227, hy227⟩ : ∃ y_ : List Int, y_ = (x3_1 ++ bytesOf (⟨#[38, 108, 116, 59]⟩ : ByteArray)) := ⟨_, rfl⟩
        replace H : (newelref01_Escape.l0 k1 a0 y227 (wrap64 (x4_1 + 1))) = some r := by first | (rw [hy227]; with_reducible exact H) | (have H2_ := (Option.bind_some _ _).symm.trans H; rw [hy227]; with_reducible exact H2_) | (have H2_ := (Option.bind_some _ _).symm.trans H; with_reducible exact H2_) | with_reducible exact H | (rw [hy227]; exact H) | exact H
        have Ny227 := Aside0.mk hy227
        clear hy227
        have H' := Aside0.mk H
        clear H
        have p4 : 0 ≤ (x4_1 : Int) := of_decide_eq_true (by first | (with_reducible assumption) | assumption)
        have q4 : x4_1 < (a0.size : Int) := of_decide_eq_true (by first | (with_reducible assumption) | assumption)
        have hx4 := bt_at a0 x4_1
        replace p4 := eq_true p4
        replace q4 := eq_true q4
        go_wp2_with (first | (at_builtin; refine print_append_str (w0 := w) w.heap.size rfl (.tmp 26) _ 35 9 5 rfl Try.underlying35 Try.underlying9 info5 u3 x3_1 (⟨#[38, 108, 116, 59]⟩ : ByteArray) rfl rfl ?aO ?aB ?aS ?aL ?_; (case aB => exact (by repeat (first | (with_reducible first | exact HB.out | apply below_alloc | apply pw_below_drewN | apply below_drew1) | exact HB.out))); (case aO => exact (Kd.own_of_R (by (with_reducible repeat (first | apply Kd.R_alloc | apply Kd.R_drewN | apply Kd.R_drew)); exact HO_3.out))); (case aS => exact (below_size (by repeat (first | (with_reducible first | exact HB.out | apply below_alloc | apply pw_below_drewN | apply below_drew1) | exact HB.out)))); (case aL => have := LMc9.out; simp only [show (⟨#[38, 108, 116, 59]⟩ : ByteArray).size = 4 from rfl]; omega); intro v228 w10 ho0 hb hg; have ho := Kd.R_of_own (h1 := fun _ => rfl) (ok := fun _ => True) ho0 (fun _ _ => trivial); clear ho0; have hat := True.intro; rw [← Ny227.out] at ho; change Kd.R (Kd.int .u8) 5 w10 w.heap.size (fun _ => True) v228 y227 at ho; have n0_ := Aside0.mk (hb); have n1_ := Aside0.mk (ho); clear HB; clear HO_3; have HB := n0_; have HO229 := n1_; clear n0_ n1_; clear ho hb hg hat))
        go_roundg k1
        case measure => have := HK1.out; omega
        case rel => exact ⟨(y227), (wrap64 (x4_1 + 1)), (by first | rfl | (simp; done) | (simp [*]; done) | (simp; exact isEmpty_bne _)), H', ⟨by have := HK1.out; omega⟩, ⟨by (with_reducible repeat (first | apply Kd.R_alloc | apply Kd.R_drewN | apply Kd.R_drew)); exact HO229.out⟩, ⟨by repeat (first | (with_reducible first | exact HB.out | apply below_alloc | apply pw_below_drewN | apply below_drew1) | exact HB.out)⟩⟩
       ·rw [if_neg c9] at H
        exact absurd H (by simp)
      ·rw [if_neg c8] at H
       have c8b0 : ((bt a0 x4_1) == 60) = false := beq_eq_false_iff_ne.mpr c8
       have c8b1 : ((bt a0 x4_1) != 60) = true := bne_iff_ne.mpr c8
       by_cases c11 : (bt a0 x4_1) = 62
       ·rw [if_pos c11] at H
        have c11b0 : ((bt a0 x4_1) == 62) = true := beq_iff_eq.mpr c11
        have c11b1 : ((bt a0 x4_1) != 62) = false := bne_eq_false_iff_eq.mpr c11
        clear c11
        by_cases c12 : x3_1.length + 4 < 140737488355328
        ·rw [if_pos c12] at H
         have LMc12 := Aside0.mk c12
         clear c12
         obtain ⟨y230, hy230⟩ : ∃ y_ : List Int, y_ = (x3_1 ++ bytesOf (⟨#[38, 103, 116, 59]⟩ : ByteArray)) := ⟨_, rfl⟩
         replace H : (newelref01_Escape.l0 k1 a0 y230 (wrap64 (x4_1 + 1))) = some r := by first | (rw [hy230]; with_reducible exact H) | (have H2_ := (Option.bind_some _ _).symm.trans H; rw [hy230]; with_reducible exact H2_) | (have H2_ := (Option.bind_some _ _).symm.trans H; with_reducible exact H2_) | with_reducible exact H | (rw [hy230]; exact H) | exact H
         have Ny230 := Aside0.mk hy230
         clear hy230
         have H' := Aside0.mk H
         clear H
         have p4 : 0 ≤ (x4_1 : Int) := of_decide_eq_true (by first | (with_reducible assumption) | assumption)
         have q4 : x4_1 < (a0.size : Int) := of_decide_eq_true (by first | (with_reducible assumption) | assumption)
         have hx4 := bt_at a0 x4_1
         replace p4 := eq_true p4
         replace q4 := eq_true q4
         go_wp2_with (first | (at_builtin; refine print_append_str (w0 := w) w.heap.size rfl (.tmp 30) _ 35 9 5 rfl Try.underlying35 Try.underlying9 info5 u3 x3_1 (⟨#[38, 103, 116, 59]⟩ : ByteArray) rfl rfl ?aO ?aB ?aS ?aL ?_; (case aB => exact (by repeat (first | (with_reducible first | exact HB.out | apply below_alloc | apply pw_below_drewN | apply below_drew1) | exact HB.out))); (case aO => exact (Kd.own_of_R (by (with_reducible repeat (first | apply Kd.R_alloc | apply Kd.R_drewN | apply Kd.R_drew)); exact HO_3.out))); (case aS => exact (below_size (by repeat (first | (with_reducible first | exact HB.out | apply below_alloc | apply pw_below_drewN | apply below_drew1) | exact HB.out)))); (case aL => have := LMc12.out; simp only [show (⟨#[38, 103, 116, 59]⟩ : ByteArray).size = 4 from rfl]; omega); intro v231 w13 ho0 hb hg; have ho := Kd.R_of_own (h1 := fun _ => rfl) (ok := fun _ => True) ho0 (fun _ _ => trivial); clear ho0; have hat := True.intro; rw [← Ny230.out] at ho; change Kd.R (Kd.int .u8) 5 w13 w.heap.size (fun _ => True) v231 y230 at ho; have n0_ := Aside0.mk (hb); have n1_ := Aside0.mk (ho); clear HB; clear HO_3; have HB := n0_; have HO232 := n1_; clear n0_ n1_; clear ho hb hg hat))
         go_roundg k1
         case measure => have := HK1.out; omega
         case rel => exact ⟨(y230), (wrap64 (x4_1 + 1)), (by first | rfl | (simp; done) | (simp [*]; done) | (simp; exact isEmpty_bne _)), H', ⟨by have := HK1.out; omega⟩, ⟨by (with_reducible repeat (first | apply Kd.R_alloc | apply Kd.R_drewN | apply Kd.R_drew)); exact HO232.out⟩, ⟨by repeat (first | (with_reducible first | exact HB.out | apply below_alloc | apply pw_below_drewN | apply below_drew1) | exact HB.out)⟩⟩
        ·rw [if_neg c12] at H
         exact absurd H (by simp)
       ·rw [if_neg c11] at H
        have c11b0 : ((bt a0 x4_1) == 62) = false := beq_eq_false_iff_ne.mpr c11
        have c11b1 : ((bt a0 x4_1) != 62) = true := bne_iff_ne.mpr c11
        by_cases c14 : (bt a0 x4_1) = 34
        ·rw [if_pos c14] at H
         have c14b0 : ((bt a0 x4_1) == 34) = true := beq_iff_eq.mpr c14
         have c14b1 : ((bt a0 x4_1) != 34) = false := bne_eq_false_iff_eq.mpr c14
         clear c14
         by_cases c15 : x3_1.length + 6 < 140737488355328
         ·rw [if_pos c15] at H
          have LMc15 := Aside0.mk c15
          clear c15
          obtain ⟨y233, hy233⟩ : ∃ y_ : List Int, y_ = (x3_1 ++ bytesOf (⟨#[38, 113, 117, 111, 116, 59]⟩ : ByteArray)) := ⟨_, rfl⟩
          replace H : (newelref01_Escape.l0 k1 a0 y233 (wrap64 (x4_1 + 1))) = some r := by first | (rw [hy233]; with_reducible exact H) | (have H2_ := (Option.bind_some _ _).symm.trans H; rw [hy233]; with_reducible exact H2_) | (have H2_ := (Option.bind_some _ _).symm.trans H; with_reducible exact H2_) | with_reducible exact H | (rw [hy233]; exact H) | exact H
          have Ny233 := Aside0.mk hy233
          clear hy233
          have H' := Aside0.mk H
          clear H
          have p4 : 0 ≤ (x4_1 : Int) := of_decide_eq_true (by first | (with_reducible assumption) | assumption)
          have q4 : x4_1 < (a0.size : Int) := of_decide_eq_true (by first | (with_reducible assumption) | assumption)
          have hx4 := bt_at a0 x4_1
          replace p4 := eq_true p4
          replace q4 := eq_true q4
          go_wp2_with (first | (at_builtin; refine print_append_str (w0 := w) w.heap.size rfl (.tmp 34) _ 35 9 5 rfl Try.underlying35 Try.underlying9 info5 u3 x3_1 (⟨#[38, 113, 117, 111, 116, 59]⟩ : ByteArray) rfl rfl ?aO ?aB ?aS ?aL ?_; (case aB => exact (by repeat (first | (with_reducible first | exact HB.out | apply below_alloc | apply pw_below_drewN | apply below_drew1) | exact HB.out))); (case aO => exact (Kd.own_of_R (by (with_reducible repeat (first | apply Kd.R_alloc | apply Kd.R_drewN | apply Kd.R_drew)); exact HO_3.out))); (case aS => exact (below_size (by repeat (first | (with_reducible first | exact HB.out | apply below_alloc | apply pw_below_drewN | apply below_drew1) | exact HB.out)))); (case aL => have := LMc15.out; simp only [show (⟨#[38, 113, 117, 111, 116, 59]⟩ : ByteArray).size = 6 from rfl]; omega); intro v234 w16 ho0 hb hg; have ho := Kd.R_of_own (h1 := fun _ => rfl) (ok := fun _ => True) ho0 (fun _ _ => trivial); clear ho0; have hat := True.intro; rw [← Ny233.out] at ho; change Kd.R (Kd.int .u8) 5 w16 w.heap.size (fun _ => True) v234 y233 at ho; have n0_ := Aside0.mk (hb); have n1_ := Aside0.mk (ho); clear HB; clear HO_3; have HB := n0_; have HO235 := n1_; clear n0_ n1_; clear ho hb hg hat))
          go_roundg k1
          case measure => have := HK1.out; omega
          case rel => exact ⟨(y233), (wrap64 (x4_1 + 1)), (by first | rfl | (simp; done) | (simp [*]; done) | (simp; exact isEmpty_bne _)), H', ⟨by have := HK1.out; omega⟩, ⟨by (with_reducible repeat (first | apply Kd.R_alloc | apply Kd.R_drewN | apply Kd.R_drew)); exact HO235.out⟩, ⟨by repeat (first | (with_reducible first | exact HB.out | apply below_alloc | apply pw_below_drewN | apply below_drew1) | exact HB.out)⟩⟩
         ·rw [if_neg c15] at H
          exact absurd H (by simp)
        ·rw [if_neg c14] at H
         have c14b0 : ((bt a0 x4_1) == 34) = false := beq_eq_false_iff_ne.mpr c14
         have c14b1 : ((bt a0 x4_1) != 34) = true := bne_iff_ne.mpr c14
         by_cases c18 : x3_1.length < 140737488355328
         ·rw [if_pos c18] at H
          have LMc18 := Aside0.mk c18
          clear c18
          obtain ⟨y236, hy236⟩ : ∃ y_ : List Int, y_ = (x3_1 ++ [bt a0 x4_1]) := ⟨_, rfl⟩
          replace H : (newelref01_Escape.l0 k1 a0 y236 (wrap64 (x4_1 + 1))) = some r := by first | (rw [hy236]; with_reducible exact H) | (have H2_ := (Option.bind_some _ _).symm.trans H; rw [hy236]; with_reducible exact H2_) | (have H2_ := (Option.bind_some _ _).symm.trans H; with_reducible exact H2_) | with_reducible exact H | (rw [hy236]; exact H) | exact H
          have Ny236 := Aside0.mk hy236
          clear hy236
          have H' := Aside0.mk H
          clear H
          have p4 : 0 ≤ (x4_1 : Int) := of_decide_eq_true (by first | (with_reducible assumption) | assumption)
          have q4 : x4_1 < (a0.size : Int) := of_decide_eq_true (by first | (with_reducible assumption) | assumption)
          have hx4 := bt_at a0 x4_1
          replace p4 := eq_true p4
          replace q4 := eq_true q4
          have p17 : 0 ≤ (x4_1 : Int) := of_decide_eq_true (by first | (with_reducible assumption) | assumption)
          have q17 : x4_1 < (a0.size : Int) := of_decide_eq_true (by first | (with_reducible assumption) | assumption)
          have hx17 := bt_at a0 x4_1
          replace p17 := eq_true p17
          replace q17 := eq_true q17
          go_wp2_with (first | ((with_reducible refine gate_builtin (b := .append) (xs := #[.tmp 14, .tmp 18]) rfl ?_); at_builtin; refine Kd.R_append (Kd.int .u8) (w0 := w) w.heap.size rfl (.tmp 14) (.tmp 18) 35 5 (.int .u8 0) 1 rfl Try.underlying35 info5 rfl (by decide) (by omega) u3 x3_1 (bt a0 x4_1) [.int .u8 (bt a0 x4_1)] (fun _ => True) (fun _ => False) rfl rfl ?aP (fun _ hk => hk.elim) ?aF ?aO ?aB ?aS ?aL ?_; (case aP => exact rfl); (case aB => exact (by repeat (first | (with_reducible first | exact HB.out | apply below_alloc | apply pw_below_drewN | apply below_drew1) | exact HB.out))); (case aF => exact (fun _ _ => trivial)); (case aO => exact (by (with_reducible repeat (first | apply Kd.R_alloc | apply Kd.R_drewN | apply Kd.R_drew)); exact HO_3.out)); (case aS => exact (below_size (by repeat (first | (with_reducible first | exact HB.out | apply below_alloc | apply pw_below_drewN | apply below_drew1) | exact HB.out)))); (case aL => have := LMc18.out; omega); intro v237 w19 ho hb hg hat; rw [← Ny236.out] at ho; have n0_ := Aside0.mk (hb); have n1_ := Aside0.mk (ho); clear HB; clear HO_3; have HB := n0_; have HO238 := n1_; clear n0_ n1_; clear ho hb hg hat))
          go_roundg k1
          case measure => have := HK1.out; omega
          case rel => exact ⟨(y236), (wrap64 (x4_1 + 1)), (by first | rfl | (simp; done) | (simp [*]; done) | (simp; exact isEmpty_bne _)), H', ⟨by have := HK1.out; omega⟩, ⟨by (with_reducible repeat (first | apply Kd.R_alloc | apply Kd.R_drewN | apply Kd.R_drew)); exact HO238.out⟩, ⟨by repeat (first | (with_reducible first | exact HB.out | apply below_alloc | apply pw_below_drewN | apply below_drew1) | exact HB.out)⟩⟩
         ·rw [if_neg c18] at H
          exact absurd H (by simp)
    ·rw [if_neg c3] at H
     exact absurd H (by simp)
   ·rw [if_neg c2] at H
    have c2b0 : decide (x4_1 < (a0.size : Int)) = false := decide_eq_false c2
    clear c2
    obtain rfl := Option.some.inj H
    have hcv20 := own_string (P := Try.prog) Try.underlying35 Try.underlying5 Try.underlying9 (Kd.own_of_R HO_3.out)
    go_wp2
    go_ret
    exact ⟨by first | rfl | (simp [errW_none, errW_some] <;> rfl) | (simp [*, errW_none, errW_some] <;> rfl), by repeat (first | (with_reducible first | exact HB.out | apply below_alloc | apply pw_below_drewN | apply below_drew1) | exact HB.out)⟩

end Go.Proofs.Ytomikblbfappnaa.Q

-- Printed by this session's wip/np.py over the kit's print program. Not trusted: Lean checks it.
namespace Go.Proofs.Ytomikblbfappnaa.Q
open Go.RowKit Go.Proofs.YtomikblbfappnaaW.PrintWords Go.Proofs.YtomikblbfappnaaW.PrintLast Go.Proofs.YtomikblbfappnaaW.Own Go.Proofs.YtomikblbfappnaaW.PrintMore
attribute [local go_sem] max2_int min2_int max_two min_two max_three min_three max_four min_four
set_option linter.unusedVariables false
set_option linter.unusedSimpArgs false

/-! ### newellaw02_TokenTexts: function 4 -/
mutual
def newellaw02_TokenTexts.l0 : Nat → ByteArray → List Int → Int → Option (Bool)
 | 0, _, _, _ => none
 | k + 1, x0, x3, x4 => if x4 < (x0.size : Int) then (newellaw02_TokenTexts.j1 k x0 x3 x4 (decide (x4 < 300))) else (newellaw02_TokenTexts.j1 k x0 x3 x4 false)
def newellaw02_TokenTexts.j1 : Nat → ByteArray → List Int → Int → Bool → Option (Bool)
 | 0, _, _, _, _ => none
 | k + 1, x0, x3, x4, x17 => if x17 = true then (if 0 ≤ x4 then (if x4 < (x0.size : Int) then ((newelref01_Allowed.f (bt x0 x4)).bind fun t239 => (if t239 = true then (if x3.length < 140737488355328 then (newellaw02_TokenTexts.l0 k x0 (x3 ++ [bt x0 x4]) (wrap64 (x4 + 1))) else (none)) else (newellaw02_TokenTexts.l0 k x0 x3 (wrap64 (x4 + 1))))) else (none)) else (none)) else ((newelref01_Escape.f k (strOfNums x3)).bind fun t243 => (if 6 + t243.size ≤ 9223372036854775807 then (if ((⟨#[60, 97, 32, 98, 61, 34]⟩ : ByteArray) ++ t243).size + 2 ≤ 9223372036854775807 then ((newelref01_Escape.f k (strOfNums x3)).bind fun t244 => (if (((⟨#[60, 97, 32, 98, 61, 34]⟩ : ByteArray) ++ t243) ++ (⟨#[34, 62]⟩ : ByteArray)).size + t244.size ≤ 9223372036854775807 then (if ((((⟨#[60, 97, 32, 98, 61, 34]⟩ : ByteArray) ++ t243) ++ (⟨#[34, 62]⟩ : ByteArray)) ++ t244).size + 4 ≤ 9223372036854775807 then ((token_Split.f (((((⟨#[60, 97, 32, 98, 61, 34]⟩ : ByteArray) ++ t243) ++ (⟨#[34, 62]⟩ : ByteArray)) ++ t244) ++ (⟨#[60, 47, 97, 62]⟩ : ByteArray))).bind fun bt245 => ((newellaw02_awake.f).bind fun t249 => (if t249 = true then (if bt245.2 = 0 then (if (bt245.1.length : Int) < 2 then (newellaw02_TokenTexts.j2 k (strOfNums x3) bt245.1 true) else (if 0 < (bt245.1.length : Int) then (if (((rd_T32 bt245.1 0).f3).length : Int) = 1 then (if 0 < (((rd_T32 bt245.1 0).f3).length : Int) then (newellaw02_TokenTexts.j2 k (strOfNums x3) bt245.1 (((rd_T39 ((rd_T32 bt245.1 0).f3) 0).f1).toList != (strOfNums x3).toList)) else (none)) else (newellaw02_TokenTexts.j2 k (strOfNums x3) bt245.1 true)) else (none))) else (newellaw02_TokenTexts.j2 k (strOfNums x3) bt245.1 true)) else (newellaw02_TokenTexts.j2 k (strOfNums x3) bt245.1 true)))) else (none)) else (none))) else (none)) else (none)))
def newellaw02_TokenTexts.j2 : Nat → ByteArray → List (S32) → Bool → Option (Bool)
 | 0, _, _, _ => none
 | k + 1, x0, x5, x73 => if x73 = true then (some false) else (if x0.toList = ([] : List UInt8) then (newellaw02_TokenTexts.j3 k x0 false) else (if (x5.length : Int) = 3 then (if 1 < (x5.length : Int) then (newellaw02_TokenTexts.j3 k x0 (((rd_T32 x5 1).f2).toList != x0.toList)) else (none)) else (newellaw02_TokenTexts.j3 k x0 true)))
def newellaw02_TokenTexts.j3 : Nat → ByteArray → Bool → Option (Bool)
 | 0, _, _ => none
 | k + 1, x0, x88 => if x88 = true then (some false) else (newellaw02_TokenTexts.l1 k x0 0)
def newellaw02_TokenTexts.l1 : Nat → ByteArray → Int → Option (Bool)
 | 0, _, _ => none
 | k + 1, x0, x7 => if (wrap64 (x7 + 2)) < (x0.size : Int) then (if 0 ≤ x7 then (if x7 ≤ (wrap64 (x7 + 3)) then (if (wrap64 (x7 + 3)) ≤ (x0.size : Int) then (if (x0.extract (x7 : Int).toNat ((wrap64 (x7 + 3)) : Int).toNat).toList = ([93, 93, 62] : List UInt8) then (some true) else (newellaw02_TokenTexts.l1 k x0 (wrap64 (x7 + 1)))) else (none)) else (none)) else (none)) else (if 9 + x0.size ≤ 9223372036854775807 then (if ((⟨#[60, 33, 91, 67, 68, 65, 84, 65, 91]⟩ : ByteArray) ++ x0).size + 3 ≤ 9223372036854775807 then ((token_Split.f (((⟨#[60, 33, 91, 67, 68, 65, 84, 65, 91]⟩ : ByteArray) ++ x0) ++ (⟨#[93, 93, 62]⟩ : ByteArray))).bind fun bt254 => (if bt254.2 = 0 then (if (bt254.1.length : Int) = 1 then (if 0 < (bt254.1.length : Int) then (if ((rd_T32 bt254.1 0).f2).toList = x0.toList then (some (((rd_T32 bt254.1 0).f0) == 3)) else (some false)) else (none)) else (some false)) else (some false))) else (none)) else (none))
end
def newellaw02_TokenTexts.f (k : Nat) (a0 : ByteArray) : Option (Bool) := newellaw02_TokenTexts.l0 k a0 ([] : List Int) 0
theorem newellaw02_TokenTexts.mono_l : ∀ k, (∀ y0 y1 y2, LeO (newellaw02_TokenTexts.l0 k y0 y1 y2) (newellaw02_TokenTexts.l0 (k + 1) y0 y1 y2)) ∧ (∀ y0 y1 y2 y3, LeO (newellaw02_TokenTexts.j1 k y0 y1 y2 y3) (newellaw02_TokenTexts.j1 (k + 1) y0 y1 y2 y3)) ∧ (∀ y0 y1 y2, LeO (newellaw02_TokenTexts.j2 k y0 y1 y2) (newellaw02_TokenTexts.j2 (k + 1) y0 y1 y2)) ∧ (∀ y0 y1, LeO (newellaw02_TokenTexts.j3 k y0 y1) (newellaw02_TokenTexts.j3 (k + 1) y0 y1)) ∧ (∀ y0 y1, LeO (newellaw02_TokenTexts.l1 k y0 y1) (newellaw02_TokenTexts.l1 (k + 1) y0 y1))
 | 0 => ⟨fun _ _ _ r h => by simp [newellaw02_TokenTexts.l0] at h, fun _ _ _ _ r h => by simp [newellaw02_TokenTexts.j1] at h, fun _ _ _ r h => by simp [newellaw02_TokenTexts.j2] at h, fun _ _ r h => by simp [newellaw02_TokenTexts.j3] at h, fun _ _ r h => by simp [newellaw02_TokenTexts.l1] at h⟩
 | k + 1 => by
  obtain ⟨ih0, ih1, ih2, ih3, ih4⟩ := newellaw02_TokenTexts.mono_l k
  refine ⟨?_, ?_, ?_, ?_, ?_⟩
  ·intro y0 y1 y2
   unfold newellaw02_TokenTexts.l0
   repeat' first
   | (with_reducible exact ih0 _ _ _)
   | (with_reducible exact ih1 _ _ _ _)
   | (with_reducible exact ih2 _ _ _)
   | (with_reducible exact ih3 _ _)
   | (with_reducible exact ih4 _ _)
   | (with_reducible exact newelref01_Escape.mono _ _)
   | (with_reducible exact LeO.refl _)
   | (with_reducible exact LeO.none _)
   | (with_reducible refine LeO.ite ?_ ?_)
   | (with_reducible refine LeO.bind ?_ (fun _ => ?_))
   | exact ih0 _ _ _
   | exact ih1 _ _ _ _
   | exact ih2 _ _ _
   | exact ih3 _ _
   | exact ih4 _ _
   | exact newelref01_Escape.mono _ _
   | exact LeO.none _
   | refine LeO.ite ?_ ?_
   | refine LeO.bind ?_ (fun _ => ?_)
  ·intro y0 y1 y2 y3
   unfold newellaw02_TokenTexts.j1
   repeat' first
   | (with_reducible exact ih0 _ _ _)
   | (with_reducible exact ih1 _ _ _ _)
   | (with_reducible exact ih2 _ _ _)
   | (with_reducible exact ih3 _ _)
   | (with_reducible exact ih4 _ _)
   | (with_reducible exact newelref01_Escape.mono _ _)
   | (with_reducible exact LeO.refl _)
   | (with_reducible exact LeO.none _)
   | (with_reducible refine LeO.ite ?_ ?_)
   | (with_reducible refine LeO.bind ?_ (fun _ => ?_))
   | exact ih0 _ _ _
   | exact ih1 _ _ _ _
   | exact ih2 _ _ _
   | exact ih3 _ _
   | exact ih4 _ _
   | exact newelref01_Escape.mono _ _
   | exact LeO.none _
   | refine LeO.ite ?_ ?_
   | refine LeO.bind ?_ (fun _ => ?_)
  ·intro y0 y1 y2
   unfold newellaw02_TokenTexts.j2
   repeat' first
   | (with_reducible exact ih0 _ _ _)
   | (with_reducible exact ih1 _ _ _ _)
   | (with_reducible exact ih2 _ _ _)
   | (with_reducible exact ih3 _ _)
   | (with_reducible exact ih4 _ _)
   | (with_reducible exact newelref01_Escape.mono _ _)
   | (with_reducible exact LeO.refl _)
   | (with_reducible exact LeO.none _)
   | (with_reducible refine LeO.ite ?_ ?_)
   | (with_reducible refine LeO.bind ?_ (fun _ => ?_))
   | exact ih0 _ _ _
   | exact ih1 _ _ _ _
   | exact ih2 _ _ _
   | exact ih3 _ _
   | exact ih4 _ _
   | exact newelref01_Escape.mono _ _
   | exact LeO.none _
   | refine LeO.ite ?_ ?_
   | refine LeO.bind ?_ (fun _ => ?_)
  ·intro y0 y1
   unfold newellaw02_TokenTexts.j3
   repeat' first
   | (with_reducible exact ih0 _ _ _)
   | (with_reducible exact ih1 _ _ _ _)
   | (with_reducible exact ih2 _ _ _)
   | (with_reducible exact ih3 _ _)
   | (with_reducible exact ih4 _ _)
   | (with_reducible exact newelref01_Escape.mono _ _)
   | (with_reducible exact LeO.refl _)
   | (with_reducible exact LeO.none _)
   | (with_reducible refine LeO.ite ?_ ?_)
   | (with_reducible refine LeO.bind ?_ (fun _ => ?_))
   | exact ih0 _ _ _
   | exact ih1 _ _ _ _
   | exact ih2 _ _ _
   | exact ih3 _ _
   | exact ih4 _ _
   | exact newelref01_Escape.mono _ _
   | exact LeO.none _
   | refine LeO.ite ?_ ?_
   | refine LeO.bind ?_ (fun _ => ?_)
  ·intro y0 y1
   unfold newellaw02_TokenTexts.l1
   repeat' first
   | (with_reducible exact ih0 _ _ _)
   | (with_reducible exact ih1 _ _ _ _)
   | (with_reducible exact ih2 _ _ _)
   | (with_reducible exact ih3 _ _)
   | (with_reducible exact ih4 _ _)
   | (with_reducible exact newelref01_Escape.mono _ _)
   | (with_reducible exact LeO.refl _)
   | (with_reducible exact LeO.none _)
   | (with_reducible refine LeO.ite ?_ ?_)
   | (with_reducible refine LeO.bind ?_ (fun _ => ?_))
   | exact ih0 _ _ _
   | exact ih1 _ _ _ _
   | exact ih2 _ _ _
   | exact ih3 _ _
   | exact ih4 _ _
   | exact newelref01_Escape.mono _ _
   | exact LeO.none _
   | refine LeO.ite ?_ ?_
   | refine LeO.bind ?_ (fun _ => ?_)
theorem newellaw02_TokenTexts.mono : ∀ a0 k, LeO (newellaw02_TokenTexts.f k a0) (newellaw02_TokenTexts.f (k + 1) a0) := by
 intro a0 k
 obtain ⟨ih0, ih1, ih2, ih3, ih4⟩ := newellaw02_TokenTexts.mono_l k
 unfold newellaw02_TokenTexts.f
 repeat' first
  | (with_reducible exact ih0 _ _ _)
  | (with_reducible exact ih1 _ _ _ _)
  | (with_reducible exact ih2 _ _ _)
  | (with_reducible exact ih3 _ _)
  | (with_reducible exact ih4 _ _)
  | (with_reducible exact newelref01_Escape.mono _ _)
  | (with_reducible exact LeO.refl _)
  | (with_reducible exact LeO.none _)
  | (with_reducible refine LeO.ite ?_ ?_)
  | (with_reducible refine LeO.bind ?_ (fun _ => ?_))
  | exact ih0 _ _ _
  | exact ih1 _ _ _ _
  | exact ih2 _ _ _
  | exact ih3 _ _
  | exact ih4 _ _
  | exact newelref01_Escape.mono _ _
  | exact LeO.none _
  | refine LeO.ite ?_ ?_
  | refine LeO.bind ?_ (fun _ => ?_)
set_option maxHeartbeats 8000000 in
set_option maxRecDepth 100000 in
theorem newellaw02_TokenTexts.calls (k : Nat) (a0 : ByteArray) (r : Bool) (w : World) (hG : Glob w) (h : newellaw02_TokenTexts.f k a0 = some r) (hr_ : r = true) :
 Calls Try.prog 4 #[.string a0] w fun e w' => e = .returned (.bool r) ∧ Below w.heap.size w w' := by
 have HG := Aside0.mk hG
 clear hG
 have HB := Aside0.mk (Below.refl w.heap.size w)
 have H : (newellaw02_TokenTexts.l0 k a0 ([] : List Int) 0) = some r := h
 clear h
 have H' := Aside0.mk H
 clear H
 go_enter Try.func4, Try.ntmps4
 go_wp2
 go_loopg [3, 4] k (fun kq v3 v4 w' => ∃ (x3_1 : List Int) (x4_1 : Int), v4 = .int .i64 x4_1 ∧ Aside0 (newellaw02_TokenTexts.l0 kq a0 x3_1 x4_1 = some r) ∧ Aside0 (kq ≤ k) ∧ Aside0 (Kd.R (Kd.int .u8) 5 w' w.heap.size (fun _ => True) v3 x3_1) ∧ Aside0 (Below w.heap.size w w'))
 case atStart => exact ⟨(([] : List Int)), (0), (by first | rfl | (simp; done) | (simp [*]; done) | (simp; exact isEmpty_bne _)), H', ⟨Nat.le_refl _⟩, ⟨by first | exact Kd.R_nil _ _ _ _ _ | exact Kd.N_nil _ _ _ _ _ | exact Kd.V_nil _ _ _ _ _ | exact Kd.Q_nil _ _ _ _ _ | exact Kd.S_nil _ _ _ _ _⟩, ⟨by repeat (first | (with_reducible first | exact HB.out | apply below_alloc | apply pw_below_drewN | apply below_drew1) | exact HB.out)⟩⟩
 case round =>
  clear H'
  obtain ⟨x3_1, x4_1, rfl, HA, HK1, HO_3, HB⟩ := hrel
  cases gk with
  | zero => exact absurd HA.out (by simp [newellaw02_TokenTexts.l0])
  | succ k1 =>
   have H := HA.out
   clear HA
   simp only [newellaw02_TokenTexts.l0] at H
   have HC2 := Aside0.mk H
   clear H
   go_upto_region 3 with (fail)
   go_cut [17] (fun v17 wc => ∃ (kq : Nat) (x17_1 : Bool), v17 = .bool x17_1 ∧ Aside0 (newellaw02_TokenTexts.j1 kq a0 x3_1 x4_1 x17_1 = some r) ∧ Aside0 (kq ≤ k1) ∧ Aside0 (Kd.R (Kd.int .u8) 5 wc w.heap.size (fun _ => True) u3 x3_1) ∧ Aside0 (Below w.heap.size w wc))
   case first =>
    have H := HC2.out
    clear HC2
    by_cases c3 : x4_1 < (a0.size : Int)
    ·rw [if_pos c3] at H
     have c3b0 : decide (x4_1 < (a0.size : Int)) = true := decide_eq_true c3
     clear c3
     (first | rw [c3b0] | (simp only [i64_w, i32_w]; rw [c3b0]) | skip)
     have H' := Aside0.mk H
     clear H
     go_wp2
     go_meet
     case rel => exact ⟨_, (decide (x4_1 < 300)), (by first | rfl | (simp; done) | (simp [*]; done) | (simp; exact isEmpty_bne _)), H', ⟨by have := HK1.out; first | omega | exact Nat.le_refl _⟩, ⟨by (with_reducible repeat (first | apply Kd.R_alloc | apply Kd.R_drewN | apply Kd.R_drew)); exact HO_3.out⟩, ⟨by repeat (first | (with_reducible first | exact HB.out | apply below_alloc | apply pw_below_drewN | apply below_drew1) | exact HB.out)⟩⟩
    ·rw [if_neg c3] at H
     have c3b0 : decide (x4_1 < (a0.size : Int)) = false := decide_eq_false c3
     clear c3
     (first | rw [c3b0] | (simp only [i64_w, i32_w]; rw [c3b0]) | skip)
     have H' := Aside0.mk H
     clear H
     go_wp2
     go_meet
     case rel => exact ⟨_, (false), (by first | rfl | (simp; done) | (simp [*]; done) | (simp; exact isEmpty_bne _)), H', ⟨by have := HK1.out; first | omega | exact Nat.le_refl _⟩, ⟨by (with_reducible repeat (first | apply Kd.R_alloc | apply Kd.R_drewN | apply Kd.R_drew)); exact HO_3.out⟩, ⟨by repeat (first | (with_reducible first | exact HB.out | apply below_alloc | apply pw_below_drewN | apply below_drew1) | exact HB.out)⟩⟩
   case rest =>
    clear HC2
    try clear p2
    try clear c3
    try clear c3b0
    obtain ⟨kq, x17_1, rfl, HA, HJ1, HO_3, HB⟩ := hcut
    cases kq with
    | zero => exact absurd HA.out (by simp [newellaw02_TokenTexts.j1])
    | succ kj1 =>
     have H := HA.out
     clear HA
     simp only [newellaw02_TokenTexts.j1] at H
     by_cases c4 : x17_1 = true
     ·subst c4
      have H1 : (if 0 ≤ x4_1 then (if x4_1 < (a0.size : Int) then ((newelref01_Allowed.f (bt a0 x4_1)).bind fun t239 => (if t239 = true then (if x3_1.length < 140737488355328 then (newellaw02_TokenTexts.l0 kj1 a0 (x3_1 ++ [bt a0 x4_1]) (wrap64 (x4_1 + 1))) else (none)) else (newellaw02_TokenTexts.l0 kj1 a0 x3_1 (wrap64 (x4_1 + 1))))) else (none)) else (none)) = some r := by rw [if_pos rfl] at H; exact H
      clear H
      have H := H1
      clear H1
      by_cases c5 : 0 ≤ x4_1
      ·rw [if_pos c5] at H
       have c5b0 : decide (0 ≤ x4_1) = true := decide_eq_true c5
       clear c5
       by_cases c6 : x4_1 < (a0.size : Int)
       ·rw [if_pos c6] at H
        have c6b0 : decide (x4_1 < (a0.size : Int)) = true := decide_eq_true c6
        clear c6
        replace H := Option.bind_eq_some_iff.mp H
        obtain ⟨t239, A80, H⟩ := H
        replace H : (if t239 = true then (if x3_1.length < 140737488355328 then (newellaw02_TokenTexts.l0 kj1 a0 (x3_1 ++ [bt a0 x4_1]) (wrap64 (x4_1 + 1))) else (none)) else (newellaw02_TokenTexts.l0 kj1 a0 x3_1 (wrap64 (x4_1 + 1)))) = some r := H
        have A8 := Aside0.mk A80
        clear A80
        by_cases c9 : t239 = true
        ·subst c9
         have H1 : (if x3_1.length < 140737488355328 then (newellaw02_TokenTexts.l0 kj1 a0 (x3_1 ++ [bt a0 x4_1]) (wrap64 (x4_1 + 1))) else (none)) = some r := by rw [if_pos rfl] at H; exact H
         clear H
         have H := H1
         clear H1
         by_cases c11 : x3_1.length < 140737488355328
         ·rw [if_pos c11] at H
          have LMc11 := Aside0.mk c11
          clear c11
          obtain ⟨y240, hy240⟩ : ∃ y_ : List Int, y_ = (x3_1 ++ [bt a0 x4_1]) := ⟨_, rfl⟩
          replace H : (newellaw02_TokenTexts.l0 kj1 a0 y240 (wrap64 (x4_1 + 1))) = some r := by first | (rw [hy240]; with_reducible exact H) | (have H2_ := (Option.bind_some _ _).symm.trans H; rw [hy240]; with_reducible exact H2_) | (have H2_ := (Option.bind_some _ _).symm.trans H; with_reducible exact H2_) | with_reducible exact H | (rw [hy240]; exact H) | exact H
          have Ny240 := Aside0.mk hy240
          clear hy240
          have H' := Aside0.mk H
          clear H
          have p7 : 0 ≤ (x4_1 : Int) := of_decide_eq_true (by first | (with_reducible assumption) | assumption)
          have q7 : x4_1 < (a0.size : Int) := of_decide_eq_true (by first | (with_reducible assumption) | assumption)
          have hx7 := bt_at a0 x4_1
          replace p7 := eq_true p7
          replace q7 := eq_true q7
          go_wp2_with (first | ((with_reducible refine gate_callee (f := 18) rfl ?_); refine goesL_ (some 23) rfl rfl Try.func18 (by kernel_rfl) rfl #[.int .u8 (bt a0 x4_1)] rfl (by (try simp only [List.map_toArray, List.map_cons, List.map_nil]); first | done | rfl | (simp only [List.length_drop, List.length_take]; rfl)) ?_; (with_reducible refine (newelref01_Allowed.calls (bt a0 x4_1) true _ ?side1 A8.out).mono ?_); (case side1 => exact Glob.step HG.out (by repeat (first | (with_reducible first | exact HB.out | apply below_alloc | apply pw_below_drewN | apply below_drew1) | exact HB.out))); rintro e w' ⟨rfl, ⟨nd, rfl⟩⟩; refine ⟨_, rfl, ?_⟩; have p10 : 0 ≤ (x4_1 : Int) := of_decide_eq_true (by first | (with_reducible assumption) | assumption); have q10 : x4_1 < (a0.size : Int) := of_decide_eq_true (by first | (with_reducible assumption) | assumption); have hx10 := bt_at a0 x4_1; replace p10 := eq_true p10; replace q10 := eq_true q10) | ((with_reducible refine gate_builtin (b := .append) (xs := #[.tmp 24, .tmp 28]) rfl ?_); (try (refine gate_guard (by rfl) ?_; dsimp only)); at_builtin; refine Kd.R_append (Kd.int .u8) (w0 := w) w.heap.size rfl (.tmp 24) (.tmp 28) 35 5 (.int .u8 0) 1 rfl Try.underlying35 info5 rfl (by decide) (by omega) u3 x3_1 (bt a0 x4_1) [.int .u8 (bt a0 x4_1)] (fun _ => True) (fun _ => False) rfl rfl ?aP (fun _ hk => hk.elim) ?aF ?aO ?aB ?aS ?aL ?_; (case aP => exact rfl); (case aB => exact (by repeat (first | (with_reducible first | exact HB.out | apply below_alloc | apply pw_below_drewN | apply below_drew1) | exact HB.out))); (case aF => exact (fun _ _ => trivial)); (case aO => exact (by (with_reducible repeat (first | apply Kd.R_alloc | apply Kd.R_drewN | apply Kd.R_drew)); exact HO_3.out)); (case aS => exact (below_size (by repeat (first | (with_reducible first | exact HB.out | apply below_alloc | apply pw_below_drewN | apply below_drew1) | exact HB.out)))); (case aL => have := LMc11.out; omega); intro v241 w12 ho hb hg hat; rw [← Ny240.out] at ho; have n0_ := Aside0.mk (hb); have n1_ := Aside0.mk (ho); clear HB; clear HO_3; have HB := n0_; have HO242 := n1_; clear n0_ n1_; clear ho hb hg hat))
          go_roundg kj1
          case measure => have := HK1.out; have := HJ1.out; omega
          case rel => exact ⟨(y240), (wrap64 (x4_1 + 1)), (by first | rfl | (simp; done) | (simp [*]; done) | (simp; exact isEmpty_bne _)), H', ⟨by have := HK1.out; have := HJ1.out; omega⟩, ⟨by (with_reducible repeat (first | apply Kd.R_alloc | apply Kd.R_drewN | apply Kd.R_drew)); exact HO242.out⟩, ⟨by repeat (first | (with_reducible first | exact HB.out | apply below_alloc | apply pw_below_drewN | apply below_drew1) | exact HB.out)⟩⟩
         ·rw [if_neg c11] at H
          exact absurd H (by simp)
        ·replace c9 := Bool.eq_false_iff.mpr c9
         subst c9
         have H1 : (newellaw02_TokenTexts.l0 kj1 a0 x3_1 (wrap64 (x4_1 + 1))) = some r := by rw [if_neg (show ¬ (false = true) by decide)] at H; exact H
         clear H
         have H := H1
         clear H1
         have H' := Aside0.mk H
         clear H
         have p7 : 0 ≤ (x4_1 : Int) := of_decide_eq_true (by first | (with_reducible assumption) | assumption)
         have q7 : x4_1 < (a0.size : Int) := of_decide_eq_true (by first | (with_reducible assumption) | assumption)
         have hx7 := bt_at a0 x4_1
         replace p7 := eq_true p7
         replace q7 := eq_true q7
         go_wp2_with (first | ((with_reducible refine gate_callee (f := 18) rfl ?_); refine goesL_ (some 23) rfl rfl Try.func18 (by kernel_rfl) rfl #[.int .u8 (bt a0 x4_1)] rfl (by (try simp only [List.map_toArray, List.map_cons, List.map_nil]); first | done | rfl | (simp only [List.length_drop, List.length_take]; rfl)) ?_; (with_reducible refine (newelref01_Allowed.calls (bt a0 x4_1) false _ ?side1 A8.out).mono ?_); (case side1 => exact Glob.step HG.out (by repeat (first | (with_reducible first | exact HB.out | apply below_alloc | apply pw_below_drewN | apply below_drew1) | exact HB.out))); rintro e w' ⟨rfl, ⟨nd, rfl⟩⟩; refine ⟨_, rfl, ?_⟩))
         go_roundg kj1
         case measure => have := HK1.out; have := HJ1.out; omega
         case rel => exact ⟨(x3_1), (wrap64 (x4_1 + 1)), (by first | rfl | (simp; done) | (simp [*]; done) | (simp; exact isEmpty_bne _)), H', ⟨by have := HK1.out; have := HJ1.out; omega⟩, ⟨by (with_reducible repeat (first | apply Kd.R_alloc | apply Kd.R_drewN | apply Kd.R_drew)); exact HO_3.out⟩, ⟨by repeat (first | (with_reducible first | exact HB.out | apply below_alloc | apply pw_below_drewN | apply below_drew1) | exact HB.out)⟩⟩
       ·rw [if_neg c6] at H
        exact absurd H (by simp)
      ·rw [if_neg c5] at H
       exact absurd H (by simp)
     ·replace c4 := Bool.eq_false_iff.mpr c4
      subst c4
      have H1 : ((newelref01_Escape.f kj1 (strOfNums x3_1)).bind fun t243 => (if 6 + t243.size ≤ 9223372036854775807 then (if ((⟨#[60, 97, 32, 98, 61, 34]⟩ : ByteArray) ++ t243).size + 2 ≤ 9223372036854775807 then ((newelref01_Escape.f kj1 (strOfNums x3_1)).bind fun t244 => (if (((⟨#[60, 97, 32, 98, 61, 34]⟩ : ByteArray) ++ t243) ++ (⟨#[34, 62]⟩ : ByteArray)).size + t244.size ≤ 9223372036854775807 then (if ((((⟨#[60, 97, 32, 98, 61, 34]⟩ : ByteArray) ++ t243) ++ (⟨#[34, 62]⟩ : ByteArray)) ++ t244).size + 4 ≤ 9223372036854775807 then ((token_Split.f (((((⟨#[60, 97, 32, 98, 61, 34]⟩ : ByteArray) ++ t243) ++ (⟨#[34, 62]⟩ : ByteArray)) ++ t244) ++ (⟨#[60, 47, 97, 62]⟩ : ByteArray))).bind fun bt245 => ((newellaw02_awake.f).bind fun t249 => (if t249 = true then (if bt245.2 = 0 then (if (bt245.1.length : Int) < 2 then (newellaw02_TokenTexts.j2 kj1 (strOfNums x3_1) bt245.1 true) else (if 0 < (bt245.1.length : Int) then (if (((rd_T32 bt245.1 0).f3).length : Int) = 1 then (if 0 < (((rd_T32 bt245.1 0).f3).length : Int) then (newellaw02_TokenTexts.j2 kj1 (strOfNums x3_1) bt245.1 (((rd_T39 ((rd_T32 bt245.1 0).f3) 0).f1).toList != (strOfNums x3_1).toList)) else (none)) else (newellaw02_TokenTexts.j2 kj1 (strOfNums x3_1) bt245.1 true)) else (none))) else (newellaw02_TokenTexts.j2 kj1 (strOfNums x3_1) bt245.1 true)) else (newellaw02_TokenTexts.j2 kj1 (strOfNums x3_1) bt245.1 true)))) else (none)) else (none))) else (none)) else (none))) = some r := by rw [if_neg (show ¬ (false = true) by decide)] at H; exact H
      clear H
      have H := H1
      clear H1
      replace H := Option.bind_eq_some_iff.mp H
      obtain ⟨t243, A130, H⟩ := H
      replace H : (if 6 + t243.size ≤ 9223372036854775807 then (if ((⟨#[60, 97, 32, 98, 61, 34]⟩ : ByteArray) ++ t243).size + 2 ≤ 9223372036854775807 then ((newelref01_Escape.f kj1 (strOfNums x3_1)).bind fun t244 => (if (((⟨#[60, 97, 32, 98, 61, 34]⟩ : ByteArray) ++ t243) ++ (⟨#[34, 62]⟩ : ByteArray)).size + t244.size ≤ 9223372036854775807 then (if ((((⟨#[60, 97, 32, 98, 61, 34]⟩ : ByteArray) ++ t243) ++ (⟨#[34, 62]⟩ : ByteArray)) ++ t244).size + 4 ≤ 9223372036854775807 then ((token_Split.f (((((⟨#[60, 97, 32, 98, 61, 34]⟩ : ByteArray) ++ t243) ++ (⟨#[34, 62]⟩ : ByteArray)) ++ t244) ++ (⟨#[60, 47, 97, 62]⟩ : ByteArray))).bind fun bt245 => ((newellaw02_awake.f).bind fun t249 => (if t249 = true then (if bt245.2 = 0 then (if (bt245.1.length : Int) < 2 then (newellaw02_TokenTexts.j2 kj1 (strOfNums x3_1) bt245.1 true) else (if 0 < (bt245.1.length : Int) then (if (((rd_T32 bt245.1 0).f3).length : Int) = 1 then (if 0 < (((rd_T32 bt245.1 0).f3).length : Int) then (newellaw02_TokenTexts.j2 kj1 (strOfNums x3_1) bt245.1 (((rd_T39 ((rd_T32 bt245.1 0).f3) 0).f1).toList != (strOfNums x3_1).toList)) else (none)) else (newellaw02_TokenTexts.j2 kj1 (strOfNums x3_1) bt245.1 true)) else (none))) else (newellaw02_TokenTexts.j2 kj1 (strOfNums x3_1) bt245.1 true)) else (newellaw02_TokenTexts.j2 kj1 (strOfNums x3_1) bt245.1 true)))) else (none)) else (none))) else (none)) else (none)) = some r := H
      have A13 := Aside0.mk A130
      clear A130
      by_cases c14 : 6 + t243.size ≤ 9223372036854775807
      ·rw [if_pos c14] at H
       have c14b0 := eq_true c14
       have c14b1 : decide (6 + t243.size ≤ 9223372036854775807) = true := decide_eq_true c14
       try have c14b2 : (9223372036854775807 < 6 + t243.size) = False := eq_false (Nat.not_lt.2 c14)
       by_cases c15 : ((⟨#[60, 97, 32, 98, 61, 34]⟩ : ByteArray) ++ t243).size + 2 ≤ 9223372036854775807
       ·rw [if_pos c15] at H
        have c15b0 := eq_true c15
        have c15b1 : decide (((⟨#[60, 97, 32, 98, 61, 34]⟩ : ByteArray) ++ t243).size + 2 ≤ 9223372036854775807) = true := decide_eq_true c15
        try have c15b2 : (9223372036854775807 < ((⟨#[60, 97, 32, 98, 61, 34]⟩ : ByteArray) ++ t243).size + 2) = False := eq_false (Nat.not_lt.2 c15)
        have c15n : (6 + t243.size) + 2 ≤ 9223372036854775807 := by have z_ := c15; simp only [ByteArray.size_append] at z_; exact z_
        have c15m : (9223372036854775807 < (6 + t243.size) + 2) = False := eq_false (Nat.not_lt.2 c15n)
        clear c15 c15b0 c15b1
        try clear c15b2
        replace H := Option.bind_eq_some_iff.mp H
        obtain ⟨t244, A160, H⟩ := H
        replace H : (if (((⟨#[60, 97, 32, 98, 61, 34]⟩ : ByteArray) ++ t243) ++ (⟨#[34, 62]⟩ : ByteArray)).size + t244.size ≤ 9223372036854775807 then (if ((((⟨#[60, 97, 32, 98, 61, 34]⟩ : ByteArray) ++ t243) ++ (⟨#[34, 62]⟩ : ByteArray)) ++ t244).size + 4 ≤ 9223372036854775807 then ((token_Split.f (((((⟨#[60, 97, 32, 98, 61, 34]⟩ : ByteArray) ++ t243) ++ (⟨#[34, 62]⟩ : ByteArray)) ++ t244) ++ (⟨#[60, 47, 97, 62]⟩ : ByteArray))).bind fun bt245 => ((newellaw02_awake.f).bind fun t249 => (if t249 = true then (if bt245.2 = 0 then (if (bt245.1.length : Int) < 2 then (newellaw02_TokenTexts.j2 kj1 (strOfNums x3_1) bt245.1 true) else (if 0 < (bt245.1.length : Int) then (if (((rd_T32 bt245.1 0).f3).length : Int) = 1 then (if 0 < (((rd_T32 bt245.1 0).f3).length : Int) then (newellaw02_TokenTexts.j2 kj1 (strOfNums x3_1) bt245.1 (((rd_T39 ((rd_T32 bt245.1 0).f3) 0).f1).toList != (strOfNums x3_1).toList)) else (none)) else (newellaw02_TokenTexts.j2 kj1 (strOfNums x3_1) bt245.1 true)) else (none))) else (newellaw02_TokenTexts.j2 kj1 (strOfNums x3_1) bt245.1 true)) else (newellaw02_TokenTexts.j2 kj1 (strOfNums x3_1) bt245.1 true)))) else (none)) else (none)) = some r := H
        have A16 := Aside0.mk A160
        clear A160
        by_cases c17 : (((⟨#[60, 97, 32, 98, 61, 34]⟩ : ByteArray) ++ t243) ++ (⟨#[34, 62]⟩ : ByteArray)).size + t244.size ≤ 9223372036854775807
        ·rw [if_pos c17] at H
         have c17b0 := eq_true c17
         have c17b1 : decide ((((⟨#[60, 97, 32, 98, 61, 34]⟩ : ByteArray) ++ t243) ++ (⟨#[34, 62]⟩ : ByteArray)).size + t244.size ≤ 9223372036854775807) = true := decide_eq_true c17
         try have c17b2 : (9223372036854775807 < (((⟨#[60, 97, 32, 98, 61, 34]⟩ : ByteArray) ++ t243) ++ (⟨#[34, 62]⟩ : ByteArray)).size + t244.size) = False := eq_false (Nat.not_lt.2 c17)
         have c17n : ((6 + t243.size) + 2) + t244.size ≤ 9223372036854775807 := by have z_ := c17; simp only [ByteArray.size_append] at z_; exact z_
         have c17m : (9223372036854775807 < ((6 + t243.size) + 2) + t244.size) = False := eq_false (Nat.not_lt.2 c17n)
         clear c17 c17b0 c17b1
         try clear c17b2
         by_cases c18 : ((((⟨#[60, 97, 32, 98, 61, 34]⟩ : ByteArray) ++ t243) ++ (⟨#[34, 62]⟩ : ByteArray)) ++ t244).size + 4 ≤ 9223372036854775807
         ·rw [if_pos c18] at H
          have c18b0 := eq_true c18
          have c18b1 : decide (((((⟨#[60, 97, 32, 98, 61, 34]⟩ : ByteArray) ++ t243) ++ (⟨#[34, 62]⟩ : ByteArray)) ++ t244).size + 4 ≤ 9223372036854775807) = true := decide_eq_true c18
          try have c18b2 : (9223372036854775807 < ((((⟨#[60, 97, 32, 98, 61, 34]⟩ : ByteArray) ++ t243) ++ (⟨#[34, 62]⟩ : ByteArray)) ++ t244).size + 4) = False := eq_false (Nat.not_lt.2 c18)
          have c18n : (((6 + t243.size) + 2) + t244.size) + 4 ≤ 9223372036854775807 := by have z_ := c18; simp only [ByteArray.size_append] at z_; exact z_
          have c18m : (9223372036854775807 < (((6 + t243.size) + 2) + t244.size) + 4) = False := eq_false (Nat.not_lt.2 c18n)
          clear c18 c18b0 c18b1
          try clear c18b2
          replace H := Option.bind_eq_some_iff.mp H
          obtain ⟨⟨t245, t246⟩, A190, H⟩ := H
          replace H : ((newellaw02_awake.f).bind fun t249 => (if t249 = true then (if t246 = 0 then (if (t245.length : Int) < 2 then (newellaw02_TokenTexts.j2 kj1 (strOfNums x3_1) t245 true) else (if 0 < (t245.length : Int) then (if (((rd_T32 t245 0).f3).length : Int) = 1 then (if 0 < (((rd_T32 t245 0).f3).length : Int) then (newellaw02_TokenTexts.j2 kj1 (strOfNums x3_1) t245 (((rd_T39 ((rd_T32 t245 0).f3) 0).f1).toList != (strOfNums x3_1).toList)) else (none)) else (newellaw02_TokenTexts.j2 kj1 (strOfNums x3_1) t245 true)) else (none))) else (newellaw02_TokenTexts.j2 kj1 (strOfNums x3_1) t245 true)) else (newellaw02_TokenTexts.j2 kj1 (strOfNums x3_1) t245 true))) = some r := H
          have A19 := Aside0.mk A190
          clear A190
          have HC20 := Aside0.mk H
          clear H
          have hcv21 := own_string (P := Try.prog) Try.underlying35 Try.underlying5 Try.underlying9 (Kd.own_of_R HO_3.out)
          go_upto_region 9 with (first | ((with_reducible refine gate_callee (f := 19) rfl ?_); refine goesL_ (some 34) rfl rfl Try.func19 (by kernel_rfl) rfl #[.string (strOfNums x3_1)] rfl (by (try simp only [List.map_toArray, List.map_cons, List.map_nil]); first | done | rfl | (simp only [List.length_drop, List.length_take]; rfl)) ?_; (with_reducible refine (newelref01_Escape.calls kj1 (strOfNums x3_1) t243 _ ?side1 A13.out).mono ?_); (case side1 => exact Glob.step HG.out (by repeat (first | (with_reducible first | exact HB.out | apply below_alloc | apply pw_below_drewN | apply below_drew1) | exact HB.out))); rintro e w22 ⟨rfl, hb⟩; refine ⟨_, rfl, ?_⟩; have n0_ := Aside0.mk (Kd.R_below (by (with_reducible repeat (first | apply Kd.R_alloc | apply Kd.R_drewN | apply Kd.R_drew)); exact HO_3.out) hb); have n1_ := Aside0.mk (below_step (by repeat (first | (with_reducible first | exact HB.out | apply below_alloc | apply pw_below_drewN | apply below_drew1) | exact HB.out)) hb); clear HO_3; clear HB; have HO_3 := n0_; have HB := n1_; clear n0_ n1_; (try clear hb); (try clear hb2); (try clear hk); (try clear hi)) | ((with_reducible refine gate_callee (f := 19) rfl ?_); refine goesL_ (some 38) rfl rfl Try.func19 (by kernel_rfl) rfl #[.string (strOfNums x3_1)] rfl (by (try simp only [List.map_toArray, List.map_cons, List.map_nil]); first | done | rfl | (simp only [List.length_drop, List.length_take]; rfl)) ?_; (with_reducible refine (newelref01_Escape.calls kj1 (strOfNums x3_1) t244 _ ?side1 A16.out).mono ?_); (case side1 => exact Glob.step HG.out (by repeat (first | (with_reducible first | exact HB.out | apply below_alloc | apply pw_below_drewN | apply below_drew1) | exact HB.out))); rintro e w23 ⟨rfl, hb⟩; refine ⟨_, rfl, ?_⟩; have n0_ := Aside0.mk (Kd.R_below (by (with_reducible repeat (first | apply Kd.R_alloc | apply Kd.R_drewN | apply Kd.R_drew)); exact HO_3.out) hb); have n1_ := Aside0.mk (below_step (by repeat (first | (with_reducible first | exact HB.out | apply below_alloc | apply pw_below_drewN | apply below_drew1) | exact HB.out)) hb); clear HO_3; clear HB; have HO_3 := n0_; have HB := n1_; clear n0_ n1_; (try clear hb); (try clear hb2); (try clear hk); (try clear hi)) | ((with_reducible refine gate_callee (f := 12) rfl ?_); refine goesL_ (some 41) rfl rfl Try.func12 (by kernel_rfl) rfl #[.string (((((⟨#[60, 97, 32, 98, 61, 34]⟩ : ByteArray) ++ t243) ++ (⟨#[34, 62]⟩ : ByteArray)) ++ t244) ++ (⟨#[60, 47, 97, 62]⟩ : ByteArray))] rfl (by (try simp only [List.map_toArray, List.map_cons, List.map_nil]); first | done | rfl | (simp only [List.length_drop, List.length_take]; rfl)) ?_; (with_reducible refine (token_Split.calls (((((⟨#[60, 97, 32, 98, 61, 34]⟩ : ByteArray) ++ t243) ++ (⟨#[34, 62]⟩ : ByteArray)) ++ t244) ++ (⟨#[60, 47, 97, 62]⟩ : ByteArray)) t245 t246 _ ?side1 A19.out).mono ?_); (case side1 => exact Glob.step HG.out (by repeat (first | (with_reducible first | exact HB.out | apply below_alloc | apply pw_below_drewN | apply below_drew1) | exact HB.out))); rintro e w24 ⟨v247, rfl, ho0, hb⟩; refine ⟨_, rfl, ?_⟩; have n0_ := Aside0.mk (Kd.R_below (by (with_reducible repeat (first | apply Kd.R_alloc | apply Kd.R_drewN | apply Kd.R_drew)); exact HO_3.out) hb); have n1_ := Aside0.mk (Kd.S_lower ho0 (below_size (by repeat (first | (with_reducible first | exact HB.out | apply below_alloc | apply pw_below_drewN | apply below_drew1) | exact HB.out)))); have n2_ := Aside0.mk (below_step (by repeat (first | (with_reducible first | exact HB.out | apply below_alloc | apply pw_below_drewN | apply below_drew1) | exact HB.out)) hb); clear HO_3; clear HB; have HO_3 := n0_; have HO248 := n1_; have HB := n2_; clear n0_ n1_ n2_; (try clear hb); (try clear hb2); (try clear hk); (try clear hi); (try clear ho0)))
          (try simp only [Act.put, List.setIfInBounds_toArray, List.set_cons_zero, List.set_cons_succ])
          go_cut [73] (fun v73 wc => ∃ (kq : Nat) (x73_19 : Bool), v73 = .bool x73_19 ∧ Aside0 (newellaw02_TokenTexts.j2 kq (strOfNums x3_1) t245 x73_19 = some r) ∧ Aside0 (kq ≤ kj1) ∧ Aside0 (Kd.S k32 32 wc w.heap.size (fun _ => True) v247 t245) ∧ Aside0 (Below w.heap.size w wc))
          case first =>
           have H := HC20.out
           clear HC20
           replace H := Option.bind_eq_some_iff.mp H
           obtain ⟨t249, A250, H⟩ := H
           replace H : (if t249 = true then (if t246 = 0 then (if (t245.length : Int) < 2 then (newellaw02_TokenTexts.j2 kj1 (strOfNums x3_1) t245 true) else (if 0 < (t245.length : Int) then (if (((rd_T32 t245 0).f3).length : Int) = 1 then (if 0 < (((rd_T32 t245 0).f3).length : Int) then (newellaw02_TokenTexts.j2 kj1 (strOfNums x3_1) t245 (((rd_T39 ((rd_T32 t245 0).f3) 0).f1).toList != (strOfNums x3_1).toList)) else (none)) else (newellaw02_TokenTexts.j2 kj1 (strOfNums x3_1) t245 true)) else (none))) else (newellaw02_TokenTexts.j2 kj1 (strOfNums x3_1) t245 true)) else (newellaw02_TokenTexts.j2 kj1 (strOfNums x3_1) t245 true)) = some r := H
           have A25 := Aside0.mk A250
           clear A250
           by_cases c26 : t249 = true
           ·subst c26
            have H1 : (if t246 = 0 then (if (t245.length : Int) < 2 then (newellaw02_TokenTexts.j2 kj1 (strOfNums x3_1) t245 true) else (if 0 < (t245.length : Int) then (if (((rd_T32 t245 0).f3).length : Int) = 1 then (if 0 < (((rd_T32 t245 0).f3).length : Int) then (newellaw02_TokenTexts.j2 kj1 (strOfNums x3_1) t245 (((rd_T39 ((rd_T32 t245 0).f3) 0).f1).toList != (strOfNums x3_1).toList)) else (none)) else (newellaw02_TokenTexts.j2 kj1 (strOfNums x3_1) t245 true)) else (none))) else (newellaw02_TokenTexts.j2 kj1 (strOfNums x3_1) t245 true)) = some r := by rw [if_pos rfl] at H; exact H
            clear H
            have H := H1
            clear H1
            by_cases c27 : t246 = 0
            ·rw [if_pos c27] at H
             have c27b0 : (t246 == 0) = true := beq_iff_eq.mpr c27
             have c27b1 : (t246 != 0) = false := bne_eq_false_iff_eq.mpr c27
             clear c27
             (first | rw [c27b0] | (simp only [i64_w, i32_w]; rw [c27b0]) | skip)
             by_cases c28 : (t245.length : Int) < 2
             ·rw [if_pos c28] at H
              have c28b0 : decide ((t245.length : Int) < 2) = true := decide_eq_true c28
              have c28b1 : decide (t245.length < 2) = true := decide_eq_true (by omega)
              clear c28
              have H' := Aside0.mk H
              clear H
              go_wp2_with (first | ((with_reducible refine gate_callee (f := 11) rfl ?_); refine goesL_ (some 44) rfl rfl Try.func11 (by kernel_rfl) rfl #[] rfl (by (try simp only [List.map_toArray, List.map_cons, List.map_nil]); first | done | rfl | (simp only [List.length_drop, List.length_take]; rfl)) ?_; (with_reducible refine (newellaw02_awake.calls  true _ ?side1 A25.out).mono ?_); (case side1 => exact Glob.step HG.out (by repeat (first | (with_reducible first | exact HB.out | apply below_alloc | apply pw_below_drewN | apply below_drew1) | exact HB.out))); rintro e w29 ⟨rfl, hb⟩; refine ⟨_, rfl, ?_⟩; have n0_ := Aside0.mk (Kd.R_below (by (with_reducible repeat (first | apply Kd.R_alloc | apply Kd.R_drewN | apply Kd.R_drew)); exact HO_3.out) hb); have n1_ := Aside0.mk (Kd.S_below (by (with_reducible repeat (first | apply Kd.S_alloc | apply Kd.S_drewN | apply Kd.S_drew)); exact HO248.out) hb); have n2_ := Aside0.mk (below_step (by repeat (first | (with_reducible first | exact HB.out | apply below_alloc | apply pw_below_drewN | apply below_drew1) | exact HB.out)) hb); clear HO_3; clear HO248; clear HB; have HO_3 := n0_; have HO248 := n1_; have HB := n2_; clear n0_ n1_ n2_; (try clear hb); (try clear hb2); (try clear hk); (try clear hi); obtain ⟨Ao30, co30, eo30⟩ := Kd.S_slice HO248.out; subst eo30))
              go_meet
              case rel => exact ⟨_, (true), (by first | rfl | (simp; done) | (simp [*]; done) | (simp; exact isEmpty_bne _)), H', ⟨by have := HK1.out; have := HJ1.out; first | omega | exact Nat.le_refl _⟩, ⟨by (with_reducible repeat (first | apply Kd.S_alloc | apply Kd.S_drewN | apply Kd.S_drew)); exact HO248.out⟩, ⟨by repeat (first | (with_reducible first | exact HB.out | apply below_alloc | apply pw_below_drewN | apply below_drew1) | exact HB.out)⟩⟩
             ·rw [if_neg c28] at H
              have c28b0 : decide ((t245.length : Int) < 2) = false := decide_eq_false c28
              have c28b1 : decide (t245.length < 2) = false := decide_eq_false (by omega)
              clear c28
              by_cases c31 : 0 < (t245.length : Int)
              ·rw [if_pos c31] at H
               have c31b0 : decide (0 < (t245.length : Int)) = true := decide_eq_true c31
               have c31b1 : decide (0 < t245.length) = true := decide_eq_true (by omega)
               clear c31
               by_cases c32 : (((rd_T32 t245 0).f3).length : Int) = 1
               ·rw [if_pos c32] at H
                have c32b0 : ((((rd_T32 t245 0).f3).length : Int) == 1) = true := beq_iff_eq.mpr c32
                have c32b1 : ((((rd_T32 t245 0).f3).length : Int) != 1) = false := bne_eq_false_iff_eq.mpr c32
                clear c32
                by_cases c33 : 0 < (((rd_T32 t245 0).f3).length : Int)
                ·rw [if_pos c33] at H
                 have c33b0 : decide (0 < (((rd_T32 t245 0).f3).length : Int)) = true := decide_eq_true c33
                 have c33b1 : decide (0 < ((rd_T32 t245 0).f3).length) = true := decide_eq_true (by omega)
                 clear c33
                 have H' := Aside0.mk H
                 clear H
                 go_wp2_with (first | ((with_reducible refine gate_callee (f := 11) rfl ?_); refine goesL_ (some 44) rfl rfl Try.func11 (by kernel_rfl) rfl #[] rfl (by (try simp only [List.map_toArray, List.map_cons, List.map_nil]); first | done | rfl | (simp only [List.length_drop, List.length_take]; rfl)) ?_; (with_reducible refine (newellaw02_awake.calls  true _ ?side1 A25.out).mono ?_); (case side1 => exact Glob.step HG.out (by repeat (first | (with_reducible first | exact HB.out | apply below_alloc | apply pw_below_drewN | apply below_drew1) | exact HB.out))); rintro e w34 ⟨rfl, hb⟩; refine ⟨_, rfl, ?_⟩; have n0_ := Aside0.mk (Kd.R_below (by (with_reducible repeat (first | apply Kd.R_alloc | apply Kd.R_drewN | apply Kd.R_drew)); exact HO_3.out) hb); have n1_ := Aside0.mk (Kd.S_below (by (with_reducible repeat (first | apply Kd.S_alloc | apply Kd.S_drewN | apply Kd.S_drew)); exact HO248.out) hb); have n2_ := Aside0.mk (below_step (by repeat (first | (with_reducible first | exact HB.out | apply below_alloc | apply pw_below_drewN | apply below_drew1) | exact HB.out)) hb); clear HO_3; clear HO248; clear HB; have HO_3 := n0_; have HO248 := n1_; have HB := n2_; clear n0_ n1_ n2_; (try clear hb); (try clear hb2); (try clear hk); (try clear hi); obtain ⟨Ao35, co35, eo35⟩ := Kd.S_slice HO248.out; subst eo35; have p250 : 0 ≤ (0 : Int) := (by omega); have q250 : 0 < (t245.length : Int) := of_decide_eq_true (by first | (with_reducible assumption) | assumption); obtain ⟨ad250, A250_3, c250_3, e250, hx250_0, hx250_1, hx250_2, hx250_3, hx250_4, hl250_3, hi250_3⟩ := at_T32 (Kd.S_reads' HO248.out).2.2 0 p250 q250; cases e250; obtain ⟨ce250, hce250, hMe250, hcc250⟩ := Kd.S_get HO248.out z32 0 p250 (by first | exact q250 | exact of_decide_eq_true (by first | (with_reducible assumption) | assumption) | (have e_ := (Kd.S_reads' HO248.out).1; omega)); obtain ⟨ve250_3, rfl, ge250_3⟩ := k32_openM hMe250; have hv250_3 := hcc250 3 _ rfl; rw [add_field _ _ 3 (by omega)] at hv250_3; replace hv250_3 := Option.some.inj (hv250_3.symm.trans hx250_3); rw [hv250_3] at ge250_3; have HL250_3 := Aside0.mk (show Kd.R k39 39 _ _ _ _ ((rd_T32 t245 0).f3) from ge250_3); clear hv250_3 ge250_3; clear hcc250 hce250; have qi250 : (0 < t245.length) = True := eq_true (by omega); (try rw [show ((0 : Int)).toNat = 0 from rfl] at hx250_0); (try rw [show 0 * 5 = 0 from rfl] at hx250_0); (try rw [Addr.add_zero'] at hx250_0); (try rw [show ((0 : Int)).toNat = 0 from rfl] at hx250_1); (try rw [show 0 * 5 = 0 from rfl] at hx250_1); (try rw [Addr.add_zero'] at hx250_1); (try rw [show ((0 : Int)).toNat = 0 from rfl] at hx250_2); (try rw [show 0 * 5 = 0 from rfl] at hx250_2); (try rw [Addr.add_zero'] at hx250_2); (try rw [show ((0 : Int)).toNat = 0 from rfl] at hx250_3); (try rw [show 0 * 5 = 0 from rfl] at hx250_3); (try rw [Addr.add_zero'] at hx250_3); (try rw [show ((0 : Int)).toNat = 0 from rfl] at hx250_4); (try rw [show 0 * 5 = 0 from rfl] at hx250_4); (try rw [Addr.add_zero'] at hx250_4); have HR250_3 := Aside0.mk hi250_3; have HC250_3 := Aside0.mk hl250_3; clear hi250_3 hl250_3; replace p250 := eq_true p250; replace q250 := eq_true q250; have p251 : 0 ≤ (0 : Int) := (by omega); have q251 : 0 < (t245.length : Int) := of_decide_eq_true (by first | (with_reducible assumption) | assumption); obtain ⟨ad251, A251_3, c251_3, e251, hx251_0, hx251_1, hx251_2, hx251_3, hx251_4, hl251_3, hi251_3⟩ := at_T32 (Kd.S_reads' HO248.out).2.2 0 p251 q251; obtain rfl : ad250 = ad251 := (by injection e251); obtain ⟨ce251, hce251, hMe251, hcc251⟩ := Kd.S_get HO248.out z32 0 p251 (by first | exact q251 | exact of_decide_eq_true (by first | (with_reducible assumption) | assumption) | (have e_ := (Kd.S_reads' HO248.out).1; omega)); obtain ⟨ve251_3, rfl, ge251_3⟩ := k32_openM hMe251; have hv251_3 := hcc251 3 _ rfl; rw [add_field _ _ 3 (by omega)] at hv251_3; replace hv251_3 := Option.some.inj (hv251_3.symm.trans hx251_3); rw [hv251_3] at ge251_3; have HL251_3 := Aside0.mk (show Kd.R k39 39 _ _ _ _ ((rd_T32 t245 0).f3) from ge251_3); clear hv251_3 ge251_3; clear hcc251 hce251; have qi251 : (0 < t245.length) = True := eq_true (by omega); (try rw [show ((0 : Int)).toNat = 0 from rfl] at hx251_0); (try rw [show 0 * 5 = 0 from rfl] at hx251_0); (try rw [Addr.add_zero'] at hx251_0); (try rw [show ((0 : Int)).toNat = 0 from rfl] at hx251_1); (try rw [show 0 * 5 = 0 from rfl] at hx251_1); (try rw [Addr.add_zero'] at hx251_1); (try rw [show ((0 : Int)).toNat = 0 from rfl] at hx251_2); (try rw [show 0 * 5 = 0 from rfl] at hx251_2); (try rw [Addr.add_zero'] at hx251_2); (try rw [show ((0 : Int)).toNat = 0 from rfl] at hx251_3); (try rw [show 0 * 5 = 0 from rfl] at hx251_3); (try rw [Addr.add_zero'] at hx251_3); (try rw [show ((0 : Int)).toNat = 0 from rfl] at hx251_4); (try rw [show 0 * 5 = 0 from rfl] at hx251_4); (try rw [Addr.add_zero'] at hx251_4); have HR251_3 := Aside0.mk hi251_3; have HC251_3 := Aside0.mk hl251_3; clear hi251_3 hl251_3; replace p251 := eq_true p251; replace q251 := eq_true q251; have ea_ := Option.some.inj (hx250_3.symm.trans hx251_3); injection ea_ with ea_ en_ ec_; subst ea_; subst ec_; clear en_; have p252 : 0 ≤ (0 : Int) := (by omega); have q252 : 0 < (((rd_T32 t245 0).f3).length : Int) := of_decide_eq_true (by first | (with_reducible assumption) | assumption); obtain ⟨ad252, e252, hx252_0, hx252_1⟩ := at_T39 (by repeat (first | (with_reducible exact HR251_3.out) | (with_reducible refine Kd.C_alloc ?_ _) | (with_reducible refine Kd.C_drewN ?_ _) | (with_reducible refine Kd.C_drew ?_) | exact HR251_3.out)) 0 p252 q252; cases e252; have qi252 : (0 < ((rd_T32 t245 0).f3).length) = True := eq_true (by omega); (try rw [show ((0 : Int)).toNat = 0 from rfl] at hx252_0); (try rw [show 0 * 2 = 0 from rfl] at hx252_0); (try rw [Addr.add_zero'] at hx252_0); (try rw [show ((0 : Int)).toNat = 0 from rfl] at hx252_1); (try rw [show 0 * 2 = 0 from rfl] at hx252_1); (try rw [Addr.add_zero'] at hx252_1); replace p252 := eq_true p252; replace q252 := eq_true q252))
                 go_meet
                 case rel => exact ⟨_, ((((rd_T39 ((rd_T32 t245 0).f3) 0).f1).toList != (strOfNums x3_1).toList)), (by first | rfl | (simp; done) | (simp [*]; done) | (simp; exact isEmpty_bne _)), H', ⟨by have := HK1.out; have := HJ1.out; first | omega | exact Nat.le_refl _⟩, ⟨by (with_reducible repeat (first | apply Kd.S_alloc | apply Kd.S_drewN | apply Kd.S_drew)); exact HO248.out⟩, ⟨by repeat (first | (with_reducible first | exact HB.out | apply below_alloc | apply pw_below_drewN | apply below_drew1) | exact HB.out)⟩⟩
                ·rw [if_neg c33] at H
                 exact absurd H (by simp)
               ·rw [if_neg c32] at H
                have c32b0 : ((((rd_T32 t245 0).f3).length : Int) == 1) = false := beq_eq_false_iff_ne.mpr c32
                have c32b1 : ((((rd_T32 t245 0).f3).length : Int) != 1) = true := bne_iff_ne.mpr c32
                have H' := Aside0.mk H
                clear H
                go_wp2_with (first | ((with_reducible refine gate_callee (f := 11) rfl ?_); refine goesL_ (some 44) rfl rfl Try.func11 (by kernel_rfl) rfl #[] rfl (by (try simp only [List.map_toArray, List.map_cons, List.map_nil]); first | done | rfl | (simp only [List.length_drop, List.length_take]; rfl)) ?_; (with_reducible refine (newellaw02_awake.calls  true _ ?side1 A25.out).mono ?_); (case side1 => exact Glob.step HG.out (by repeat (first | (with_reducible first | exact HB.out | apply below_alloc | apply pw_below_drewN | apply below_drew1) | exact HB.out))); rintro e w36 ⟨rfl, hb⟩; refine ⟨_, rfl, ?_⟩; have n0_ := Aside0.mk (Kd.R_below (by (with_reducible repeat (first | apply Kd.R_alloc | apply Kd.R_drewN | apply Kd.R_drew)); exact HO_3.out) hb); have n1_ := Aside0.mk (Kd.S_below (by (with_reducible repeat (first | apply Kd.S_alloc | apply Kd.S_drewN | apply Kd.S_drew)); exact HO248.out) hb); have n2_ := Aside0.mk (below_step (by repeat (first | (with_reducible first | exact HB.out | apply below_alloc | apply pw_below_drewN | apply below_drew1) | exact HB.out)) hb); clear HO_3; clear HO248; clear HB; have HO_3 := n0_; have HO248 := n1_; have HB := n2_; clear n0_ n1_ n2_; (try clear hb); (try clear hb2); (try clear hk); (try clear hi); obtain ⟨Ao37, co37, eo37⟩ := Kd.S_slice HO248.out; subst eo37; have p250 : 0 ≤ (0 : Int) := (by omega); have q250 : 0 < (t245.length : Int) := of_decide_eq_true (by first | (with_reducible assumption) | assumption); obtain ⟨ad250, A250_3, c250_3, e250, hx250_0, hx250_1, hx250_2, hx250_3, hx250_4, hl250_3, hi250_3⟩ := at_T32 (Kd.S_reads' HO248.out).2.2 0 p250 q250; cases e250; obtain ⟨ce250, hce250, hMe250, hcc250⟩ := Kd.S_get HO248.out z32 0 p250 (by first | exact q250 | exact of_decide_eq_true (by first | (with_reducible assumption) | assumption) | (have e_ := (Kd.S_reads' HO248.out).1; omega)); obtain ⟨ve250_3, rfl, ge250_3⟩ := k32_openM hMe250; have hv250_3 := hcc250 3 _ rfl; rw [add_field _ _ 3 (by omega)] at hv250_3; replace hv250_3 := Option.some.inj (hv250_3.symm.trans hx250_3); rw [hv250_3] at ge250_3; have HL250_3 := Aside0.mk (show Kd.R k39 39 _ _ _ _ ((rd_T32 t245 0).f3) from ge250_3); clear hv250_3 ge250_3; clear hcc250 hce250; have qi250 : (0 < t245.length) = True := eq_true (by omega); (try rw [show ((0 : Int)).toNat = 0 from rfl] at hx250_0); (try rw [show 0 * 5 = 0 from rfl] at hx250_0); (try rw [Addr.add_zero'] at hx250_0); (try rw [show ((0 : Int)).toNat = 0 from rfl] at hx250_1); (try rw [show 0 * 5 = 0 from rfl] at hx250_1); (try rw [Addr.add_zero'] at hx250_1); (try rw [show ((0 : Int)).toNat = 0 from rfl] at hx250_2); (try rw [show 0 * 5 = 0 from rfl] at hx250_2); (try rw [Addr.add_zero'] at hx250_2); (try rw [show ((0 : Int)).toNat = 0 from rfl] at hx250_3); (try rw [show 0 * 5 = 0 from rfl] at hx250_3); (try rw [Addr.add_zero'] at hx250_3); (try rw [show ((0 : Int)).toNat = 0 from rfl] at hx250_4); (try rw [show 0 * 5 = 0 from rfl] at hx250_4); (try rw [Addr.add_zero'] at hx250_4); have HR250_3 := Aside0.mk hi250_3; have HC250_3 := Aside0.mk hl250_3; clear hi250_3 hl250_3; replace p250 := eq_true p250; replace q250 := eq_true q250))
                go_meet
                case rel => exact ⟨_, (true), (by first | rfl | (simp; done) | (simp [*]; done) | (simp; exact isEmpty_bne _)), H', ⟨by have := HK1.out; have := HJ1.out; first | omega | exact Nat.le_refl _⟩, ⟨by (with_reducible repeat (first | apply Kd.S_alloc | apply Kd.S_drewN | apply Kd.S_drew)); exact HO248.out⟩, ⟨by repeat (first | (with_reducible first | exact HB.out | apply below_alloc | apply pw_below_drewN | apply below_drew1) | exact HB.out)⟩⟩
              ·rw [if_neg c31] at H
               exact absurd H (by simp)
            ·rw [if_neg c27] at H
             have c27b0 : (t246 == 0) = false := beq_eq_false_iff_ne.mpr c27
             have c27b1 : (t246 != 0) = true := bne_iff_ne.mpr c27
             (first | rw [c27b0] | (simp only [i64_w, i32_w]; rw [c27b0]) | skip)
             have H' := Aside0.mk H
             clear H
             go_wp2_with (first | ((with_reducible refine gate_callee (f := 11) rfl ?_); refine goesL_ (some 44) rfl rfl Try.func11 (by kernel_rfl) rfl #[] rfl (by (try simp only [List.map_toArray, List.map_cons, List.map_nil]); first | done | rfl | (simp only [List.length_drop, List.length_take]; rfl)) ?_; (with_reducible refine (newellaw02_awake.calls  true _ ?side1 A25.out).mono ?_); (case side1 => exact Glob.step HG.out (by repeat (first | (with_reducible first | exact HB.out | apply below_alloc | apply pw_below_drewN | apply below_drew1) | exact HB.out))); rintro e w38 ⟨rfl, hb⟩; refine ⟨_, rfl, ?_⟩; have n0_ := Aside0.mk (Kd.R_below (by (with_reducible repeat (first | apply Kd.R_alloc | apply Kd.R_drewN | apply Kd.R_drew)); exact HO_3.out) hb); have n1_ := Aside0.mk (Kd.S_below (by (with_reducible repeat (first | apply Kd.S_alloc | apply Kd.S_drewN | apply Kd.S_drew)); exact HO248.out) hb); have n2_ := Aside0.mk (below_step (by repeat (first | (with_reducible first | exact HB.out | apply below_alloc | apply pw_below_drewN | apply below_drew1) | exact HB.out)) hb); clear HO_3; clear HO248; clear HB; have HO_3 := n0_; have HO248 := n1_; have HB := n2_; clear n0_ n1_ n2_; (try clear hb); (try clear hb2); (try clear hk); (try clear hi)))
             go_meet
             case rel => exact ⟨_, (true), (by first | rfl | (simp; done) | (simp [*]; done) | (simp; exact isEmpty_bne _)), H', ⟨by have := HK1.out; have := HJ1.out; first | omega | exact Nat.le_refl _⟩, ⟨by (with_reducible repeat (first | apply Kd.S_alloc | apply Kd.S_drewN | apply Kd.S_drew)); exact HO248.out⟩, ⟨by repeat (first | (with_reducible first | exact HB.out | apply below_alloc | apply pw_below_drewN | apply below_drew1) | exact HB.out)⟩⟩
           ·replace c26 := Bool.eq_false_iff.mpr c26
            subst c26
            have H1 : (newellaw02_TokenTexts.j2 kj1 (strOfNums x3_1) t245 true) = some r := by rw [if_neg (show ¬ (false = true) by decide)] at H; exact H
            clear H
            have H := H1
            clear H1
            have H' := Aside0.mk H
            clear H
            go_wp2_with (first | ((with_reducible refine gate_callee (f := 11) rfl ?_); refine goesL_ (some 44) rfl rfl Try.func11 (by kernel_rfl) rfl #[] rfl (by (try simp only [List.map_toArray, List.map_cons, List.map_nil]); first | done | rfl | (simp only [List.length_drop, List.length_take]; rfl)) ?_; (with_reducible refine (newellaw02_awake.calls  false _ ?side1 A25.out).mono ?_); (case side1 => exact Glob.step HG.out (by repeat (first | (with_reducible first | exact HB.out | apply below_alloc | apply pw_below_drewN | apply below_drew1) | exact HB.out))); rintro e w39 ⟨rfl, hb⟩; refine ⟨_, rfl, ?_⟩; have n0_ := Aside0.mk (Kd.R_below (by (with_reducible repeat (first | apply Kd.R_alloc | apply Kd.R_drewN | apply Kd.R_drew)); exact HO_3.out) hb); have n1_ := Aside0.mk (Kd.S_below (by (with_reducible repeat (first | apply Kd.S_alloc | apply Kd.S_drewN | apply Kd.S_drew)); exact HO248.out) hb); have n2_ := Aside0.mk (below_step (by repeat (first | (with_reducible first | exact HB.out | apply below_alloc | apply pw_below_drewN | apply below_drew1) | exact HB.out)) hb); clear HO_3; clear HO248; clear HB; have HO_3 := n0_; have HO248 := n1_; have HB := n2_; clear n0_ n1_ n2_; (try clear hb); (try clear hb2); (try clear hk); (try clear hi)))
            go_meet
            case rel => exact ⟨_, (true), (by first | rfl | (simp; done) | (simp [*]; done) | (simp; exact isEmpty_bne _)), H', ⟨by have := HK1.out; have := HJ1.out; first | omega | exact Nat.le_refl _⟩, ⟨by (with_reducible repeat (first | apply Kd.S_alloc | apply Kd.S_drewN | apply Kd.S_drew)); exact HO248.out⟩, ⟨by repeat (first | (with_reducible first | exact HB.out | apply below_alloc | apply pw_below_drewN | apply below_drew1) | exact HB.out)⟩⟩
          case rest =>
           clear HC20
           try clear c1
           try clear p1
           try clear q1
           try clear hx1
           try clear c2
           try clear p2
           try clear q2
           try clear hx2
           try clear hcv2
           try clear qi2
           try clear c3
           try clear c3b0
           try clear c4
           try clear c5
           try clear c5b0
           try clear c6
           try clear c6b0
           try clear p6
           try clear p7
           try clear q7
           try clear hx7
           try clear c9
           try clear p10
           try clear q10
           try clear hx10
           try clear c11
           try clear c12
           try clear c14
           try clear c14b0
           try clear c14b1
           try clear c14b2
           try clear c15
           try clear c15b0
           try clear c15b1
           try clear c15b2
           try clear c17
           try clear c17b0
           try clear c17b1
           try clear c17b2
           try clear c18
           try clear c18b0
           try clear c18b1
           try clear c18b2
           try clear c19
           try clear hcv21
           try clear c25
           try clear p25
           try clear q25
           try clear hx25
           try clear qi25
           try clear c26
           try clear c27
           try clear c27b0
           try clear c27b1
           try clear c28
           try clear c28b0
           try clear c28b1
           try clear c31
           try clear c31b0
           try clear c31b1
           try clear c32
           try clear c32b0
           try clear c32b1
           try clear c33
           try clear c33b0
           try clear c33b1
           try clear hx250_0
           try clear hx250_1
           try clear hx250_2
           try clear hx250_3
           try clear hx250_4
           try clear hx251_0
           try clear hx251_1
           try clear hx251_2
           try clear hx251_3
           try clear hx251_4
           try clear hx252_0
           try clear hx252_1
           try clear p10
           try clear p2
           try clear p250
           try clear p251
           try clear p252
           try clear p7
           try clear q10
           try clear q250
           try clear q251
           try clear q252
           try clear q7
           obtain ⟨kq, x73_19, rfl, HA, HJ19, HO_5, HB⟩ := hcut
           cases kq with
           | zero => exact absurd HA.out (by simp [newellaw02_TokenTexts.j2])
           | succ kj19 =>
            have H := HA.out
            clear HA
            simp only [newellaw02_TokenTexts.j2] at H
            (try simp only [toList_lit] at H)
            by_cases c40 : x73_19 = true
            ·subst c40
             have H1 : (some false) = some r := by rw [if_pos rfl] at H; exact H
             clear H
             have H := H1
             clear H1
             exfalso
             obtain rfl := Option.some.inj H
             exact absurd hr_ (by decide)
            ·replace c40 := Bool.eq_false_iff.mpr c40
             subst c40
             have H1 : (if (strOfNums x3_1).toList = ([] : List UInt8) then (newellaw02_TokenTexts.j3 kj19 (strOfNums x3_1) false) else (if (t245.length : Int) = 3 then (if 1 < (t245.length : Int) then (newellaw02_TokenTexts.j3 kj19 (strOfNums x3_1) (((rd_T32 t245 1).f2).toList != (strOfNums x3_1).toList)) else (none)) else (newellaw02_TokenTexts.j3 kj19 (strOfNums x3_1) true))) = some r := by rw [if_neg (show ¬ (false = true) by decide)] at H; exact H
             clear H
             have H := H1
             clear H1
             have HC41 := Aside0.mk H
             clear H
             go_upto_region 11 with (fail)
             go_cut [88] (fun v88 wc => ∃ (kq : Nat) (x88_40 : Bool), v88 = .bool x88_40 ∧ Aside0 (newellaw02_TokenTexts.j3 kq (strOfNums x3_1) x88_40 = some r) ∧ Aside0 (kq ≤ kj19) ∧ Aside0 (Below w.heap.size w wc))
             case first =>
              have H := HC41.out
              clear HC41
              by_cases c42 : (strOfNums x3_1).toList = ([] : List UInt8)
              ·rw [if_pos c42] at H
               have c42b0 : ((strOfNums x3_1).toList == ([] : List UInt8)) = true := beq_iff_eq.mpr c42
               have c42b1 : ((strOfNums x3_1).toList != ([] : List UInt8)) = false := bne_eq_false_iff_eq.mpr c42
               (try (have c42b2 : ((strOfNums x3_1).toList).isEmpty = true := by simpa using c42))
               clear c42
               (first | rw [c42b0] | rw [c42b2] | (simp only [i64_w, i32_w]; rw [c42b0]) | skip)
               have H' := Aside0.mk H
               clear H
               go_wp2
               go_meet
               case rel => exact ⟨_, (false), (by first | rfl | (simp; done) | (simp [*]; done) | (simp; exact isEmpty_bne _)), H', ⟨by have := HK1.out; have := HJ1.out; have := HJ19.out; first | omega | exact Nat.le_refl _⟩, ⟨by repeat (first | (with_reducible first | exact HB.out | apply below_alloc | apply pw_below_drewN | apply below_drew1) | exact HB.out)⟩⟩
              ·rw [if_neg c42] at H
               have c42b0 : ((strOfNums x3_1).toList == ([] : List UInt8)) = false := beq_eq_false_iff_ne.mpr c42
               have c42b1 : ((strOfNums x3_1).toList != ([] : List UInt8)) = true := bne_iff_ne.mpr c42
               (try (have c42b2 : ((strOfNums x3_1).toList).isEmpty = false := by simpa using c42))
               (first | rw [c42b0] | rw [c42b2] | (simp only [i64_w, i32_w]; rw [c42b0]) | skip)
               by_cases c43 : (t245.length : Int) = 3
               ·rw [if_pos c43] at H
                have c43b0 : ((t245.length : Int) == 3) = true := beq_iff_eq.mpr c43
                have c43b1 : ((t245.length : Int) != 3) = false := bne_eq_false_iff_eq.mpr c43
                clear c43
                by_cases c44 : 1 < (t245.length : Int)
                ·rw [if_pos c44] at H
                 have c44b0 : decide (1 < (t245.length : Int)) = true := decide_eq_true c44
                 have c44b1 : decide (1 < t245.length) = true := decide_eq_true (by omega)
                 clear c44
                 have H' := Aside0.mk H
                 clear H
                 obtain ⟨Ao45, co45, eo45⟩ := Kd.S_slice HO_5.out
                 subst eo45
                 have p253 : 0 ≤ (1 : Int) := (by omega)
                 have q253 : 1 < (t245.length : Int) := of_decide_eq_true (by first | (with_reducible assumption) | assumption)
                 obtain ⟨ad253, A253_3, c253_3, e253, hx253_0, hx253_1, hx253_2, hx253_3, hx253_4, hl253_3, hi253_3⟩ := at_T32 (Kd.S_reads' HO_5.out).2.2 1 p253 q253
                 cases e253
                 obtain ⟨ce253, hce253, hMe253, hcc253⟩ := Kd.S_get HO_5.out z32 1 p253 (by first | exact q253 | exact of_decide_eq_true (by first | (with_reducible assumption) | assumption) | (have e_ := (Kd.S_reads' HO_5.out).1; omega))
                 obtain ⟨ve253_3, rfl, ge253_3⟩ := k32_openM hMe253
                 have hv253_3 := hcc253 3 _ rfl
                 rw [add_field _ _ 3 (by omega)] at hv253_3
                 replace hv253_3 := Option.some.inj (hv253_3.symm.trans hx253_3)
                 rw [hv253_3] at ge253_3
                 have HL253_3 := Aside0.mk (show Kd.R k39 39 _ _ _ _ ((rd_T32 t245 1).f3) from ge253_3)
                 clear hv253_3 ge253_3
                 clear hcc253 hce253
                 (try simp only [show (1 : Int).toNat = 1 from rfl, Nat.reduceMul, Nat.reduceEqDiff, Go.Addr.add, ↓reduceIte] at hx253_0)
                 (try simp only [show (1 : Int).toNat = 1 from rfl, Nat.reduceMul, Nat.reduceEqDiff, Go.Addr.add, ↓reduceIte] at hx253_1)
                 (try simp only [show (1 : Int).toNat = 1 from rfl, Nat.reduceMul, Nat.reduceEqDiff, Go.Addr.add, ↓reduceIte] at hx253_2)
                 (try simp only [show (1 : Int).toNat = 1 from rfl, Nat.reduceMul, Nat.reduceEqDiff, Go.Addr.add, ↓reduceIte] at hx253_3)
                 (try simp only [show (1 : Int).toNat = 1 from rfl, Nat.reduceMul, Nat.reduceEqDiff, Go.Addr.add, ↓reduceIte] at hx253_4)
                 have qi253 : (1 < t245.length) = True := eq_true (by omega)
                 (try rw [show ((1 : Int)).toNat = 1 from rfl] at hx253_0)
                 (try rw [show 1 * 5 = 5 from rfl] at hx253_0)
                 (try rw [show ((1 : Int)).toNat = 1 from rfl] at hx253_1)
                 (try rw [show 1 * 5 = 5 from rfl] at hx253_1)
                 (try rw [show ((1 : Int)).toNat = 1 from rfl] at hx253_2)
                 (try rw [show 1 * 5 = 5 from rfl] at hx253_2)
                 (try rw [show ((1 : Int)).toNat = 1 from rfl] at hx253_3)
                 (try rw [show 1 * 5 = 5 from rfl] at hx253_3)
                 (try rw [show ((1 : Int)).toNat = 1 from rfl] at hx253_4)
                 (try rw [show 1 * 5 = 5 from rfl] at hx253_4)
                 have HR253_3 := Aside0.mk hi253_3
                 have HC253_3 := Aside0.mk hl253_3
                 clear hi253_3 hl253_3
                 replace p253 := eq_true p253
                 replace q253 := eq_true q253
                 go_wp2
                 go_meet
                 case rel => exact ⟨_, ((((rd_T32 t245 1).f2).toList != (strOfNums x3_1).toList)), (by first | rfl | (simp; done) | (simp [*]; done) | (simp; exact isEmpty_bne _)), H', ⟨by have := HK1.out; have := HJ1.out; have := HJ19.out; first | omega | exact Nat.le_refl _⟩, ⟨by repeat (first | (with_reducible first | exact HB.out | apply below_alloc | apply pw_below_drewN | apply below_drew1) | exact HB.out)⟩⟩
                ·rw [if_neg c44] at H
                 exact absurd H (by simp)
               ·rw [if_neg c43] at H
                have c43b0 : ((t245.length : Int) == 3) = false := beq_eq_false_iff_ne.mpr c43
                have c43b1 : ((t245.length : Int) != 3) = true := bne_iff_ne.mpr c43
                have H' := Aside0.mk H
                clear H
                obtain ⟨Ao46, co46, eo46⟩ := Kd.S_slice HO_5.out
                subst eo46
                go_wp2
                go_meet
                case rel => exact ⟨_, (true), (by first | rfl | (simp; done) | (simp [*]; done) | (simp; exact isEmpty_bne _)), H', ⟨by have := HK1.out; have := HJ1.out; have := HJ19.out; first | omega | exact Nat.le_refl _⟩, ⟨by repeat (first | (with_reducible first | exact HB.out | apply below_alloc | apply pw_below_drewN | apply below_drew1) | exact HB.out)⟩⟩
             case rest =>
              clear HC41
              try clear c1
              try clear p1
              try clear q1
              try clear hx1
              try clear c2
              try clear p2
              try clear q2
              try clear hx2
              try clear hcv2
              try clear qi2
              try clear c3
              try clear c3b0
              try clear c4
              try clear c5
              try clear c5b0
              try clear c6
              try clear c6b0
              try clear p6
              try clear p7
              try clear q7
              try clear hx7
              try clear c9
              try clear p10
              try clear q10
              try clear hx10
              try clear c11
              try clear c12
              try clear c14
              try clear c14b0
              try clear c14b1
              try clear c14b2
              try clear c15
              try clear c15b0
              try clear c15b1
              try clear c15b2
              try clear c17
              try clear c17b0
              try clear c17b1
              try clear c17b2
              try clear c18
              try clear c18b0
              try clear c18b1
              try clear c18b2
              try clear c19
              try clear hcv21
              try clear c25
              try clear p25
              try clear q25
              try clear hx25
              try clear qi25
              try clear c26
              try clear c27
              try clear c27b0
              try clear c27b1
              try clear c28
              try clear c28b0
              try clear c28b1
              try clear c31
              try clear c31b0
              try clear c31b1
              try clear c32
              try clear c32b0
              try clear c32b1
              try clear c33
              try clear c33b0
              try clear c33b1
              try clear c40
              try clear c42
              try clear c42b0
              try clear c42b1
              try clear c42b2
              try clear c43
              try clear c43b0
              try clear c43b1
              try clear c44
              try clear c44b0
              try clear c44b1
              try clear hx250_0
              try clear hx250_1
              try clear hx250_2
              try clear hx250_3
              try clear hx250_4
              try clear hx251_0
              try clear hx251_1
              try clear hx251_2
              try clear hx251_3
              try clear hx251_4
              try clear hx252_0
              try clear hx252_1
              try clear hx253_0
              try clear hx253_1
              try clear hx253_2
              try clear hx253_3
              try clear hx253_4
              try clear p1
              try clear p10
              try clear p2
              try clear p25
              try clear p250
              try clear p251
              try clear p252
              try clear p253
              try clear p6
              try clear p7
              try clear q1
              try clear q10
              try clear q2
              try clear q25
              try clear q250
              try clear q251
              try clear q252
              try clear q253
              try clear q7
              obtain ⟨kq, x88_40, rfl, HA, HJ40, HB⟩ := hcut
              cases kq with
              | zero => exact absurd HA.out (by simp [newellaw02_TokenTexts.j3])
              | succ kj40 =>
               have H := HA.out
               clear HA
               simp only [newellaw02_TokenTexts.j3] at H
               (try simp only [toList_lit] at H)
               by_cases c47 : x88_40 = true
               ·subst c47
                have H1 : (some false) = some r := by rw [if_pos rfl] at H; exact H
                clear H
                have H := H1
                clear H1
                exfalso
                obtain rfl := Option.some.inj H
                exact absurd hr_ (by decide)
               ·replace c47 := Bool.eq_false_iff.mpr c47
                subst c47
                have H1 : (newellaw02_TokenTexts.l1 kj40 (strOfNums x3_1) 0) = some r := by rw [if_neg (show ¬ (false = true) by decide)] at H; exact H
                clear H
                have H := H1
                clear H1
                have H' := Aside0.mk H
                clear H
                go_wp2
                go_loopg [7] kj40 (fun kq v7 w' => ∃ (x7_5 : Int), v7 = .int .i64 x7_5 ∧ Aside0 (newellaw02_TokenTexts.l1 kq (strOfNums x3_1) x7_5 = some r) ∧ Aside0 (kq ≤ kj40) ∧ Aside0 (Below w.heap.size w w'))
                case atStart => exact ⟨(0), (by first | rfl | (simp; done) | (simp [*]; done) | (simp; exact isEmpty_bne _)), H', ⟨Nat.le_refl _⟩, ⟨by repeat (first | (with_reducible first | exact HB.out | apply below_alloc | apply pw_below_drewN | apply below_drew1) | exact HB.out)⟩⟩
                case round =>
                 clear H'
                 try clear c1
                 try clear p1
                 try clear q1
                 try clear hx1
                 try clear c2
                 try clear p2
                 try clear q2
                 try clear hx2
                 try clear hcv2
                 try clear qi2
                 try clear c3
                 try clear c3b0
                 try clear c4
                 try clear c5
                 try clear c5b0
                 try clear c6
                 try clear c6b0
                 try clear p6
                 try clear p7
                 try clear q7
                 try clear hx7
                 try clear c9
                 try clear p10
                 try clear q10
                 try clear hx10
                 try clear c11
                 try clear c12
                 try clear c14
                 try clear c14b0
                 try clear c14b1
                 try clear c14b2
                 try clear c15
                 try clear c15b0
                 try clear c15b1
                 try clear c15b2
                 try clear c17
                 try clear c17b0
                 try clear c17b1
                 try clear c17b2
                 try clear c18
                 try clear c18b0
                 try clear c18b1
                 try clear c18b2
                 try clear c19
                 try clear hcv21
                 try clear c25
                 try clear p25
                 try clear q25
                 try clear hx25
                 try clear qi25
                 try clear c26
                 try clear c27
                 try clear c27b0
                 try clear c27b1
                 try clear c28
                 try clear c28b0
                 try clear c28b1
                 try clear c31
                 try clear c31b0
                 try clear c31b1
                 try clear c32
                 try clear c32b0
                 try clear c32b1
                 try clear c33
                 try clear c33b0
                 try clear c33b1
                 try clear c40
                 try clear c42
                 try clear c42b0
                 try clear c42b1
                 try clear c42b2
                 try clear c43
                 try clear c43b0
                 try clear c43b1
                 try clear c44
                 try clear c44b0
                 try clear c44b1
                 try clear c47
                 try clear hx250_0
                 try clear hx250_1
                 try clear hx250_2
                 try clear hx250_3
                 try clear hx250_4
                 try clear hx251_0
                 try clear hx251_1
                 try clear hx251_2
                 try clear hx251_3
                 try clear hx251_4
                 try clear hx252_0
                 try clear hx252_1
                 try clear hx253_0
                 try clear hx253_1
                 try clear hx253_2
                 try clear hx253_3
                 try clear hx253_4
                 try clear p1
                 try clear p10
                 try clear p2
                 try clear p25
                 try clear p250
                 try clear p251
                 try clear p252
                 try clear p253
                 try clear p6
                 try clear p7
                 try clear q1
                 try clear q10
                 try clear q2
                 try clear q25
                 try clear q250
                 try clear q251
                 try clear q252
                 try clear q253
                 try clear q7
                 obtain ⟨x7_5, rfl, HA, HK5, HB⟩ := hrel
                 cases gk with
                 | zero => exact absurd HA.out (by simp [newellaw02_TokenTexts.l1])
                 | succ k5 =>
                  have H := HA.out
                  clear HA
                  simp only [newellaw02_TokenTexts.l1] at H
                  (try simp only [toList_lit] at H)
                  by_cases c48 : (wrap64 (x7_5 + 2)) < ((strOfNums x3_1).size : Int)
                  ·rw [if_pos c48] at H
                   have c48b0 : decide ((wrap64 (x7_5 + 2)) < ((strOfNums x3_1).size : Int)) = true := decide_eq_true c48
                   clear c48
                   by_cases c49 : 0 ≤ x7_5
                   ·rw [if_pos c49] at H
                    have c49b0 := eq_true c49
                    have c49b1 : decide (0 ≤ x7_5) = true := decide_eq_true c49
                    clear c49
                    by_cases c50 : x7_5 ≤ (wrap64 (x7_5 + 3))
                    ·rw [if_pos c50] at H
                     have c50b0 := eq_true c50
                     have c50b1 : decide (x7_5 ≤ (wrap64 (x7_5 + 3))) = true := decide_eq_true c50
                     by_cases c51 : (wrap64 (x7_5 + 3)) ≤ ((strOfNums x3_1).size : Int)
                     ·rw [if_pos c51] at H
                      have c51b0 := eq_true c51
                      have c51b1 : decide ((wrap64 (x7_5 + 3)) ≤ ((strOfNums x3_1).size : Int)) = true := decide_eq_true c51
                      by_cases c52 : ((strOfNums x3_1).extract (x7_5 : Int).toNat ((wrap64 (x7_5 + 3)) : Int).toNat).toList = ([93, 93, 62] : List UInt8)
                      ·rw [if_pos c52] at H
                       have c52b0 : (((strOfNums x3_1).extract (x7_5 : Int).toNat ((wrap64 (x7_5 + 3)) : Int).toNat).toList == ([93, 93, 62] : List UInt8)) = true := beq_iff_eq.mpr c52
                       have c52b1 : (((strOfNums x3_1).extract (x7_5 : Int).toNat ((wrap64 (x7_5 + 3)) : Int).toNat).toList != ([93, 93, 62] : List UInt8)) = false := bne_eq_false_iff_eq.mpr c52
                       clear c52
                       obtain rfl := Option.some.inj H
                       go_wp2
                       go_ret
                       exact ⟨by first | rfl | (simp [errW_none, errW_some] <;> rfl) | (simp [*, errW_none, errW_some] <;> rfl), by repeat (first | (with_reducible first | exact HB.out | apply below_alloc | apply pw_below_drewN | apply below_drew1) | exact HB.out)⟩
                      ·rw [if_neg c52] at H
                       have c52b0 : (((strOfNums x3_1).extract (x7_5 : Int).toNat ((wrap64 (x7_5 + 3)) : Int).toNat).toList == ([93, 93, 62] : List UInt8)) = false := beq_eq_false_iff_ne.mpr c52
                       have c52b1 : (((strOfNums x3_1).extract (x7_5 : Int).toNat ((wrap64 (x7_5 + 3)) : Int).toNat).toList != ([93, 93, 62] : List UInt8)) = true := bne_iff_ne.mpr c52
                       have H' := Aside0.mk H
                       clear H
                       go_wp2
                       go_roundg k5
                       case measure => have := HK1.out; have := HJ1.out; have := HJ19.out; have := HJ40.out; have := HK5.out; omega
                       case rel => exact ⟨(wrap64 (x7_5 + 1)), (by first | rfl | (simp; done) | (simp [*]; done) | (simp; exact isEmpty_bne _)), H', ⟨by have := HK1.out; have := HJ1.out; have := HJ19.out; have := HJ40.out; have := HK5.out; omega⟩, ⟨by repeat (first | (with_reducible first | exact HB.out | apply below_alloc | apply pw_below_drewN | apply below_drew1) | exact HB.out)⟩⟩
                     ·rw [if_neg c51] at H
                      exact absurd H (by simp)
                    ·rw [if_neg c50] at H
                     exact absurd H (by simp)
                   ·rw [if_neg c49] at H
                    exact absurd H (by simp)
                  ·rw [if_neg c48] at H
                   have c48b0 : decide ((wrap64 (x7_5 + 2)) < ((strOfNums x3_1).size : Int)) = false := decide_eq_false c48
                   clear c48
                   by_cases c53 : 9 + (strOfNums x3_1).size ≤ 9223372036854775807
                   ·rw [if_pos c53] at H
                    have c53b0 := eq_true c53
                    have c53b1 : decide (9 + (strOfNums x3_1).size ≤ 9223372036854775807) = true := decide_eq_true c53
                    try have c53b2 : (9223372036854775807 < 9 + (strOfNums x3_1).size) = False := eq_false (Nat.not_lt.2 c53)
                    by_cases c54 : ((⟨#[60, 33, 91, 67, 68, 65, 84, 65, 91]⟩ : ByteArray) ++ (strOfNums x3_1)).size + 3 ≤ 9223372036854775807
                    ·rw [if_pos c54] at H
                     have c54b0 := eq_true c54
                     have c54b1 : decide (((⟨#[60, 33, 91, 67, 68, 65, 84, 65, 91]⟩ : ByteArray) ++ (strOfNums x3_1)).size + 3 ≤ 9223372036854775807) = true := decide_eq_true c54
                     try have c54b2 : (9223372036854775807 < ((⟨#[60, 33, 91, 67, 68, 65, 84, 65, 91]⟩ : ByteArray) ++ (strOfNums x3_1)).size + 3) = False := eq_false (Nat.not_lt.2 c54)
                     have c54n : (9 + (strOfNums x3_1).size) + 3 ≤ 9223372036854775807 := by have z_ := c54; simp only [ByteArray.size_append] at z_; exact z_
                     have c54m : (9223372036854775807 < (9 + (strOfNums x3_1).size) + 3) = False := eq_false (Nat.not_lt.2 c54n)
                     clear c54 c54b0 c54b1
                     try clear c54b2
                     replace H := Option.bind_eq_some_iff.mp H
                     obtain ⟨⟨t254, t255⟩, A550, H⟩ := H
                     replace H : (if t255 = 0 then (if (t254.length : Int) = 1 then (if 0 < (t254.length : Int) then (if ((rd_T32 t254 0).f2).toList = (strOfNums x3_1).toList then (some (((rd_T32 t254 0).f0) == 3)) else (some false)) else (none)) else (some false)) else (some false)) = some r := H
                     have A55 := Aside0.mk A550
                     clear A550
                     by_cases c56 : t255 = 0
                     ·rw [if_pos c56] at H
                      have c56b0 : (t255 == 0) = true := beq_iff_eq.mpr c56
                      have c56b1 : (t255 != 0) = false := bne_eq_false_iff_eq.mpr c56
                      clear c56
                      by_cases c57 : (t254.length : Int) = 1
                      ·rw [if_pos c57] at H
                       have c57b0 : ((t254.length : Int) == 1) = true := beq_iff_eq.mpr c57
                       have c57b1 : ((t254.length : Int) != 1) = false := bne_eq_false_iff_eq.mpr c57
                       clear c57
                       by_cases c58 : 0 < (t254.length : Int)
                       ·rw [if_pos c58] at H
                        have c58b0 : decide (0 < (t254.length : Int)) = true := decide_eq_true c58
                        have c58b1 : decide (0 < t254.length) = true := decide_eq_true (by omega)
                        clear c58
                        by_cases c59 : ((rd_T32 t254 0).f2).toList = (strOfNums x3_1).toList
                        ·rw [if_pos c59] at H
                         have c59b0 : (((rd_T32 t254 0).f2).toList == (strOfNums x3_1).toList) = true := beq_iff_eq.mpr c59
                         have c59b1 : (((rd_T32 t254 0).f2).toList != (strOfNums x3_1).toList) = false := bne_eq_false_iff_eq.mpr c59
                         clear c59
                         obtain rfl := Option.some.inj H
                         go_wp2_with (first | ((with_reducible refine gate_callee (f := 12) rfl ?_); refine goesL_ (some 106) rfl rfl Try.func12 (by kernel_rfl) rfl #[.string (((⟨#[60, 33, 91, 67, 68, 65, 84, 65, 91]⟩ : ByteArray) ++ (strOfNums x3_1)) ++ (⟨#[93, 93, 62]⟩ : ByteArray))] rfl (by (try simp only [List.map_toArray, List.map_cons, List.map_nil]); first | done | rfl | (simp only [List.length_drop, List.length_take]; rfl)) ?_; (with_reducible refine (token_Split.calls (((⟨#[60, 33, 91, 67, 68, 65, 84, 65, 91]⟩ : ByteArray) ++ (strOfNums x3_1)) ++ (⟨#[93, 93, 62]⟩ : ByteArray)) t254 t255 _ ?side1 A55.out).mono ?_); (case side1 => exact Glob.step HG.out (by repeat (first | (with_reducible first | exact HB.out | apply below_alloc | apply pw_below_drewN | apply below_drew1) | exact HB.out))); rintro e w60 ⟨v256, rfl, ho0, hb⟩; refine ⟨_, rfl, ?_⟩; have n0_ := Aside0.mk (Kd.S_lower ho0 (below_size (by repeat (first | (with_reducible first | exact HB.out | apply below_alloc | apply pw_below_drewN | apply below_drew1) | exact HB.out)))); have n1_ := Aside0.mk (below_step (by repeat (first | (with_reducible first | exact HB.out | apply below_alloc | apply pw_below_drewN | apply below_drew1) | exact HB.out)) hb); clear HB; have HO257 := n0_; have HB := n1_; clear n0_ n1_; (try clear hb); (try clear hb2); (try clear hk); (try clear hi); (try clear ho0); obtain ⟨Ao61, co61, eo61⟩ := Kd.S_slice HO257.out; subst eo61; have p258 : 0 ≤ (0 : Int) := (by omega); have q258 : 0 < (t254.length : Int) := of_decide_eq_true (by first | (with_reducible assumption) | assumption); obtain ⟨ad258, A258_3, c258_3, e258, hx258_0, hx258_1, hx258_2, hx258_3, hx258_4, hl258_3, hi258_3⟩ := at_T32 (Kd.S_reads' HO257.out).2.2 0 p258 q258; cases e258; obtain ⟨ce258, hce258, hMe258, hcc258⟩ := Kd.S_get HO257.out z32 0 p258 (by first | exact q258 | exact of_decide_eq_true (by first | (with_reducible assumption) | assumption) | (have e_ := (Kd.S_reads' HO257.out).1; omega)); obtain ⟨ve258_3, rfl, ge258_3⟩ := k32_openM hMe258; have hv258_3 := hcc258 3 _ rfl; rw [add_field _ _ 3 (by omega)] at hv258_3; replace hv258_3 := Option.some.inj (hv258_3.symm.trans hx258_3); rw [hv258_3] at ge258_3; have HL258_3 := Aside0.mk (show Kd.R k39 39 _ _ _ _ ((rd_T32 t254 0).f3) from ge258_3); clear hv258_3 ge258_3; clear hcc258 hce258; have qi258 : (0 < t254.length) = True := eq_true (by omega); (try rw [show ((0 : Int)).toNat = 0 from rfl] at hx258_0); (try rw [show 0 * 5 = 0 from rfl] at hx258_0); (try rw [Addr.add_zero'] at hx258_0); (try rw [show ((0 : Int)).toNat = 0 from rfl] at hx258_1); (try rw [show 0 * 5 = 0 from rfl] at hx258_1); (try rw [Addr.add_zero'] at hx258_1); (try rw [show ((0 : Int)).toNat = 0 from rfl] at hx258_2); (try rw [show 0 * 5 = 0 from rfl] at hx258_2); (try rw [Addr.add_zero'] at hx258_2); (try rw [show ((0 : Int)).toNat = 0 from rfl] at hx258_3); (try rw [show 0 * 5 = 0 from rfl] at hx258_3); (try rw [Addr.add_zero'] at hx258_3); (try rw [show ((0 : Int)).toNat = 0 from rfl] at hx258_4); (try rw [show 0 * 5 = 0 from rfl] at hx258_4); (try rw [Addr.add_zero'] at hx258_4); have HR258_3 := Aside0.mk hi258_3; have HC258_3 := Aside0.mk hl258_3; clear hi258_3 hl258_3; replace p258 := eq_true p258; replace q258 := eq_true q258; have p259 : 0 ≤ (0 : Int) := (by omega); have q259 : 0 < (t254.length : Int) := of_decide_eq_true (by first | (with_reducible assumption) | assumption); obtain ⟨ad259, A259_3, c259_3, e259, hx259_0, hx259_1, hx259_2, hx259_3, hx259_4, hl259_3, hi259_3⟩ := at_T32 (Kd.S_reads' HO257.out).2.2 0 p259 q259; obtain rfl : ad258 = ad259 := (by injection e259); obtain ⟨ce259, hce259, hMe259, hcc259⟩ := Kd.S_get HO257.out z32 0 p259 (by first | exact q259 | exact of_decide_eq_true (by first | (with_reducible assumption) | assumption) | (have e_ := (Kd.S_reads' HO257.out).1; omega)); obtain ⟨ve259_3, rfl, ge259_3⟩ := k32_openM hMe259; have hv259_3 := hcc259 3 _ rfl; rw [add_field _ _ 3 (by omega)] at hv259_3; replace hv259_3 := Option.some.inj (hv259_3.symm.trans hx259_3); rw [hv259_3] at ge259_3; have HL259_3 := Aside0.mk (show Kd.R k39 39 _ _ _ _ ((rd_T32 t254 0).f3) from ge259_3); clear hv259_3 ge259_3; clear hcc259 hce259; have qi259 : (0 < t254.length) = True := eq_true (by omega); (try rw [show ((0 : Int)).toNat = 0 from rfl] at hx259_0); (try rw [show 0 * 5 = 0 from rfl] at hx259_0); (try rw [Addr.add_zero'] at hx259_0); (try rw [show ((0 : Int)).toNat = 0 from rfl] at hx259_1); (try rw [show 0 * 5 = 0 from rfl] at hx259_1); (try rw [Addr.add_zero'] at hx259_1); (try rw [show ((0 : Int)).toNat = 0 from rfl] at hx259_2); (try rw [show 0 * 5 = 0 from rfl] at hx259_2); (try rw [Addr.add_zero'] at hx259_2); (try rw [show ((0 : Int)).toNat = 0 from rfl] at hx259_3); (try rw [show 0 * 5 = 0 from rfl] at hx259_3); (try rw [Addr.add_zero'] at hx259_3); (try rw [show ((0 : Int)).toNat = 0 from rfl] at hx259_4); (try rw [show 0 * 5 = 0 from rfl] at hx259_4); (try rw [Addr.add_zero'] at hx259_4); have HR259_3 := Aside0.mk hi259_3; have HC259_3 := Aside0.mk hl259_3; clear hi259_3 hl259_3; replace p259 := eq_true p259; replace q259 := eq_true q259; have ea_ := Option.some.inj (hx258_3.symm.trans hx259_3); injection ea_ with ea_ en_ ec_; subst ea_; subst ec_; clear en_))
                         go_ret
                         exact ⟨by first | rfl | (simp [errW_none, errW_some] <;> rfl) | (simp [*, errW_none, errW_some] <;> rfl), by repeat (first | (with_reducible first | exact HB.out | apply below_alloc | apply pw_below_drewN | apply below_drew1) | exact HB.out)⟩
                        ·rw [if_neg c59] at H
                         have c59b0 : (((rd_T32 t254 0).f2).toList == (strOfNums x3_1).toList) = false := beq_eq_false_iff_ne.mpr c59
                         have c59b1 : (((rd_T32 t254 0).f2).toList != (strOfNums x3_1).toList) = true := bne_iff_ne.mpr c59
                         exfalso
                         obtain rfl := Option.some.inj H
                         exact absurd hr_ (by decide)
                       ·rw [if_neg c58] at H
                        exact absurd H (by simp)
                      ·rw [if_neg c57] at H
                       have c57b0 : ((t254.length : Int) == 1) = false := beq_eq_false_iff_ne.mpr c57
                       have c57b1 : ((t254.length : Int) != 1) = true := bne_iff_ne.mpr c57
                       exfalso
                       obtain rfl := Option.some.inj H
                       exact absurd hr_ (by decide)
                     ·rw [if_neg c56] at H
                      have c56b0 : (t255 == 0) = false := beq_eq_false_iff_ne.mpr c56
                      have c56b1 : (t255 != 0) = true := bne_iff_ne.mpr c56
                      exfalso
                      obtain rfl := Option.some.inj H
                      exact absurd hr_ (by decide)
                    ·rw [if_neg c54] at H
                     exact absurd H (by simp)
                   ·rw [if_neg c53] at H
                    exact absurd H (by simp)
         ·rw [if_neg c18] at H
          exact absurd H (by simp)
        ·rw [if_neg c17] at H
         exact absurd H (by simp)
       ·rw [if_neg c15] at H
        exact absurd H (by simp)
      ·rw [if_neg c14] at H
       exact absurd H (by simp)

end Go.Proofs.Ytomikblbfappnaa.Q

namespace Go.Proofs.Ytomikblbfappnaa.Q
open Go.RowKit Go.Proofs.YtomikblbfappnaaW.PrintWords Go.Proofs.YtomikblbfappnaaW.PrintLast Go.Proofs.YtomikblbfappnaaW.Own Go.Proofs.YtomikblbfappnaaW.PrintMore
set_option linter.unusedVariables false
set_option linter.unusedSimpArgs false
namespace Rd
open Go Go.RowKit
def Opens {α : Type} (t : TypeId) (d : Kd α) (wf : α → Prop) (bulk : α → Nat) : Prop :=
  Try.prog.cellsOf t = d.sz ∧ ∀ (H : Type) (enc : TypeId × Value → H) (W : World) (fuel : Nat) (cs : List Value) (dd : DataW H) (ps : List MemPlace),
    DataW.trod enc Try.prog W 0 (fun _ => true) true fuel t cs = some (dd, ps) → ∃ x, d.K W x cs ∧ wf x ∧ bulk x ≤ Rows.uptoBulk dd
def OpensF {β : Type} (fs : List Field) (off : Nat) (d : Kd β) (wf : β → Prop) (bulk : β → Nat) : Prop :=
  ∀ (H : Type) (enc : TypeId × Value → H) (W : World) (n : Nat) (cs : List Value) (xs : List (DataW H × List MemPlace)), xs.length = fs.length →
    (∀ (i : Nat) (f : Field), fs[i]? = some f → DataW.trod enc Try.prog W 0 (fun _ => true) true n f.type ((cs.drop f.offset).take (Try.prog.cellsOf f.type)) = xs[i]?) → cs.length = off + d.sz →
    ∃ x, d.K W x (cs.drop off) ∧ wf x ∧ bulk x ≤ Rows.uptoBulkAll (xs.map (·.1))
theorem OpensF.cons {α β : Type} {f : Field} {fs : List Field} {off off' : Nat} {a : Kd α} {b : Kd β} {wf : α → Prop} {bulk : α → Nat} {wf' : β → Prop} {bulk' : β → Nat} (ho : f.offset = off) (ho' : off' = off + a.sz) (h : Opens f.type a wf bulk) (hr : OpensF fs off' b wf' bulk') :
    OpensF (f :: fs) off (Kd.pair a b) (fun x => wf x.1 ∧ wf' x.2) (fun x => bulk x.1 + bulk' x.2) := by
  intro H enc W n cs xs hl ht hc
  subst ho'
  obtain ⟨hsz, hop⟩ := h
  obtain ⟨x0, xs', rfl⟩ : ∃ x0 xs', xs = x0 :: xs' := by
    match xs, hl with
    | x0 :: xs', _ => exact ⟨x0, xs', rfl⟩
  have h0 := ht 0 f rfl
  rw [ho, hsz] at h0
  obtain ⟨x, hk, hw, hb⟩ := hop H enc W n _ _ _ h0
  have hc' : cs.length = off + a.sz + b.sz := by
    have e : (Kd.pair a b).sz = a.sz + b.sz := rfl
    rw [e] at hc
    omega
  obtain ⟨y, hk', hw', hb'⟩ := hr H enc W n cs xs' (by simpa using hl) (fun i g hg => by have := ht (i + 1) g (by simpa using hg); simpa using this) hc'
  refine ⟨(x, y), ⟨(cs.drop off).take a.sz, cs.drop (off + a.sz), ?_, hk, hk'⟩, ⟨hw, hw'⟩, ?_⟩
  · rw [← List.drop_drop, List.take_append_drop]
  · simp only [List.map_cons, Rows.uptoBulkAll]
    omega
theorem glob {W : World} (h : W.ShapedOpen Try.prog) : Glob W :=
  cell_of_shapedOpen_int (g := 0) (t := 3) (zero := #[.int .i64 0]) (k := .i64) h (of_decide_eq_true (by kernel_rfl)) (by kernel_rfl) rfl (by kernel_rfl) (by kernel_rfl) Try.underlying3
end Rd
end Go.Proofs.Ytomikblbfappnaa.Q

-- Printed by this session's wip/np.py over the kit's print program. Not trusted: Lean checks it.
namespace Go.Proofs.Ytomikblbfappnaa.Q
open Go.RowKit Go.Proofs.YtomikblbfappnaaW.PrintWords Go.Proofs.YtomikblbfappnaaW.PrintLast Go.Proofs.YtomikblbfappnaaW.Own Go.Proofs.YtomikblbfappnaaW.PrintMore
set_option linter.unusedVariables false
set_option linter.unusedSimpArgs false

/-- The pure statement of newellaw02_TokenTexts. -/
def newellaw02_TokenTexts.Pure : Prop := ∀ (a0 : ByteArray), (a0.size ≤ 140737488351232) → ∃ k, newellaw02_TokenTexts.f k a0 = some true
end Go.Proofs.Ytomikblbfappnaa.Q

namespace Go.Proofs.Ytomikblbfappnaa.Pure
open Go Go.RowKit Go.Proofs.Ytomikblbfappnaa.Q Go.Proofs.YtomikblbfappnaaW.PrintWords
theorem upto_split {c : UInt8} : ∀ {a b : List UInt8}, (∀ x ∈ a, x ≠ c) → Tk.upto [c] (a ++ c :: b) = some (a, b)
  | a, b, h => by
    have e : Lib.index (a ++ c :: b) [c] = (a.length : Int) := by
      refine Lib.index_first (by simp) ?_ ?_
      · unfold Lib.occAt
        rw [List.drop_left]
        simp [List.isPrefixOf]
      · intro j hj
        unfold Lib.occAt
        rw [List.drop_append_of_le_length (by omega), List.drop_eq_getElem_cons hj]
        simp only [List.cons_append, List.isPrefixOf, Bool.and_true]
        exact beq_eq_false_iff_ne.2 fun e => h _ (List.getElem_mem hj) e.symm
    unfold Tk.upto
    rw [e, if_pos (by omega), Int.toNat_natCast, List.take_left]
    congr 2
    rw [show a.length + [c].length = (a ++ [c]).length by simp, show a ++ c :: b = (a ++ [c]) ++ b by simp, List.drop_left]
theorem upto_no {c : UInt8} {a : List UInt8} (h : ∀ x ∈ a, x ≠ c) : Tk.upto [c] a = none := by
  have e : Lib.index a [c] = -1 := by
    refine Lib.index_none ?_
    intro j hj
    unfold Lib.occAt
    rcases Nat.lt_or_ge j a.length with hl | hl
    · rw [List.drop_eq_getElem_cons hl]
      simp only [List.isPrefixOf, Bool.and_true]
      exact beq_eq_false_iff_ne.2 fun e => h _ (List.getElem_mem hl) e.symm
    · rw [List.drop_eq_nil_of_le hl]; rfl
  unfold Tk.upto
  rw [e]; rfl
theorem part (c : UInt8) (l : List UInt8) : (∀ x ∈ l, x ≠ c) ∨ ∃ a b, l = a ++ c :: b ∧ ∀ x ∈ a, x ≠ c := by
  induction l with
  | nil => exact .inl fun x h => absurd h (by simp)
  | cons d l ih =>
    by_cases hd : d = c
    · exact .inr ⟨[], l, by rw [hd]; rfl, fun x h => absurd h (by simp)⟩
    · rcases ih with ih | ⟨a, b, e, ih⟩
      · refine .inl fun x hx => ?_
        rcases List.mem_cons.1 hx with rfl | hx
        · exact hd
        · exact ih x hx
      · refine .inr ⟨d :: a, b, by rw [e]; rfl, fun x hx => ?_⟩
        rcases List.mem_cons.1 hx with rfl | hx
        · exact hd
        · exact ih x hx
theorem ents_fuel : ∀ (n m : Nat) (l : List UInt8), l.length < n → l.length < m → Tk.ents n l = Tk.ents m l := by
  intro n
  induction n with
  | zero => intro m l h; omega
  | succ n ih =>
    intro m l h1 h2
    obtain ⟨m, rfl⟩ : ∃ k, m = k + 1 := ⟨m - 1, by omega⟩
    cases hu : Tk.upto [38] l with
    | none => rw [ents_none hu, ents_none hu]
    | some p =>
      obtain ⟨a, b⟩ := p
      have e1 := upto_sum hu
      cases hv : Tk.upto [59] b with
      | none => rw [ents_open hu hv, ents_open hu hv]
      | some q =>
        obtain ⟨x, r⟩ := q
        have e2 := upto_sum hv
        simp only [List.length_cons, List.length_nil] at e1 e2
        rw [ents_step hu hv, ents_step hu hv, ih m r (by omega) (by omega)]
theorem entities_fuel {n : Nat} {l : List UInt8} (h : l.length < n) : Tk.ents n l = Tk.entities l := ents_fuel _ _ _ h (Nat.lt_succ_self _)
theorem entities_plain (a t : List UInt8) (h : ∀ x ∈ a, x ≠ 38) : Tk.entities (a ++ t) = (Tk.entities t).map fun r => a ++ r := by
  rcases part 38 t with ht | ⟨p, q, rfl, hp⟩
  · have h1 : Tk.upto [38] (a ++ t) = none := upto_no fun x hx => by
      rcases List.mem_append.1 hx with hx | hx
      · exact h x hx
      · exact ht x hx
    unfold Tk.entities
    rw [ents_none h1, ents_none (upto_no ht)]
    rfl
  · have h1 : Tk.upto [38] (a ++ (p ++ 38 :: q)) = some (a ++ p, q) := by
      rw [← List.append_assoc]
      refine upto_split fun x hx => ?_
      rcases List.mem_append.1 hx with hx | hx
      · exact h x hx
      · exact hp x hx
    have h2 : Tk.upto [38] (p ++ 38 :: q) = some (p, q) := upto_split hp
    unfold Tk.entities
    cases hv : Tk.upto [59] q with
    | none => rw [ents_open h1 hv, ents_open h2 hv]; rfl
    | some s =>
      obtain ⟨x, r⟩ := s
      have e1 := upto_sum h1
      have e2 := upto_sum h2
      have e3 := upto_sum hv
      simp only [List.length_cons, List.length_nil] at e1 e2 e3
      rw [ents_step h1 hv, ents_step h2 hv, entities_fuel (by omega), entities_fuel (by omega)]
      cases Tk.entity x with
      | none => rfl
      | some c =>
        cases Tk.entities r with
        | none => rfl
        | some t => simp
theorem entities_amp (x c t : List UInt8) (h : ∀ y ∈ x, y ≠ 59) (hc : Tk.entity x = some c) : Tk.entities (38 :: (x ++ 59 :: t)) = (Tk.entities t).map fun r => c ++ r := by
  have h1 : Tk.upto [38] ([] ++ 38 :: (x ++ 59 :: t)) = some ([], x ++ 59 :: t) := upto_split fun y hy => absurd hy (by simp)
  have h2 : Tk.upto [59] (x ++ 59 :: t) = some (x, t) := upto_split h
  rw [List.nil_append] at h1
  unfold Tk.entities
  have e1 := upto_sum h1
  have e2 := upto_sum h2
  simp only [List.length_cons, List.length_nil] at e1 e2
  rw [ents_step h1 h2, hc, Option.bind_some, entities_fuel (by simp only [List.length_cons, List.length_append]; omega)]
  rfl
end Go.Proofs.Ytomikblbfappnaa.Pure

/- The plain law of TokenTexts, about the functions that the walks compute. -/
namespace Go.Proofs.Ytomikblbfappnaa.Pure
open Go Go.RowKit Go.Proofs.Ytomikblbfappnaa.Q Go.Proofs.YtomikblbfappnaaW.PrintWords
def nums_ (l : List UInt8) : List Int := l.map fun c => (c.toNat : Int)
theorem str_nums (l : List UInt8) : strOfNums (nums_ l) = Tk.bs l := by
  unfold strOfNums nums_ Tk.bs
  simp [Function.comp_def]
theorem bytesOf_nums (l : List UInt8) : bytesOf (Tk.bs l) = nums_ l := rfl
def esc1 (c : UInt8) : List UInt8 := if c = 38 then [38, 97, 109, 112, 59] else if c = 60 then [38, 108, 116, 59] else if c = 62 then [38, 103, 116, 59] else if c = 34 then [38, 113, 117, 111, 116, 59] else [c]
def esc : List UInt8 → List UInt8
  | [] => []
  | c :: r => esc1 c ++ esc r
theorem esc_app (a : List UInt8) : ∀ b, esc (a ++ b) = esc a ++ esc b := by
  induction a with
  | nil => intro b; rfl
  | cons c r ih => intro b; rw [List.cons_append, esc, esc, ih, List.append_assoc]
theorem esc1_len (c : UInt8) : (esc1 c).length ≤ 6 := by
  unfold esc1
  split
  · decide
  split
  · decide
  split
  · decide
  split
  · decide
  · simp
theorem esc_len (l : List UInt8) : (esc l).length ≤ 6 * l.length := by
  induction l with
  | nil => exact Nat.le_refl _
  | cons c r ih =>
    have := esc1_len c
    rw [esc, List.length_append, List.length_cons]
    omega
theorem esc1_facts : (List.range 256).all (fun n => (esc1 (UInt8.ofNat n)).all (fun c => c != 60 && c != 34 && c != 62) && (!Tk.allowed (UInt8.ofNat n) || (esc1 (UInt8.ofNat n)).all Tk.allowed)) = true := by kernel_rfl
theorem esc1_fact (c : UInt8) : (∀ d ∈ esc1 c, d ≠ 60 ∧ d ≠ 34 ∧ d ≠ 62) ∧ (Tk.allowed c = true → ∀ d ∈ esc1 c, Tk.allowed d = true) := by
  have := List.all_eq_true.1 esc1_facts c.toNat (List.mem_range.2 c.toNat_lt)
  rw [UInt8.ofNat_toNat, Bool.and_eq_true] at this
  obtain ⟨h1, h2⟩ := this
  refine ⟨fun d hd => ?_, fun ha d hd => ?_⟩
  · have := List.all_eq_true.1 h1 d hd
    simpa [and_assoc] using this
  · rw [ha, Bool.not_true, Bool.false_or] at h2
    exact List.all_eq_true.1 h2 d hd
theorem esc_fact (l : List UInt8) : (∀ d ∈ esc l, d ≠ 60 ∧ d ≠ 34 ∧ d ≠ 62) ∧ ((∀ c ∈ l, Tk.allowed c = true) → ∀ d ∈ esc l, Tk.allowed d = true) := by
  induction l with
  | nil => exact ⟨fun d h => absurd h (by simp [esc]), fun _ d h => absurd h (by simp [esc])⟩
  | cons c r ih =>
    refine ⟨fun d h => ?_, fun ha d h => ?_⟩
    · rcases List.mem_append.1 (show d ∈ esc1 c ++ esc r from h) with h | h
      · exact (esc1_fact c).1 d h
      · exact ih.1 d h
    · rcases List.mem_append.1 (show d ∈ esc1 c ++ esc r from h) with h | h
      · exact (esc1_fact c).2 (ha c (by simp)) d h
      · exact ih.2 (fun c hc => ha c (by simp [hc])) d h
theorem esc1_told (c : UInt8) (t : List UInt8) : Tk.entities (esc1 c ++ t) = (Tk.entities t).map fun r => [c] ++ r := by
  have amp : ∀ x c : List UInt8, (x.all fun y => y != 59) = true → Tk.entity x = some c → Tk.entities (38 :: (x ++ 59 :: t)) = (Tk.entities t).map fun r => c ++ r := fun x c h hc => entities_amp x c t (fun y hy => by simpa using List.all_eq_true.1 h y hy) hc
  unfold esc1
  split
  · rename_i h; subst h; exact amp [97, 109, 112] [38] (by decide) (by kernel_rfl)
  split
  · rename_i h; subst h; exact amp [108, 116] [60] (by decide) (by kernel_rfl)
  split
  · rename_i h; subst h; exact amp [103, 116] [62] (by decide) (by kernel_rfl)
  split
  · rename_i h; subst h; exact amp [113, 117, 111, 116] [34] (by decide) (by kernel_rfl)
  · rename_i h _ _ _
    exact entities_plain [c] t (fun x hx => by rw [List.mem_singleton] at hx; subst hx; exact h)
theorem esc_told (l t : List UInt8) : Tk.entities (esc l ++ t) = (Tk.entities t).map fun r => l ++ r := by
  induction l with
  | nil =>
    rw [esc, List.nil_append]
    cases Tk.entities t <;> rfl
  | cons c r ih =>
    rw [esc, List.append_assoc, esc1_told, ih]
    cases Tk.entities t with
    | none => rfl
    | some x => simp
theorem esc_back (l : List UInt8) : Tk.entities (esc l) = some l := by
  have := esc_told l []
  rw [List.append_nil, show Tk.entities [] = some [] from by kernel_rfl] at this
  rw [this]; simp
/-- The reference's Escape. -/
theorem escape_loop (l : List UInt8) (hl : l.length ≤ 10000) : ∀ (d i k : Nat) (a : List UInt8), i + d = l.length → a.length ≤ 6 * i → d < k → newelref01_Escape.l0 k (Tk.bs l) (nums_ a) (i : Int) = some (Tk.bs (a ++ esc (l.drop i))) := by
  intro d
  have hsz := bs_size l
  have nl : ∀ a : List UInt8, (nums_ a).length = a.length := fun a => by simp [nums_]
  have z1 : bytesOf (⟨#[38, 97, 109, 112, 59]⟩ : ByteArray) = nums_ [38, 97, 109, 112, 59] := rfl
  have z2 : bytesOf (⟨#[38, 108, 116, 59]⟩ : ByteArray) = nums_ [38, 108, 116, 59] := rfl
  have z3 : bytesOf (⟨#[38, 103, 116, 59]⟩ : ByteArray) = nums_ [38, 103, 116, 59] := rfl
  have z4 : bytesOf (⟨#[38, 113, 117, 111, 116, 59]⟩ : ByteArray) = nums_ [38, 113, 117, 111, 116, 59] := rfl
  have na : ∀ a b : List UInt8, nums_ a ++ nums_ b = nums_ (a ++ b) := fun a b => by simp [nums_]
  induction d with
  | zero =>
    intro i k a hi ha hk
    obtain ⟨k, rfl⟩ : ∃ m, k = m + 1 := ⟨k - 1, by omega⟩
    rw [newelref01_Escape.l0, hsz, if_neg (by omega), str_nums, List.drop_eq_nil_of_le (by omega), esc, List.append_nil]
  | succ d ih =>
    intro i k a hi ha hk
    obtain ⟨k, rfl⟩ : ∃ m, k = m + 1 := ⟨k - 1, by omega⟩
    have hlt : i < l.length := by omega
    have hw : wrap64 ((i : Int) + 1) = ((i + 1 : Nat) : Int) := by unfold wrap64; omega
    have hbt := bs_bt l i hlt
    have e1 : ∀ x, esc1 l[i] = x → a ++ esc (l.drop i) = (a ++ x) ++ esc (l.drop (i + 1)) := fun x hx => by
      rw [List.drop_eq_getElem_cons hlt, esc, hx, List.append_assoc]
    have ec : (l[i] = 38 ∨ l[i] = 60 ∨ l[i] = 62 ∨ l[i] = 34) ∨ (l[i] ≠ 38 ∧ l[i] ≠ 60 ∧ l[i] ≠ 62 ∧ l[i] ≠ 34) := by
      by_cases h1 : l[i] = 38
      · exact .inl (.inl h1)
      by_cases h2 : l[i] = 60
      · exact .inl (.inr (.inl h2))
      by_cases h3 : l[i] = 62
      · exact .inl (.inr (.inr (.inl h3)))
      by_cases h4 : l[i] = 34
      · exact .inl (.inr (.inr (.inr h4)))
      · exact .inr ⟨h1, h2, h3, h4⟩
    rw [newelref01_Escape.l0, hsz, if_pos (by omega), if_pos (by omega), hbt, hw, z1, z2, z3, z4]
    have al := nl a
    rcases ec with (h | h | h | h) | ⟨h1, h2, h3, h4⟩
    · rw [e1 _ (by rw [h]), h, if_pos (by decide), if_pos (by omega), na]
      exact ih (i + 1) k _ (by omega) (by rw [List.length_append]; simp only [List.length_cons, List.length_nil]; omega) (by omega)
    · rw [e1 _ (by rw [h]), h, if_neg (by decide), if_pos (by decide), if_pos (by omega), na]
      exact ih (i + 1) k _ (by omega) (by rw [List.length_append]; simp only [List.length_cons, List.length_nil]; omega) (by omega)
    · rw [e1 _ (by rw [h]), h, if_neg (by decide), if_neg (by decide), if_pos (by decide), if_pos (by omega), na]
      exact ih (i + 1) k _ (by omega) (by rw [List.length_append]; simp only [List.length_cons, List.length_nil]; omega) (by omega)
    · rw [e1 _ (by rw [h]), h, if_neg (by decide), if_neg (by decide), if_neg (by decide), if_pos (by decide), if_pos (by omega), na]
      exact ih (i + 1) k _ (by omega) (by rw [List.length_append]; simp only [List.length_cons, List.length_nil]; omega) (by omega)
    · have n1 : ¬ ((l[i].toNat : Int) = 38) := fun he => h1 (UInt8.toNat_inj.1 (by show l[i].toNat = 38; omega))
      have n2 : ¬ ((l[i].toNat : Int) = 60) := fun he => h2 (UInt8.toNat_inj.1 (by show l[i].toNat = 60; omega))
      have n3 : ¬ ((l[i].toNat : Int) = 62) := fun he => h3 (UInt8.toNat_inj.1 (by show l[i].toNat = 62; omega))
      have n4 : ¬ ((l[i].toNat : Int) = 34) := fun he => h4 (UInt8.toNat_inj.1 (by show l[i].toNat = 34; omega))
      rw [e1 [l[i]] (by unfold esc1; rw [if_neg h1, if_neg h2, if_neg h3, if_neg h4])]
      rw [if_neg n1, if_neg n2, if_neg n3, if_neg n4, if_pos (by omega)]
      rw [show [((l[i].toNat : Nat) : Int)] = nums_ [l[i]] from rfl, na]
      exact ih (i + 1) k _ (by omega) (by rw [List.length_append]; simp only [List.length_cons, List.length_nil]; omega) (by omega)
theorem escape_told (l : List UInt8) (hl : l.length ≤ 10000) (k : Nat) (hk : l.length < k) : newelref01_Escape.f k (Tk.bs l) = some (Tk.bs (esc l)) := by
  have := escape_loop l hl l.length 0 k [] (by omega) (by decide) hk
  rw [List.drop_zero, List.nil_append] at this
  exact this
theorem ref_allowed (c : UInt8) : newelref01_Allowed.f (c.toNat : Int) = some (Tk.allowed c) := Tk.bytes_all (by kernel_rfl) c

theorem split_told (x : List UInt8) (r : List S32 × Int) (hl : x.length ≤ 100000) (h : Tk.split x = r) : token_Split.f (Tk.bs x) = some r := by
  unfold token_Split.f
  rw [if_pos (by rw [bs_size]; omega)]
  show some (Tk.split x) = _
  rw [h]
theorem split_pieces (x : List UInt8) (l : List S32) (hl : x.length ≤ 20000) (ha : ∀ c ∈ x, Tk.allowed c = true) (h : Tk.pieces (x.length + 1) true x = some l) : Tk.split x = (l, 0) := by
  unfold Tk.split
  have hno : x.any (fun c => !Tk.allowed c) = false := by
    rw [Bool.eq_false_iff]
    intro h
    obtain ⟨c, hc, h⟩ := List.any_eq_true.1 h
    rw [ha c hc] at h
    exact absurd h (by decide)
  rw [if_neg (by omega), hno, if_neg (by decide), h]
theorem tw_app (a x : List UInt8) (h : ∀ c ∈ a, c ≠ 60) : (a ++ 60 :: x).takeWhile (· != 60) = a := by
  induction a with
  | nil => rfl
  | cons d a ih => rw [List.cons_append, List.takeWhile_cons, if_pos (by simpa using h d (by simp)), ih (fun c hc => h c (by simp [hc]))]
theorem index_no {c : UInt8} {a : List UInt8} (h : ∀ x ∈ a, x ≠ c) : ¬ 0 ≤ Lib.index a [c] := by
  have := upto_no h
  unfold Tk.upto at this
  split at this
  · cases this
  · assumption
theorem end_piece (K : Nat) : Tk.pieces (K + 2) false [60, 47, 97, 62] = some [Tk.tk 2 [97] [] [] false] := by
  have h1 : Tk.next false [60, 47, 97, 62] = some (Tk.tk 2 [97] [] [] false, []) := by kernel_rfl
  rw [Tk.pieces, if_neg (by decide), h1, Option.bind_some, Tk.pieces, if_pos rfl]
  rfl
theorem open_piece (s : List UInt8) (x : List UInt8) : Tk.next true ([60, 97, 32, 98, 61, 34] ++ esc s ++ [34, 62] ++ x) = some (Tk.tk 1 [97] [] [Tk.at_ [98] s] false, x) := by
  have e : [60, 97, 32, 98, 61, 34] ++ esc s ++ [34, 62] ++ x = 60 :: 97 :: 32 :: 98 :: 61 :: 34 :: (esc s ++ 34 :: (62 :: x)) := by simp
  rw [e]
  have b1 : ∀ y : List UInt8, Tk.behind [60, 33, 45, 45] (60 :: 97 :: y) = none := fun y => by unfold Tk.behind; rw [if_neg (by simp [List.isPrefixOf])]
  have b2 : ∀ y : List UInt8, Tk.behind [60, 33, 91, 67, 68, 65, 84, 65, 91] (60 :: 97 :: y) = none := fun y => by unfold Tk.behind; rw [if_neg (by simp [List.isPrefixOf])]
  have b3 : ∀ y : List UInt8, Tk.behind [60, 63] (60 :: 97 :: y) = none := fun y => by unfold Tk.behind; rw [if_neg (by simp [List.isPrefixOf])]
  have b4 : ∀ y : List UInt8, Tk.behind [60, 47] (60 :: 97 :: y) = none := fun y => by unfold Tk.behind; rw [if_neg (by simp [List.isPrefixOf])]
  have b5 : ∀ y : List UInt8, Tk.behind [60] (60 :: 97 :: y) = some (97 :: y) := fun y => by unfold Tk.behind; rw [if_pos (by simp [List.isPrefixOf])]; rfl
  unfold Tk.next
  simp only [b1, b2, b3, b4, b5]
  have hh : ∀ y : List UInt8, Tk.head (97 :: 32 :: y) = [97] := fun y => rfl
  unfold Tk.opening
  rw [hh, if_neg (by decide)]
  have hd : (97 :: 32 :: 98 :: 61 :: 34 :: (esc s ++ 34 :: (62 :: x))).drop ([97] : List UInt8).length = 32 :: 98 :: 61 :: 34 :: (esc s ++ 34 :: (62 :: x)) := rfl
  rw [hd]
  obtain ⟨K, hK⟩ : ∃ K, (97 :: 32 :: 98 :: 61 :: 34 :: (esc s ++ 34 :: (62 :: x))).length + 1 = K + 2 := ⟨(32 :: 98 :: 61 :: 34 :: (esc s ++ 34 :: (62 :: x))).length, by simp⟩
  rw [hK, Tk.attrs]
  have s1 : Tk.skip (32 :: 98 :: 61 :: 34 :: (esc s ++ 34 :: (62 :: x))) = 98 :: 61 :: 34 :: (esc s ++ 34 :: (62 :: x)) := rfl
  have n1 : ∀ y : List UInt8, Tk.behind [62] (98 :: y) = none := fun y => by unfold Tk.behind; rw [if_neg (by simp [List.isPrefixOf])]
  have n2 : ∀ y : List UInt8, Tk.behind [47, 62] (98 :: y) = none := fun y => by unfold Tk.behind; rw [if_neg (by simp [List.isPrefixOf])]
  simp only [s1, n1, n2]
  rw [if_neg (by simp only [List.length_cons]; omega)]
  have hat : Tk.attr (98 :: 61 :: 34 :: (esc s ++ 34 :: (62 :: x))) = some (Tk.at_ [98] s, 62 :: x) := by
    unfold Tk.attr
    have h2 : Tk.head (98 :: 61 :: 34 :: (esc s ++ 34 :: (62 :: x))) = [98] := rfl
    rw [h2, if_neg (by decide)]
    have d2 : Tk.skip ((98 :: 61 :: 34 :: (esc s ++ 34 :: (62 :: x))).drop ([98] : List UInt8).length) = 61 :: 34 :: (esc s ++ 34 :: (62 :: x)) := rfl
    have e2 : ∀ y : List UInt8, Tk.behind [61] (61 :: y) = some y := fun y => by unfold Tk.behind; rw [if_pos (by simp [List.isPrefixOf])]; rfl
    have s2 : Tk.skip (34 :: (esc s ++ 34 :: (62 :: x))) = 34 :: (esc s ++ 34 :: (62 :: x)) := rfl
    rw [d2, e2, Option.bind_some, s2]
    have hv : Tk.value (34 :: (esc s ++ 34 :: (62 :: x))) = some (s, 62 :: x) := by
      unfold Tk.value
      rw [if_pos (by simp [List.isPrefixOf])]
      dsimp only
      have e3 : ∀ y : List UInt8, Tk.behind [34] (34 :: y) = some y := fun y => by unfold Tk.behind; rw [if_pos (by simp [List.isPrefixOf])]; rfl
      rw [e3, Option.bind_some, upto_split (fun d hd => ((esc_fact s).1 d hd).2.1), Option.bind_some]
      dsimp only
      rw [if_neg (index_no fun d hd => ((esc_fact s).1 d hd).1), esc_back]
      rfl
    rw [hv]; rfl
  rw [hat, Option.bind_some, List.any_nil, if_neg (by decide), Tk.attrs]
  have s3 : Tk.skip (62 :: x) = 62 :: x := rfl
  have e4 : Tk.behind [62] (62 :: x) = some x := by unfold Tk.behind; rw [if_pos (by simp [List.isPrefixOf])]; rfl
  simp only [s3, e4]
  rfl
theorem text_piece (a x r : List UInt8) (fst : Bool) (hne : a ≠ []) (h : ∀ c ∈ a, c ≠ 60) (hr : Tk.entities a = some r) : Tk.next fst (a ++ 60 :: x) = some (Tk.tk 3 [] r [] false, 60 :: x) := by
  cases a with
  | nil => exact absurd rfl hne
  | cons c q =>
    have hc : c ≠ 60 := h c (by simp)
    have nb : ∀ y : List UInt8, ∀ z, Tk.behind (60 :: y) (c :: q ++ z) = none := fun y z => by
      unfold Tk.behind
      rw [if_neg]
      simp only [List.cons_append, List.isPrefixOf, Bool.and_eq_true, beq_iff_eq]
      intro hh
      exact hc hh.1.symm
    unfold Tk.next
    simp only [nb]
    unfold Tk.text
    dsimp only
    rw [tw_app _ _ h, hr, Option.map_some, List.drop_left]
theorem told_texts (s : List UInt8) (hl : s.length ≤ 300) (ha : ∀ c ∈ s, Tk.allowed c = true) : Tk.split ([60, 97, 32, 98, 61, 34] ++ esc s ++ [34, 62] ++ esc s ++ [60, 47, 97, 62]) = (if s = [] then [Tk.tk 1 [97] [] [Tk.at_ [98] s] false, Tk.tk 2 [97] [] [] false] else [Tk.tk 1 [97] [] [Tk.at_ [98] s] false, Tk.tk 3 [] s [] false, Tk.tk 2 [97] [] [] false], 0) := by
  have hel := esc_len s
  have hea := (esc_fact s).2 ha
  refine split_pieces _ _ (by simp only [List.length_append, List.length_cons, List.length_nil]; omega) (fun c hc => ?_) ?_
  · simp only [List.mem_append] at hc
    rcases hc with (((hc | hc) | hc) | hc) | hc
    · exact (by decide : ∀ c ∈ ([60, 97, 32, 98, 61, 34] : List UInt8), Tk.allowed c = true) c hc
    · exact hea c hc
    · exact (by decide : ∀ c ∈ ([34, 62] : List UInt8), Tk.allowed c = true) c hc
    · exact hea c hc
    · exact (by decide : ∀ c ∈ ([60, 47, 97, 62] : List UInt8), Tk.allowed c = true) c hc
  · obtain ⟨K, hK⟩ : ∃ K, ([60, 97, 32, 98, 61, 34] ++ esc s ++ [34, 62] ++ esc s ++ [60, 47, 97, 62]).length + 1 = K + 4 := ⟨([60, 97, 32, 98, 61, 34] ++ esc s ++ [34, 62] ++ esc s ++ [60, 47, 97, 62]).length - 3, by simp only [List.length_append, List.length_cons, List.length_nil]; omega⟩
    rw [hK, Tk.pieces, if_neg (by simp), List.append_assoc _ (esc s) [60, 47, 97, 62], open_piece, Option.bind_some]
    dsimp only
    by_cases hs : s = []
    · subst hs
      rw [if_pos rfl, esc, List.nil_append, end_piece]
      rfl
    · rw [if_neg hs]
      have hne : esc s ≠ [] := by
        intro h0
        have := esc_back s
        rw [h0, show Tk.entities [] = some [] from by kernel_rfl] at this
        exact hs (Option.some.inj this).symm
      rw [Tk.pieces, if_neg (by simp), text_piece (esc s) [47, 97, 62] s false hne (fun d hd => ((esc_fact s).1 d hd).1) (esc_back s), Option.bind_some]
      dsimp only
      rw [end_piece]
      rfl
/-- Where the three signs that end a CDATA stand. -/
def no3 (s : List UInt8) (i : Nat) : Prop := ∀ j, j < i → j + 2 < s.length → (s.drop j).take 3 ≠ [93, 93, 62]
theorem upto_data (s : List UInt8) (h : no3 s s.length) : Tk.upto [93, 93, 62] (s ++ [93, 93, 62]) = some (s, []) := by
  have e : Lib.index (s ++ [93, 93, 62]) [93, 93, 62] = (s.length : Int) := by
    refine Lib.index_first (by simp) ?_ ?_
    · unfold Lib.occAt
      rw [List.drop_left]
      decide
    · intro j hj
      unfold Lib.occAt
      rw [Bool.eq_false_iff]
      intro hp
      obtain ⟨t, ht⟩ := List.isPrefixOf_iff_prefix.1 hp
      have h3 : ((s ++ [93, 93, 62]).drop j).take 3 = [93, 93, 62] := by rw [← ht]; rfl
      by_cases h1 : j + 2 < s.length
      · refine h j hj h1 ?_
        rw [List.drop_append_of_le_length (by omega), List.take_append_of_le_length (by rw [List.length_drop]; omega)] at h3
        exact h3
      · have h2 : (s ++ [93, 93, 62])[j + 2]? = some 62 := by
          have := congrArg (fun l => l[2]?) h3
          simpa using this
        rw [List.getElem?_append_right (by omega)] at h2
        have : j + 2 - s.length = 0 ∨ j + 2 - s.length = 1 := by omega
        rcases this with e | e <;> rw [e] at h2 <;> exact absurd h2 (by decide)
  unfold Tk.upto
  rw [e, if_pos (by omega), Int.toNat_natCast, List.take_left]
  congr 2
  rw [List.drop_eq_nil_of_le (by simp)]
theorem told_data (s : List UInt8) (hl : s.length ≤ 300) (ha : ∀ c ∈ s, Tk.allowed c = true) (h : no3 s s.length) : Tk.split ([60, 33, 91, 67, 68, 65, 84, 65, 91] ++ s ++ [93, 93, 62]) = ([Tk.tk 3 [] s [] false], 0) := by
  refine split_pieces _ _ (by simp only [List.length_append, List.length_cons, List.length_nil]; omega) (fun c hc => ?_) ?_
  · simp only [List.mem_append] at hc
    rcases hc with (hc | hc) | hc
    · exact (by decide : ∀ c ∈ ([60, 33, 91, 67, 68, 65, 84, 65, 91] : List UInt8), Tk.allowed c = true) c hc
    · exact ha c hc
    · exact (by decide : ∀ c ∈ ([93, 93, 62] : List UInt8), Tk.allowed c = true) c hc
  · obtain ⟨K, hK⟩ : ∃ K, ([60, 33, 91, 67, 68, 65, 84, 65, 91] ++ s ++ [93, 93, 62]).length + 1 = K + 2 := ⟨([60, 33, 91, 67, 68, 65, 84, 65, 91] ++ s ++ [93, 93, 62]).length - 1, by simp only [List.length_append, List.length_cons, List.length_nil]; omega⟩
    rw [hK, Tk.pieces, if_neg (by simp)]
    have b1 : Tk.behind [60, 33, 45, 45] ([60, 33, 91, 67, 68, 65, 84, 65, 91] ++ s ++ [93, 93, 62]) = none := by unfold Tk.behind; rw [if_neg (by simp [List.isPrefixOf])]
    have b2 : Tk.behind [60, 33, 91, 67, 68, 65, 84, 65, 91] ([60, 33, 91, 67, 68, 65, 84, 65, 91] ++ s ++ [93, 93, 62]) = some (s ++ [93, 93, 62]) := by
      unfold Tk.behind
      rw [List.append_assoc, if_pos (List.isPrefixOf_iff_prefix.2 ⟨_, rfl⟩), List.drop_left]
    have hn : Tk.next true ([60, 33, 91, 67, 68, 65, 84, 65, 91] ++ s ++ [93, 93, 62]) = some (Tk.tk 3 [] s [] false, []) := by
      unfold Tk.next
      simp only [b1, b2]
      unfold Tk.data
      rw [upto_data s h]
      rfl
    rw [hn, Option.bind_some]
    dsimp only
    rw [Tk.pieces, if_pos rfl]
    rfl
theorem awake02 : newellaw02_awake.f = some true := by kernel_rfl
theorem bs_ext {a b : ByteArray} (h : a.data.toList = b.data.toList) : a = b := by rw [← bs_data a, ← bs_data b, h]
/-- The last loop: does the text hold what ends a CDATA? -/
theorem data_loop (s : List UInt8) (hl : s.length ≤ 300) (ha : ∀ c ∈ s, Tk.allowed c = true) : ∀ (d i k : Nat), i + d = s.length → no3 s i → d < k → newellaw02_TokenTexts.l1 k (Tk.bs s) (i : Int) = some true := by
  intro d
  have hsz := bs_size s
  have z1 : (⟨#[60, 33, 91, 67, 68, 65, 84, 65, 91]⟩ : ByteArray) = Tk.bs [60, 33, 91, 67, 68, 65, 84, 65, 91] := rfl
  have z2 : (⟨#[93, 93, 62]⟩ : ByteArray) = Tk.bs [93, 93, 62] := rfl
  have fin : no3 s s.length → (if 9 + s.length ≤ 9223372036854775807 then (if ((⟨#[60, 33, 91, 67, 68, 65, 84, 65, 91]⟩ : ByteArray) ++ Tk.bs s).size + 3 ≤ 9223372036854775807 then ((token_Split.f (((⟨#[60, 33, 91, 67, 68, 65, 84, 65, 91]⟩ : ByteArray) ++ Tk.bs s) ++ (⟨#[93, 93, 62]⟩ : ByteArray))).bind fun bt254 => (if bt254.2 = 0 then (if (bt254.1.length : Int) = 1 then (if 0 < (bt254.1.length : Int) then (if ((rd_T32 bt254.1 0).f2).toList = (Tk.bs s).toList then (some (((rd_T32 bt254.1 0).f0) == 3)) else (some false)) else (none)) else (some false)) else (some false))) else (none)) else (none)) = some true := by
    intro h3
    have f1 := split_told _ _ (by simp only [List.length_cons, List.length_append, List.length_nil]; omega) (told_data s hl ha h3)
    rw [z1, z2, bs_append, bs_append, if_pos (by omega), if_pos (by rw [bs_size]; simp only [List.length_cons, List.length_append, List.length_nil]; omega), f1, Option.bind_some, if_pos rfl, if_pos (by rfl), if_pos (by simp)]
    have hr : rd_T32 ([Tk.tk 3 [] s [] false], (0 : Int)).1 0 = Tk.tk 3 [] s [] false := rfl
    rw [hr, if_pos (show (Tk.tk 3 [] s [] false).f2.toList = (Tk.bs s).toList from rfl)]
    rfl
  induction d with
  | zero =>
    intro i k hi h3 hk
    obtain ⟨k, rfl⟩ : ∃ m, k = m + 1 := ⟨k - 1, by omega⟩
    have hw2 : wrap64 ((i : Int) + 2) = ((i + 2 : Nat) : Int) := by unfold wrap64; omega
    rw [newellaw02_TokenTexts.l1, hw2, hsz, if_neg (by omega)]
    exact fin (by rwa [show s.length = i by omega])
  | succ d ih =>
    intro i k hi h3 hk
    obtain ⟨k, rfl⟩ : ∃ m, k = m + 1 := ⟨k - 1, by omega⟩
    have hw1 : wrap64 ((i : Int) + 1) = ((i + 1 : Nat) : Int) := by unfold wrap64; omega
    have hw2 : wrap64 ((i : Int) + 2) = ((i + 2 : Nat) : Int) := by unfold wrap64; omega
    have hw3 : wrap64 ((i : Int) + 3) = ((i + 3 : Nat) : Int) := by unfold wrap64; omega
    rw [newellaw02_TokenTexts.l1, hw1, hw2, hw3, hsz]
    by_cases h2 : i + 2 < s.length
    · rw [if_pos (by omega), if_pos (by omega), if_pos (by omega), if_pos (by omega)]
      have hex : ((Tk.bs s).extract ((i : Int)).toNat (((i + 3 : Nat) : Int)).toNat).toList = (s.drop i).take 3 := by
        rw [Lib.toList_data, Lib.extract_data, Int.toNat_natCast, Int.toNat_natCast, show i + 3 - i = 3 by omega]
        rfl
      rw [hex]
      by_cases h4 : (s.drop i).take 3 = [93, 93, 62]
      · rw [if_pos h4]
      · rw [if_neg h4]
        refine ih (i + 1) k (by omega) (fun j hj hj2 => ?_) (by omega)
        rcases Nat.lt_or_ge j i with hji | hji
        · exact h3 j hji hj2
        · rw [show j = i by omega]; exact h4
    · rw [if_neg (by omega)]
      refine fin (fun j hj hj2 => h3 j (by omega) hj2)
/-- Behind the text's copy. -/
theorem texts_last (s : List UInt8) (hl : s.length ≤ 300) (ha : ∀ c ∈ s, Tk.allowed c = true) (k : Nat) (hk : 400 ≤ k) : newellaw02_TokenTexts.j2 k (Tk.bs s) (if s = [] then [Tk.tk 1 [97] [] [Tk.at_ [98] s] false, Tk.tk 2 [97] [] [] false] else [Tk.tk 1 [97] [] [Tk.at_ [98] s] false, Tk.tk 3 [] s [] false, Tk.tk 2 [97] [] [] false]) false = some true := by
  obtain ⟨k, rfl⟩ : ∃ m, k = m + 2 := ⟨k - 2, by omega⟩
  have go : newellaw02_TokenTexts.j3 (k + 1) (Tk.bs s) false = some true := by
    rw [newellaw02_TokenTexts.j3, if_neg (by decide)]
    exact data_loop s hl ha s.length 0 k (by omega) (fun j hj => absurd hj (by omega)) (by omega)
  rw [newellaw02_TokenTexts.j2, if_neg (by decide), bs_toList]
  by_cases hs : s = []
  · rw [if_pos hs]; exact go
  · rw [if_neg hs, if_neg hs, if_pos (by rfl), if_pos (by simp)]
    have hr : rd_T32 [Tk.tk 1 [97] [] [Tk.at_ [98] s] false, Tk.tk 3 [] s [] false, Tk.tk 2 [97] [] [] false] 1 = Tk.tk 3 [] s [] false := rfl
    rw [hr, show (Tk.tk 3 [] s [] false).f2.toList = s from bs_toList s, show (s != s) = false by simp]
    exact go
theorem copy_loop (x : List UInt8) (hx : x.length ≤ 140737488351232) : ∀ (d i : Nat) (s : List UInt8) (k : Nat), i + d = min x.length 300 → s.length ≤ i → (∀ c ∈ s, Tk.allowed c = true) → 2 * d + 500 ≤ k → newellaw02_TokenTexts.l0 k (Tk.bs x) (nums_ s) (i : Int) = some true := by
  intro d
  have hsz := bs_size x
  have nl : ∀ a : List UInt8, (nums_ a).length = a.length := fun a => by simp [nums_]
  have z1 : (⟨#[60, 97, 32, 98, 61, 34]⟩ : ByteArray) = Tk.bs [60, 97, 32, 98, 61, 34] := rfl
  have z2 : (⟨#[34, 62]⟩ : ByteArray) = Tk.bs [34, 62] := rfl
  have z3 : (⟨#[60, 47, 97, 62]⟩ : ByteArray) = Tk.bs [60, 47, 97, 62] := rfl
  have last : ∀ (s : List UInt8) (k i : Nat), s.length ≤ 300 → (∀ c ∈ s, Tk.allowed c = true) → 450 ≤ k → newellaw02_TokenTexts.j1 k (Tk.bs x) (nums_ s) (i : Int) false = some true := by
    intro s k i hs ha hk
    obtain ⟨k, rfl⟩ : ∃ m, k = m + 1 := ⟨k - 1, by omega⟩
    have hel := esc_len s
    have f1 := split_told _ _ (by simp only [List.length_cons, List.length_append, List.length_nil]; omega) (told_texts s hs ha)
    rw [newellaw02_TokenTexts.j1, if_neg (by decide), str_nums, escape_told s (by omega) k (by omega), Option.bind_some, Option.bind_some, z1, z2, z3]
    simp only [bs_append]
    have s1 : ∀ l : List UInt8, (Tk.bs l).size = l.length := bs_size
    simp only [s1, List.length_append, List.length_cons, List.length_nil]
    rw [if_pos (by omega), if_pos (by omega), if_pos (by omega), if_pos (by omega), f1, Option.bind_some, awake02, Option.bind_some, if_pos rfl, if_pos rfl]
    have tl := texts_last s hs ha k (by omega)
    by_cases hs0 : s = []
    · rw [if_pos hs0] at tl ⊢
      rw [if_neg (by simp), if_pos (by simp)]
      have hr : rd_T32 ([Tk.tk 1 [97] [] [Tk.at_ [98] s] false, Tk.tk 2 [97] [] [] false], (0 : Int)).1 0 = Tk.tk 1 [97] [] [Tk.at_ [98] s] false := rfl
      rw [hr, if_pos (by rfl), if_pos (show (0 : Int) < (((Tk.tk 1 [97] [] [Tk.at_ [98] s] false).f3.length : Nat) : Int) from Int.zero_lt_one)]
      rw [show ((rd_T39 (Tk.tk 1 [97] [] [Tk.at_ [98] s] false).f3 0).f1).toList = (Tk.bs s).toList from rfl, show ((Tk.bs s).toList != (Tk.bs s).toList) = false by simp]
      exact tl
    · rw [if_neg hs0] at tl ⊢
      rw [if_neg (by simp), if_pos (by simp)]
      have hr : rd_T32 ([Tk.tk 1 [97] [] [Tk.at_ [98] s] false, Tk.tk 3 [] s [] false, Tk.tk 2 [97] [] [] false], (0 : Int)).1 0 = Tk.tk 1 [97] [] [Tk.at_ [98] s] false := rfl
      rw [hr, if_pos (by rfl), if_pos (show (0 : Int) < (((Tk.tk 1 [97] [] [Tk.at_ [98] s] false).f3.length : Nat) : Int) from Int.zero_lt_one)]
      rw [show ((rd_T39 (Tk.tk 1 [97] [] [Tk.at_ [98] s] false).f3 0).f1).toList = (Tk.bs s).toList from rfl, show ((Tk.bs s).toList != (Tk.bs s).toList) = false by simp]
      exact tl
  induction d with
  | zero =>
    intro i s k hi hs ha hk
    obtain ⟨k, rfl⟩ : ∃ m, k = m + 1 := ⟨k - 1, by omega⟩
    rw [newellaw02_TokenTexts.l0, hsz]
    by_cases h : i < x.length
    · rw [if_pos (by omega), decide_eq_false (by omega)]
      exact last s k i (by omega) ha (by omega)
    · rw [if_neg (by omega)]
      exact last s k i (by omega) ha (by omega)
  | succ d ih =>
    intro i s k hi hs ha hk
    obtain ⟨k, rfl⟩ : ∃ m, k = m + 2 := ⟨k - 2, by omega⟩
    have hlt : i < x.length := by omega
    have hw : wrap64 ((i : Int) + 1) = ((i + 1 : Nat) : Int) := by unfold wrap64; omega
    rw [newellaw02_TokenTexts.l0, hsz, if_pos (by omega), decide_eq_true (by omega), newellaw02_TokenTexts.j1, if_pos rfl, hsz, if_pos (by omega), if_pos (by omega), bs_bt x i hlt, ref_allowed, Option.bind_some, hw]
    cases hal : Tk.allowed x[i] with
    | true =>
      rw [if_pos rfl, if_pos (by rw [nl]; omega), show [((x[i].toNat : Nat) : Int)] = nums_ [x[i]] from rfl, show nums_ s ++ nums_ [x[i]] = nums_ (s ++ [x[i]]) by simp [nums_]]
      refine ih (i + 1) _ k (by omega) (by rw [List.length_append]; simp only [List.length_cons, List.length_nil]; omega) (fun c hc => ?_) (by omega)
      rcases List.mem_append.1 hc with hc | hc
      · exact ha c hc
      · rw [List.mem_singleton] at hc
        rw [hc]; exact hal
    | false =>
      rw [if_neg (by decide)]
      exact ih (i + 1) _ k (by omega) (by omega) ha (by omega)
theorem TokenTexts : newellaw02_TokenTexts.Pure := by
  intro a0 hs
  refine ⟨2 * min a0.data.toList.length 300 + 500, ?_⟩
  have hs2 : a0.data.toList.length ≤ 140737488351232 := by rw [← Lib.size_eq]; omega
  have := copy_loop a0.data.toList hs2 (min a0.data.toList.length 300) 0 [] _ (by omega) (Nat.le_refl 0) (fun c h => absurd h (by simp)) (Nat.le_refl _)
  rw [bs_data] at this
  unfold newellaw02_TokenTexts.f
  exact this
end Go.Proofs.Ytomikblbfappnaa.Pure
