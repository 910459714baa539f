/- Texts put together: what functions of the program compute, and plain words about them. -/
import Derived.Test.YtomikblbfappnaaLawTokenAttrsM1
import Derived.Test.YtomikblbfappnaaLawTokenAttrsM2
import Derived.Test.YtomikblbfappnaaProg
import Derived.Test.YtomikblbfappnaaRows
import Derived.ChangeArms
import Derived.Deep.DeepHandedRow
import Derived.Shelf.Vars
import Derived.Below
import Derived.Deep.Draws
import Derived.Deep.AppendLies
import Derived.Maps.AppendAt
import Derived.OwnWalk
import Derived.Laws.BytesArg
import Derived.Laws.MakeOwn
import Derived.Laws.OwnMore
import Derived.Deep.OwnRows
import Derived.Tactics
import Derived.Lib.ConvBytes
import Derived.Laws.Slices
import Derived.WalkKit
import Derived.KernelRfl
import Derived.RowKit3
import Derived.Deep.LoopGhost
import Derived.Deep.QuietTactic
import Derived.BigQuiet
import Derived.WideLaws
import Derived.Deep.DeepCutAuto
import Derived.Deep.CutBlock
import Derived.Deep.RegionHeld3
import Derived.Laws.Rows
import Derived.Lib.AppendStr
import Derived.ArgAppend
import Derived.Laws.IdiomCopy
import Derived.OrdersHeld
import Derived.Laws.BitsLemmas
import Derived.RowKit

-- Printed by this session's wip/np.py over the kit's print program. Not trusted: Lean checks it.
namespace Go.Proofs.Ytomikblbfappnaa.Q
open Go.RowKit Go.Proofs.YtomikblbfappnaaW.PrintWords Go.Proofs.YtomikblbfappnaaW.PrintLast Go.Proofs.YtomikblbfappnaaW.Own Go.Proofs.YtomikblbfappnaaW.PrintMore
attribute [local go_sem] max2_int min2_int max_two min_two max_three min_three max_four min_four
set_option linter.unusedVariables false
set_option linter.unusedSimpArgs false

/-! ### token_walk_text: function 45 -/
theorem tw_index : ∀ l : List UInt8, Lib.indexByte l 60 = if (l.takeWhile (· != 60)).length < l.length then ((l.takeWhile (· != 60)).length : Int) else -1
 | [] => rfl
 | c :: r => by
  have ih := tw_index r
  have hle := tw_le (p := fun x => x != 60) r
  by_cases hc : c = 60
  ·subst hc
   rw [Lib.indexByte, List.takeWhile_cons]
   simp
  ·have h1 : (c == 60) = false := by simpa using hc
   have h2 : (c != 60) = true := by simpa using hc
   rw [Lib.indexByte, h1, List.takeWhile_cons, h2]
   simp only [Bool.false_eq_true, if_false, if_true, List.length_cons]
   by_cases hl : (r.takeWhile (· != 60)).length < r.length
   ·rw [if_pos hl] at ih
    rw [ih, if_pos (show (r.takeWhile (· != 60)).length + 1 < r.length + 1 by omega), if_neg (by simp)]
    omega
   ·rw [if_neg hl] at ih
    rw [ih, if_neg (show ¬ (r.takeWhile (· != 60)).length + 1 < r.length + 1 by omega)]
    rfl
theorem tw_take {p : UInt8 → Bool} (l : List UInt8) : l.take (l.takeWhile p).length = l.takeWhile p := by
 conv => lhs; arg 2; rw [← List.takeWhile_append_dropWhile (p := p) (l := l)]
 exact List.take_left
set_option maxHeartbeats 4000000 in
set_option maxRecDepth 100000 in
theorem token_walk_text.y1 (B g : Nat) {ok : Nat → Prop} (l x : List UInt8) (L : List S32) (w : World) (h : WalkAt w B g ok (Tk.bs l) L) (hG : Glob w) (hl : l.length ≤ 100000) (hL : L.length ≤ 100000) (hok : ∀ k, w.heap.size ≤ k → ok k) (hf :  (l.takeWhile (· != 60)).length < l.length) (hv : Tk.entities (l.takeWhile (· != 60)) = some x) :
 Calls Try.prog 45 #[.pointer (some ⟨g, 0, none⟩)] w fun e w' => e = .returned (.bool true) ∧ WalkAt w' B g ok (Tk.bs (l.drop (l.takeWhile (· != 60)).length)) (L ++ [Tk.tk 3 [] x [] false]) ∧ Below B w w' := by
 have hpos := h.pos
 have hsz := h.size
 have hgeB := h.ge
 have hle := tw_le (p := fun x => x != 60) l
 have htk := tw_take (p := fun x => x != 60) l
 have hix := tw_index l
 rw [if_pos hf] at hix
 obtain ⟨t, ht⟩ : ∃ t, l.takeWhile (· != 60) = t := ⟨_, rfl⟩
 rw [ht] at hle htk hix hv hf ⊢
 have hl0 := bs_size l
 have hdr := bs_drop l t.length
 have hta := bs_take l t.length
 rw [htk] at hta
 obtain ⟨s, hs⟩ : ∃ s, s = Tk.bs l := ⟨_, rfl⟩
 rw [← hs] at hdr hta h hl0
 have CI : ∀ W, Calls Try.prog 66 #[.string s, .int .u8 60] W fun e w' => e = .returned (.int .i64 (t.length : Int)) ∧ W = w' := by
  intro W
  refine (Try.strings_IndexByte s 60 W).mono ?_
  rintro e w' ⟨rfl, rfl⟩
  refine ⟨?_, rfl⟩
  rw [show Lib.indexByte s.data.toList ((60 : Int).toNat.toUInt8) = (t.length : Int) from by rw [hs]; exact hix]
 obtain ⟨z, hz⟩ : ∃ z : Int, z = (t.length : Int) := ⟨_, rfl⟩
 rw [← hz] at CI
 have z0 : decide (z < 0) = false := decide_eq_false (by omega)
 have z1 := eq_true (show 0 ≤ z by omega)
 have z2 := eq_true (show z ≤ (s.size : Int) by omega)
 have hzt : z.toNat = t.length := by omega
 have CE : ∀ W, Glob W → Calls Try.prog 14 #[.string (s.extract 0 z.toNat)] W fun e w' => e = .returned (.tuple #[.string (Tk.bs x), .int .i64 0]) ∧ Below W.heap.size W w' := by
  intro W hW
  rw [hzt, hta]
  exact ent_f (x := (x, 0)) (entsV_some hv) (by omega) W hW
 have hex : s.extract z.toNat s.size = Tk.bs (l.drop t.length) := by rw [hzt, hdr]
 have HEX := Lib.hid hex
 have HG := Aside0.mk hG
 have c0 := h.cell0
 have H0 := Aside0.mk h
 clear h hG hv hf ht htk hix hta hdr hs hex hle hl0 hzt hz
 go_enter Try.func45, Try.ntmps45
 go_wp2_with (go_at_call 66; (with_reducible refine (CI _).mono ?_))
 rintro e w1 ⟨rfl, rfl⟩
 go_wp2_with (go_at_call 14; (with_reducible refine (CE _ HG.out).mono ?_))
 rintro e w2 ⟨rfl, b1⟩
 have H1 := Aside0.mk (H0.out.below b1)
 have B1 := Aside0.mk (b1.mono hsz)
 have S1 := Aside0.mk b1.size
 clear b1 H0
 have c1 := H1.out.cell0
 have f1 := H1.out.frozen 0
 have H2 := Aside0.mk (H1.out.left (s.extract z.toNat s.size))
 have B2 := Aside0.mk (B1.out.setCell (p := ⟨g, 0, none⟩) hgeB (.string (s.extract z.toNat s.size)))
 have S2 : w.heap.size ≤ (w2.setCell ⟨g, 0, none⟩ (.string (s.extract z.toNat s.size))).heap.size := by simpa using S1.out
 have S3 := Aside0.mk S2
 clear S2
 go_wp2_with (go_at_call 60; refine (token_walk_put.calls B g (fun _ => False) _ L (Tk.tk 3 [] x [] false) (.slice none 0 0) _ (H2.out.more (fun k _ hk => ⟨hk, fun h => h⟩)) (Kd.R_nil _ _ _ _ _) (fun _ h => h.elim) (fun k hk => hok k (Nat.le_trans S3.out hk)) hL).mono ?_)
 rintro e w4 ⟨rfl, h4, b4⟩
 have H4 := Aside0.mk h4
 have B4 := Aside0.mk (B2.out.trans b4)
 clear h4 b4
 go_wp2
 go_ret
 refine ⟨rfl, ?_, B4.out⟩
 rw [← HEX.out]
 exact H4.out
set_option maxHeartbeats 4000000 in
set_option maxRecDepth 100000 in
theorem token_walk_text.n1 (B g : Nat) {ok : Nat → Prop} (l : List UInt8) (L : List S32) (w : World) (h : WalkAt w B g ok (Tk.bs l) L) (hG : Glob w) (hl : l.length ≤ 100000) (hf :  (l.takeWhile (· != 60)).length < l.length) (hv : Tk.entities (l.takeWhile (· != 60)) = none) :
 Calls Try.prog 45 #[.pointer (some ⟨g, 0, none⟩)] w fun e w' => e = .returned (.bool false) ∧ Below B w w' := by
 have hpos := h.pos
 have hsz := h.size
 have hgeB := h.ge
 have hle := tw_le (p := fun x => x != 60) l
 have htk := tw_take (p := fun x => x != 60) l
 have hix := tw_index l
 rw [if_pos hf] at hix
 obtain ⟨t, ht⟩ : ∃ t, l.takeWhile (· != 60) = t := ⟨_, rfl⟩
 rw [ht] at hle htk hix hv hf
 have hl0 := bs_size l
 have hdr := bs_drop l t.length
 have hta := bs_take l t.length
 rw [htk] at hta
 obtain ⟨s, hs⟩ : ∃ s, s = Tk.bs l := ⟨_, rfl⟩
 rw [← hs] at hdr hta h hl0
 have CI : ∀ W, Calls Try.prog 66 #[.string s, .int .u8 60] W fun e w' => e = .returned (.int .i64 (t.length : Int)) ∧ W = w' := by
  intro W
  refine (Try.strings_IndexByte s 60 W).mono ?_
  rintro e w' ⟨rfl, rfl⟩
  refine ⟨?_, rfl⟩
  rw [show Lib.indexByte s.data.toList ((60 : Int).toNat.toUInt8) = (t.length : Int) from by rw [hs]; exact hix]
 obtain ⟨z, hz⟩ : ∃ z : Int, z = (t.length : Int) := ⟨_, rfl⟩
 rw [← hz] at CI
 have z0 : decide (z < 0) = false := decide_eq_false (by omega)
 have z1 := eq_true (show 0 ≤ z by omega)
 have z2 := eq_true (show z ≤ (s.size : Int) by omega)
 have hzt : z.toNat = t.length := by omega
 have CE : ∀ W, Glob W → Calls Try.prog 14 #[.string (s.extract 0 z.toNat)] W fun e w' => e = .returned (.tuple #[.string (Tk.bs []), .int .i64 5]) ∧ Below W.heap.size W w' := by
  intro W hW
  rw [hzt, hta]
  exact ent_f (x := ([], 5)) (entsV_none hv) (by omega) W hW
 have hex : s.extract z.toNat s.size = Tk.bs (l.drop t.length) := by rw [hzt, hdr]
 have HEX := Lib.hid hex
 have HG := Aside0.mk hG
 have c0 := h.cell0
 have H0 := Aside0.mk h
 clear h hG hv hf ht htk hix hta hdr hs hex hle hl0 hzt hz
 go_enter Try.func45, Try.ntmps45
 go_wp2_with (go_at_call 66; (with_reducible refine (CI _).mono ?_))
 rintro e w1 ⟨rfl, rfl⟩
 go_wp2_with (go_at_call 14; (with_reducible refine (CE _ HG.out).mono ?_))
 rintro e w2 ⟨rfl, b1⟩
 have H1 := Aside0.mk (H0.out.below b1)
 have B1 := Aside0.mk (b1.mono hsz)
 have S1 := Aside0.mk b1.size
 clear b1 H0
 have c1 := H1.out.cell0
 have f1 := H1.out.frozen 0
 have B2 := Aside0.mk (B1.out.setCell (p := ⟨g, 0, none⟩) hgeB (.string (s.extract z.toNat s.size)))
 go_wp2
 go_ret
 exact ⟨rfl, B2.out⟩
set_option maxHeartbeats 4000000 in
set_option maxRecDepth 100000 in
theorem token_walk_text.y0 (B g : Nat) {ok : Nat → Prop} (l x : List UInt8) (L : List S32) (w : World) (h : WalkAt w B g ok (Tk.bs l) L) (hG : Glob w) (hl : l.length ≤ 100000) (hL : L.length ≤ 100000) (hok : ∀ k, w.heap.size ≤ k → ok k) (hf : ¬ (l.takeWhile (· != 60)).length < l.length) (hv : Tk.entities (l.takeWhile (· != 60)) = some x) :
 Calls Try.prog 45 #[.pointer (some ⟨g, 0, none⟩)] w fun e w' => e = .returned (.bool true) ∧ WalkAt w' B g ok (Tk.bs (l.drop (l.takeWhile (· != 60)).length)) (L ++ [Tk.tk 3 [] x [] false]) ∧ Below B w w' := by
 have hpos := h.pos
 have hsz := h.size
 have hgeB := h.ge
 have hle := tw_le (p := fun x => x != 60) l
 have htk := tw_take (p := fun x => x != 60) l
 have hix := tw_index l
 rw [if_neg hf] at hix
 obtain ⟨t, ht⟩ : ∃ t, l.takeWhile (· != 60) = t := ⟨_, rfl⟩
 rw [ht] at hle htk hv hf ⊢
 have hl0 := bs_size l
 have hdr := bs_drop l t.length
 have hta := bs_take l t.length
 rw [htk] at hta
 obtain ⟨s, hs⟩ : ∃ s, s = Tk.bs l := ⟨_, rfl⟩
 rw [← hs] at hdr hta h hl0
 have CI : ∀ W, Calls Try.prog 66 #[.string s, .int .u8 60] W fun e w' => e = .returned (.int .i64 (-1)) ∧ W = w' := by
  intro W
  refine (Try.strings_IndexByte s 60 W).mono ?_
  rintro e w' ⟨rfl, rfl⟩
  refine ⟨?_, rfl⟩
  rw [show Lib.indexByte s.data.toList ((60 : Int).toNat.toUInt8) = (-1) from by rw [hs]; exact hix]
 have hts : t.length = l.length := by omega
 have hss : t.length = s.size := by omega
 obtain ⟨z, hz⟩ : ∃ z : Int, z = (s.size : Int) := ⟨_, rfl⟩
 have z0 : decide (z < 0) = false := decide_eq_false (by omega)
 have z1 := eq_true (show 0 ≤ z by omega)
 have z2 := eq_true (show z ≤ (s.size : Int) by omega)
 have hzt : z.toNat = t.length := by omega
 have CE : ∀ W, Glob W → Calls Try.prog 14 #[.string (s.extract 0 z.toNat)] W fun e w' => e = .returned (.tuple #[.string (Tk.bs x), .int .i64 0]) ∧ Below W.heap.size W w' := by
  intro W hW
  rw [hzt, hta]
  exact ent_f (x := (x, 0)) (entsV_some hv) (by omega) W hW
 have hex : s.extract z.toNat s.size = Tk.bs (l.drop t.length) := by rw [hzt, hdr]
 have HEX := Lib.hid hex
 have HG := Aside0.mk hG
 have c0 := h.cell0
 have H0 := Aside0.mk h
 have hzs : (s.size : Int) = z := hz.symm
 have HZ := Lib.hid hzs
 clear h hG hv hf ht htk hix hta hdr hs hex hle hl0 hzt hz hzs hts hss
 go_enter Try.func45, Try.ntmps45
 go_wp2_with (go_at_call 66; (with_reducible refine (CI _).mono ?_))
 rintro e w1 ⟨rfl, rfl⟩
 have hmz := HZ.out
 go_wp2_with (go_at_call 14; (with_reducible refine (CE _ HG.out).mono ?_))
 rintro e w2 ⟨rfl, b1⟩
 have H1 := Aside0.mk (H0.out.below b1)
 have B1 := Aside0.mk (b1.mono hsz)
 have S1 := Aside0.mk b1.size
 clear b1 H0
 have c1 := H1.out.cell0
 have f1 := H1.out.frozen 0
 have H2 := Aside0.mk (H1.out.left (s.extract z.toNat s.size))
 have B2 := Aside0.mk (B1.out.setCell (p := ⟨g, 0, none⟩) hgeB (.string (s.extract z.toNat s.size)))
 have S2 : w.heap.size ≤ (w2.setCell ⟨g, 0, none⟩ (.string (s.extract z.toNat s.size))).heap.size := by simpa using S1.out
 have S3 := Aside0.mk S2
 clear S2
 go_wp2_with (go_at_call 60; refine (token_walk_put.calls B g (fun _ => False) _ L (Tk.tk 3 [] x [] false) (.slice none 0 0) _ (H2.out.more (fun k _ hk => ⟨hk, fun h => h⟩)) (Kd.R_nil _ _ _ _ _) (fun _ h => h.elim) (fun k hk => hok k (Nat.le_trans S3.out hk)) hL).mono ?_)
 rintro e w4 ⟨rfl, h4, b4⟩
 have H4 := Aside0.mk h4
 have B4 := Aside0.mk (B2.out.trans b4)
 clear h4 b4
 go_wp2
 go_ret
 refine ⟨rfl, ?_, B4.out⟩
 rw [← HEX.out]
 exact H4.out
set_option maxHeartbeats 4000000 in
set_option maxRecDepth 100000 in
theorem token_walk_text.n0 (B g : Nat) {ok : Nat → Prop} (l : List UInt8) (L : List S32) (w : World) (h : WalkAt w B g ok (Tk.bs l) L) (hG : Glob w) (hl : l.length ≤ 100000) (hf : ¬ (l.takeWhile (· != 60)).length < l.length) (hv : Tk.entities (l.takeWhile (· != 60)) = none) :
 Calls Try.prog 45 #[.pointer (some ⟨g, 0, none⟩)] w fun e w' => e = .returned (.bool false) ∧ Below B w w' := by
 have hpos := h.pos
 have hsz := h.size
 have hgeB := h.ge
 have hle := tw_le (p := fun x => x != 60) l
 have htk := tw_take (p := fun x => x != 60) l
 have hix := tw_index l
 rw [if_neg hf] at hix
 obtain ⟨t, ht⟩ : ∃ t, l.takeWhile (· != 60) = t := ⟨_, rfl⟩
 rw [ht] at hle htk hv hf
 have hl0 := bs_size l
 have hdr := bs_drop l t.length
 have hta := bs_take l t.length
 rw [htk] at hta
 obtain ⟨s, hs⟩ : ∃ s, s = Tk.bs l := ⟨_, rfl⟩
 rw [← hs] at hdr hta h hl0
 have CI : ∀ W, Calls Try.prog 66 #[.string s, .int .u8 60] W fun e w' => e = .returned (.int .i64 (-1)) ∧ W = w' := by
  intro W
  refine (Try.strings_IndexByte s 60 W).mono ?_
  rintro e w' ⟨rfl, rfl⟩
  refine ⟨?_, rfl⟩
  rw [show Lib.indexByte s.data.toList ((60 : Int).toNat.toUInt8) = (-1) from by rw [hs]; exact hix]
 have hts : t.length = l.length := by omega
 have hss : t.length = s.size := by omega
 obtain ⟨z, hz⟩ : ∃ z : Int, z = (s.size : Int) := ⟨_, rfl⟩
 have z0 : decide (z < 0) = false := decide_eq_false (by omega)
 have z1 := eq_true (show 0 ≤ z by omega)
 have z2 := eq_true (show z ≤ (s.size : Int) by omega)
 have hzt : z.toNat = t.length := by omega
 have CE : ∀ W, Glob W → Calls Try.prog 14 #[.string (s.extract 0 z.toNat)] W fun e w' => e = .returned (.tuple #[.string (Tk.bs []), .int .i64 5]) ∧ Below W.heap.size W w' := by
  intro W hW
  rw [hzt, hta]
  exact ent_f (x := ([], 5)) (entsV_none hv) (by omega) W hW
 have hex : s.extract z.toNat s.size = Tk.bs (l.drop t.length) := by rw [hzt, hdr]
 have HEX := Lib.hid hex
 have HG := Aside0.mk hG
 have c0 := h.cell0
 have H0 := Aside0.mk h
 have hzs : (s.size : Int) = z := hz.symm
 have HZ := Lib.hid hzs
 clear h hG hv hf ht htk hix hta hdr hs hex hle hl0 hzt hz hzs hts hss
 go_enter Try.func45, Try.ntmps45
 go_wp2_with (go_at_call 66; (with_reducible refine (CI _).mono ?_))
 rintro e w1 ⟨rfl, rfl⟩
 have hmz := HZ.out
 go_wp2_with (go_at_call 14; (with_reducible refine (CE _ HG.out).mono ?_))
 rintro e w2 ⟨rfl, b1⟩
 have H1 := Aside0.mk (H0.out.below b1)
 have B1 := Aside0.mk (b1.mono hsz)
 have S1 := Aside0.mk b1.size
 clear b1 H0
 have c1 := H1.out.cell0
 have f1 := H1.out.frozen 0
 have B2 := Aside0.mk (B1.out.setCell (p := ⟨g, 0, none⟩) hgeB (.string (s.extract z.toNat s.size)))
 go_wp2
 go_ret
 exact ⟨rfl, B2.out⟩
theorem token_walk_text.all (B g : Nat) {ok : Nat → Prop} (l : List UInt8) (res : Option (S32 × List UInt8)) (L : List S32) (w : World) (h : WalkAt w B g ok (Tk.bs l) L) (hG : Glob w) (hl : l.length ≤ 100000) (hL : L.length ≤ 100000) (hok : ∀ k, w.heap.size ≤ k → ok k) (hx : Tk.text l = res) :
 Calls Try.prog 45 #[.pointer (some ⟨g, 0, none⟩)] w fun e w' => (∀ t r, res = some (t, r) → e = .returned (.bool true) ∧ WalkAt w' B g ok (Tk.bs r) (L ++ [t])) ∧ (res = none → e = .returned (.bool false)) ∧ Below B w w' := by
 unfold Tk.text at hx
 dsimp only at hx
 cases hv : Tk.entities (l.takeWhile (· != 60)) with
 | none =>
  rw [hv] at hx
  subst hx
  by_cases hf : (l.takeWhile (· != 60)).length < l.length
  ·refine (token_walk_text.n1 B g l L w h hG hl hf hv).mono ?_
   rintro e w' ⟨rfl, b⟩
   exact ⟨(fun t r h => by cases h), fun _ => rfl, b⟩
  ·refine (token_walk_text.n0 B g l L w h hG hl hf hv).mono ?_
   rintro e w' ⟨rfl, b⟩
   exact ⟨(fun t r h => by cases h), fun _ => rfl, b⟩
 | some x =>
  rw [hv] at hx
  subst hx
  by_cases hf : (l.takeWhile (· != 60)).length < l.length
  ·refine (token_walk_text.y1 B g l x L w h hG hl hL hok hf hv).mono ?_
   rintro e w' ⟨rfl, h1, b⟩
   refine ⟨fun t r h => ?_, (fun h => by cases h), b⟩
   obtain ⟨rfl, rfl⟩ := Prod.mk.inj (Option.some.inj h)
   exact ⟨rfl, h1⟩
  ·refine (token_walk_text.y0 B g l x L w h hG hl hL hok hf hv).mono ?_
   rintro e w' ⟨rfl, h1, b⟩
   refine ⟨fun t r h => ?_, (fun h => by cases h), b⟩
   obtain ⟨rfl, rfl⟩ := Prod.mk.inj (Option.some.inj h)
   exact ⟨rfl, h1⟩



end Go.Proofs.Ytomikblbfappnaa.Q

-- Printed by this session's wip/np.py over the kit's print program. Not trusted: Lean checks it.
namespace Go.Proofs.Ytomikblbfappnaa.Q
open Go.RowKit Go.Proofs.YtomikblbfappnaaW.PrintWords Go.Proofs.YtomikblbfappnaaW.PrintLast Go.Proofs.YtomikblbfappnaaW.Own Go.Proofs.YtomikblbfappnaaW.PrintMore
attribute [local go_sem] max2_int min2_int max_two min_two max_three min_three max_four min_four
set_option linter.unusedVariables false
set_option linter.unusedSimpArgs false

/-! ### token_walk_next: function 25 -/
theorem behind_le {x l r : List UInt8} (h : Tk.behind x l = some r) : r.length ≤ l.length := behind_len h
set_option maxHeartbeats 4000000 in
set_option maxRecDepth 100000 in
theorem token_walk_next.w0 (B g : Nat) {ok : Nat → Prop} (fst : Bool) (l : List UInt8) (res : Option (S32 × List UInt8)) (q : List UInt8) (L : List S32) (w : World) (h : WalkAt w B g ok (Tk.bs l) L) (hG : Glob w) (hl : l.length ≤ 100000) (hL : L.length ≤ 100000) (hok : ∀ k, w.heap.size ≤ k → ok k) (h0 : Tk.behind [60, 33, 45, 45] l = some q) (hx : Tk.comment q = res) :
 Calls Try.prog 25 #[.pointer (some ⟨g, 0, none⟩), .bool fst] w fun e w' => (∀ t r, res = some (t, r) → e = .returned (.bool true) ∧ WalkAt w' B g ok (Tk.bs r) (L ++ [t])) ∧ (res = none → e = .returned (.bool false)) ∧ Below B w w' := by
 have hpos := h.pos
 have HG := Aside0.mk hG
 have HX := Aside0.mk hx
 have H := Aside0.mk h
 have E0 := Aside0.mk h0
 have hlq : q.length ≤ 100000 := Nat.le_trans (behind_le h0) hl
 clear h hG hx h0
 have B0 := Aside0.mk (Below.refl B w)
 have S0 := Aside0.mk (Nat.le_refl w.heap.size)
 go_enter Try.func25, Try.ntmps25
 go_wp2_with (go_at_call 39; refine (token_walk_eat.yesK B g _ [60, 33, 45, 45] q L _ H.out E0.out).mono ?_)
 rintro e w0 ⟨rfl, h1, b1, k1⟩
 have Hn := Aside0.mk h1
 have HGn := Aside0.mk (HG.out.below b1 hpos)
 have Bn := Aside0.mk (B0.out.trans b1)
 have Sn := Aside0.mk (Nat.le_trans S0.out k1.1)
 clear h1 b1 k1 H HG B0 S0
 have H := Hn
 have HG := HGn
 have B0 := Bn
 have S0 := Sn
 clear Hn HGn Bn Sn
 have CF : Calls Try.prog 40 #[.pointer (some ⟨g, 0, none⟩)] w0 fun e w' => (∀ t r, res = some (t, r) → e = .returned (.bool true) ∧ WalkAt w' B g ok (Tk.bs r) (L ++ [t])) ∧ (res = none → e = .returned (.bool false)) ∧ Below B w0 w' := by
  cases hr : res with
  | none =>
   refine (token_walk_comment.no B g q L _ H.out HG.out (by omega) (HX.out.trans hr)).mono ?_
   rintro e w' ⟨rfl, b⟩
   exact ⟨(fun t r h => by cases h), fun _ => rfl, b⟩
  | some p =>
   obtain ⟨t0, r0⟩ := p
   refine (token_walk_comment.yes B g q r0 t0 L _ H.out HG.out (by omega) hL (fun k hk => hok k (Nat.le_trans S0.out hk)) (HX.out.trans hr)).mono ?_
   rintro e w' ⟨rfl, h1, b⟩
   refine ⟨fun t r h => ?_, (fun h => by cases h), b⟩
   obtain ⟨rfl, rfl⟩ := Prod.mk.inj (Option.some.inj h)
   exact ⟨rfl, h1⟩
 have CF1 := Aside0.mk CF
 clear CF
 go_wp2_with (go_at_call 40; refine CF1.out.mono ?_)
 rintro e wz ⟨hy, hn, bz⟩
 have BZ := Aside0.mk (B0.out.trans bz)
 clear bz
 cases hr : res with
 | none =>
  obtain rfl := hn hr
  clear hy hn
  go_wp2
  go_ret
  exact ⟨(fun t r h => by rw [hr] at h; cases h), fun _ => rfl, BZ.out⟩
 | some p =>
  obtain ⟨t0, r0⟩ := p
  obtain ⟨rfl, h1⟩ := hy t0 r0 hr
  have H1 := Aside0.mk h1
  clear hy hn h1
  go_wp2
  go_ret
  refine ⟨fun t r h => ?_, (fun h => by rw [hr] at h; cases h), BZ.out⟩
  rw [hr] at h
  obtain ⟨rfl, rfl⟩ := Prod.mk.inj (Option.some.inj h)
  exact ⟨rfl, H1.out⟩
set_option maxHeartbeats 4000000 in
set_option maxRecDepth 100000 in
theorem token_walk_next.w1 (B g : Nat) {ok : Nat → Prop} (fst : Bool) (l : List UInt8) (res : Option (S32 × List UInt8)) (q : List UInt8) (L : List S32) (w : World) (h : WalkAt w B g ok (Tk.bs l) L) (hG : Glob w) (hl : l.length ≤ 100000) (hL : L.length ≤ 100000) (hok : ∀ k, w.heap.size ≤ k → ok k) (h0 : Tk.behind [60, 33, 45, 45] l = none) (h1 : Tk.behind [60, 33, 91, 67, 68, 65, 84, 65, 91] l = some q) (hx : Tk.data q = res) :
 Calls Try.prog 25 #[.pointer (some ⟨g, 0, none⟩), .bool fst] w fun e w' => (∀ t r, res = some (t, r) → e = .returned (.bool true) ∧ WalkAt w' B g ok (Tk.bs r) (L ++ [t])) ∧ (res = none → e = .returned (.bool false)) ∧ Below B w w' := by
 have hpos := h.pos
 have HG := Aside0.mk hG
 have HX := Aside0.mk hx
 have H := Aside0.mk h
 have E0 := Aside0.mk h0
 have E1 := Aside0.mk h1
 have hlq : q.length ≤ 100000 := Nat.le_trans (behind_le h1) hl
 clear h hG hx h0 h1
 have B0 := Aside0.mk (Below.refl B w)
 have S0 := Aside0.mk (Nat.le_refl w.heap.size)
 go_enter Try.func25, Try.ntmps25
 go_wp2_with (go_at_call 39; refine (token_walk_eat.noK B g _ [60, 33, 45, 45] L _ H.out E0.out).mono ?_)
 rintro e w0 ⟨rfl, h1, b1, k1⟩
 have Hn := Aside0.mk h1
 have HGn := Aside0.mk (HG.out.below b1 hpos)
 have Bn := Aside0.mk (B0.out.trans b1)
 have Sn := Aside0.mk (Nat.le_trans S0.out k1.1)
 clear h1 b1 k1 H HG B0 S0
 have H := Hn
 have HG := HGn
 have B0 := Bn
 have S0 := Sn
 clear Hn HGn Bn Sn
 go_wp2_with (go_at_call 39; refine (token_walk_eat.yesK B g _ [60, 33, 91, 67, 68, 65, 84, 65, 91] q L _ H.out E1.out).mono ?_)
 rintro e w1 ⟨rfl, h1, b1, k1⟩
 have Hn := Aside0.mk h1
 have HGn := Aside0.mk (HG.out.below b1 hpos)
 have Bn := Aside0.mk (B0.out.trans b1)
 have Sn := Aside0.mk (Nat.le_trans S0.out k1.1)
 clear h1 b1 k1 H HG B0 S0
 have H := Hn
 have HG := HGn
 have B0 := Bn
 have S0 := Sn
 clear Hn HGn Bn Sn
 have CF : Calls Try.prog 41 #[.pointer (some ⟨g, 0, none⟩)] w1 fun e w' => (∀ t r, res = some (t, r) → e = .returned (.bool true) ∧ WalkAt w' B g ok (Tk.bs r) (L ++ [t])) ∧ (res = none → e = .returned (.bool false)) ∧ Below B w1 w' := by
  cases hr : res with
  | none =>
   refine (token_walk_data.no B g q L _ H.out HG.out (by omega) (HX.out.trans hr)).mono ?_
   rintro e w' ⟨rfl, b⟩
   exact ⟨(fun t r h => by cases h), fun _ => rfl, b⟩
  | some p =>
   obtain ⟨t0, r0⟩ := p
   refine (token_walk_data.yes B g q r0 t0 L _ H.out HG.out (by omega) hL (fun k hk => hok k (Nat.le_trans S0.out hk)) (HX.out.trans hr)).mono ?_
   rintro e w' ⟨rfl, h1, b⟩
   refine ⟨fun t r h => ?_, (fun h => by cases h), b⟩
   obtain ⟨rfl, rfl⟩ := Prod.mk.inj (Option.some.inj h)
   exact ⟨rfl, h1⟩
 have CF1 := Aside0.mk CF
 clear CF
 go_wp2_with (go_at_call 41; refine CF1.out.mono ?_)
 rintro e wz ⟨hy, hn, bz⟩
 have BZ := Aside0.mk (B0.out.trans bz)
 clear bz
 cases hr : res with
 | none =>
  obtain rfl := hn hr
  clear hy hn
  go_wp2
  go_ret
  exact ⟨(fun t r h => by rw [hr] at h; cases h), fun _ => rfl, BZ.out⟩
 | some p =>
  obtain ⟨t0, r0⟩ := p
  obtain ⟨rfl, h1⟩ := hy t0 r0 hr
  have H1 := Aside0.mk h1
  clear hy hn h1
  go_wp2
  go_ret
  refine ⟨fun t r h => ?_, (fun h => by rw [hr] at h; cases h), BZ.out⟩
  rw [hr] at h
  obtain ⟨rfl, rfl⟩ := Prod.mk.inj (Option.some.inj h)
  exact ⟨rfl, H1.out⟩
set_option maxHeartbeats 4000000 in
set_option maxRecDepth 100000 in
theorem token_walk_next.w2 (B g : Nat) {ok : Nat → Prop} (fst : Bool) (l : List UInt8) (res : Option (S32 × List UInt8)) (q : List UInt8) (L : List S32) (w : World) (h : WalkAt w B g ok (Tk.bs l) L) (hG : Glob w) (hl : l.length ≤ 100000) (hL : L.length ≤ 100000) (hok : ∀ k, w.heap.size ≤ k → ok k) (h0 : Tk.behind [60, 33, 45, 45] l = none) (h1 : Tk.behind [60, 33, 91, 67, 68, 65, 84, 65, 91] l = none) (h2 : Tk.behind [60, 63] l = some q) (hx : Tk.prolog fst q = res) :
 Calls Try.prog 25 #[.pointer (some ⟨g, 0, none⟩), .bool fst] w fun e w' => (∀ t r, res = some (t, r) → e = .returned (.bool true) ∧ WalkAt w' B g ok (Tk.bs r) (L ++ [t])) ∧ (res = none → e = .returned (.bool false)) ∧ Below B w w' := by
 have hpos := h.pos
 have HG := Aside0.mk hG
 have HX := Aside0.mk hx
 have H := Aside0.mk h
 have E0 := Aside0.mk h0
 have E1 := Aside0.mk h1
 have E2 := Aside0.mk h2
 have hlq : q.length ≤ 100000 := Nat.le_trans (behind_le h2) hl
 clear h hG hx h0 h1 h2
 have B0 := Aside0.mk (Below.refl B w)
 have S0 := Aside0.mk (Nat.le_refl w.heap.size)
 go_enter Try.func25, Try.ntmps25
 go_wp2_with (go_at_call 39; refine (token_walk_eat.noK B g _ [60, 33, 45, 45] L _ H.out E0.out).mono ?_)
 rintro e w0 ⟨rfl, h1, b1, k1⟩
 have Hn := Aside0.mk h1
 have HGn := Aside0.mk (HG.out.below b1 hpos)
 have Bn := Aside0.mk (B0.out.trans b1)
 have Sn := Aside0.mk (Nat.le_trans S0.out k1.1)
 clear h1 b1 k1 H HG B0 S0
 have H := Hn
 have HG := HGn
 have B0 := Bn
 have S0 := Sn
 clear Hn HGn Bn Sn
 go_wp2_with (go_at_call 39; refine (token_walk_eat.noK B g _ [60, 33, 91, 67, 68, 65, 84, 65, 91] L _ H.out E1.out).mono ?_)
 rintro e w1 ⟨rfl, h1, b1, k1⟩
 have Hn := Aside0.mk h1
 have HGn := Aside0.mk (HG.out.below b1 hpos)
 have Bn := Aside0.mk (B0.out.trans b1)
 have Sn := Aside0.mk (Nat.le_trans S0.out k1.1)
 clear h1 b1 k1 H HG B0 S0
 have H := Hn
 have HG := HGn
 have B0 := Bn
 have S0 := Sn
 clear Hn HGn Bn Sn
 go_wp2_with (go_at_call 39; refine (token_walk_eat.yesK B g _ [60, 63] q L _ H.out E2.out).mono ?_)
 rintro e w2 ⟨rfl, h1, b1, k1⟩
 have Hn := Aside0.mk h1
 have HGn := Aside0.mk (HG.out.below b1 hpos)
 have Bn := Aside0.mk (B0.out.trans b1)
 have Sn := Aside0.mk (Nat.le_trans S0.out k1.1)
 clear h1 b1 k1 H HG B0 S0
 have H := Hn
 have HG := HGn
 have B0 := Bn
 have S0 := Sn
 clear Hn HGn Bn Sn
 have CF : Calls Try.prog 42 #[.pointer (some ⟨g, 0, none⟩), .bool fst] w2 fun e w' => (∀ t r, res = some (t, r) → e = .returned (.bool true) ∧ WalkAt w' B g ok (Tk.bs r) (L ++ [t])) ∧ (res = none → e = .returned (.bool false)) ∧ Below B w2 w' := by
  cases hr : res with
  | none =>
   refine (token_walk_prolog.no B g fst q L _ H.out HG.out (by omega) (HX.out.trans hr)).mono ?_
   rintro e w' ⟨rfl, b⟩
   exact ⟨(fun t r h => by cases h), fun _ => rfl, b⟩
  | some p =>
   obtain ⟨t0, r0⟩ := p
   refine (token_walk_prolog.yes B g fst q r0 t0 L _ H.out HG.out (by omega) hL (fun k hk => hok k (Nat.le_trans S0.out hk)) (HX.out.trans hr)).mono ?_
   rintro e w' ⟨rfl, h1, b⟩
   refine ⟨fun t r h => ?_, (fun h => by cases h), b⟩
   obtain ⟨rfl, rfl⟩ := Prod.mk.inj (Option.some.inj h)
   exact ⟨rfl, h1⟩
 have CF1 := Aside0.mk CF
 clear CF
 go_wp2_with (go_at_call 42; refine CF1.out.mono ?_)
 rintro e wz ⟨hy, hn, bz⟩
 have BZ := Aside0.mk (B0.out.trans bz)
 clear bz
 cases hr : res with
 | none =>
  obtain rfl := hn hr
  clear hy hn
  go_wp2
  go_ret
  exact ⟨(fun t r h => by rw [hr] at h; cases h), fun _ => rfl, BZ.out⟩
 | some p =>
  obtain ⟨t0, r0⟩ := p
  obtain ⟨rfl, h1⟩ := hy t0 r0 hr
  have H1 := Aside0.mk h1
  clear hy hn h1
  go_wp2
  go_ret
  refine ⟨fun t r h => ?_, (fun h => by rw [hr] at h; cases h), BZ.out⟩
  rw [hr] at h
  obtain ⟨rfl, rfl⟩ := Prod.mk.inj (Option.some.inj h)
  exact ⟨rfl, H1.out⟩
set_option maxHeartbeats 4000000 in
set_option maxRecDepth 100000 in
theorem token_walk_next.w3 (B g : Nat) {ok : Nat → Prop} (fst : Bool) (l : List UInt8) (res : Option (S32 × List UInt8)) (q : List UInt8) (L : List S32) (w : World) (h : WalkAt w B g ok (Tk.bs l) L) (hG : Glob w) (hl : l.length ≤ 100000) (hL : L.length ≤ 100000) (hok : ∀ k, w.heap.size ≤ k → ok k) (h0 : Tk.behind [60, 33, 45, 45] l = none) (h1 : Tk.behind [60, 33, 91, 67, 68, 65, 84, 65, 91] l = none) (h2 : Tk.behind [60, 63] l = none) (h3 : Tk.behind [60, 47] l = some q) (hx : Tk.close q = res) :
 Calls Try.prog 25 #[.pointer (some ⟨g, 0, none⟩), .bool fst] w fun e w' => (∀ t r, res = some (t, r) → e = .returned (.bool true) ∧ WalkAt w' B g ok (Tk.bs r) (L ++ [t])) ∧ (res = none → e = .returned (.bool false)) ∧ Below B w w' := by
 have hpos := h.pos
 have HG := Aside0.mk hG
 have HX := Aside0.mk hx
 have H := Aside0.mk h
 have E0 := Aside0.mk h0
 have E1 := Aside0.mk h1
 have E2 := Aside0.mk h2
 have E3 := Aside0.mk h3
 have hlq : q.length ≤ 100000 := Nat.le_trans (behind_le h3) hl
 clear h hG hx h0 h1 h2 h3
 have B0 := Aside0.mk (Below.refl B w)
 have S0 := Aside0.mk (Nat.le_refl w.heap.size)
 go_enter Try.func25, Try.ntmps25
 go_wp2_with (go_at_call 39; refine (token_walk_eat.noK B g _ [60, 33, 45, 45] L _ H.out E0.out).mono ?_)
 rintro e w0 ⟨rfl, h1, b1, k1⟩
 have Hn := Aside0.mk h1
 have HGn := Aside0.mk (HG.out.below b1 hpos)
 have Bn := Aside0.mk (B0.out.trans b1)
 have Sn := Aside0.mk (Nat.le_trans S0.out k1.1)
 clear h1 b1 k1 H HG B0 S0
 have H := Hn
 have HG := HGn
 have B0 := Bn
 have S0 := Sn
 clear Hn HGn Bn Sn
 go_wp2_with (go_at_call 39; refine (token_walk_eat.noK B g _ [60, 33, 91, 67, 68, 65, 84, 65, 91] L _ H.out E1.out).mono ?_)
 rintro e w1 ⟨rfl, h1, b1, k1⟩
 have Hn := Aside0.mk h1
 have HGn := Aside0.mk (HG.out.below b1 hpos)
 have Bn := Aside0.mk (B0.out.trans b1)
 have Sn := Aside0.mk (Nat.le_trans S0.out k1.1)
 clear h1 b1 k1 H HG B0 S0
 have H := Hn
 have HG := HGn
 have B0 := Bn
 have S0 := Sn
 clear Hn HGn Bn Sn
 go_wp2_with (go_at_call 39; refine (token_walk_eat.noK B g _ [60, 63] L _ H.out E2.out).mono ?_)
 rintro e w2 ⟨rfl, h1, b1, k1⟩
 have Hn := Aside0.mk h1
 have HGn := Aside0.mk (HG.out.below b1 hpos)
 have Bn := Aside0.mk (B0.out.trans b1)
 have Sn := Aside0.mk (Nat.le_trans S0.out k1.1)
 clear h1 b1 k1 H HG B0 S0
 have H := Hn
 have HG := HGn
 have B0 := Bn
 have S0 := Sn
 clear Hn HGn Bn Sn
 go_wp2_with (go_at_call 39; refine (token_walk_eat.yesK B g _ [60, 47] q L _ H.out E3.out).mono ?_)
 rintro e w3 ⟨rfl, h1, b1, k1⟩
 have Hn := Aside0.mk h1
 have HGn := Aside0.mk (HG.out.below b1 hpos)
 have Bn := Aside0.mk (B0.out.trans b1)
 have Sn := Aside0.mk (Nat.le_trans S0.out k1.1)
 clear h1 b1 k1 H HG B0 S0
 have H := Hn
 have HG := HGn
 have B0 := Bn
 have S0 := Sn
 clear Hn HGn Bn Sn
 have CF : Calls Try.prog 43 #[.pointer (some ⟨g, 0, none⟩)] w3 fun e w' => (∀ t r, res = some (t, r) → e = .returned (.bool true) ∧ WalkAt w' B g ok (Tk.bs r) (L ++ [t])) ∧ (res = none → e = .returned (.bool false)) ∧ Below B w3 w' := by
  cases hr : res with
  | none =>
   refine (token_walk_end.no B g q L _ H.out HG.out (by omega) (HX.out.trans hr)).mono ?_
   rintro e w' ⟨rfl, b⟩
   exact ⟨(fun t r h => by cases h), fun _ => rfl, b⟩
  | some p =>
   obtain ⟨t0, r0⟩ := p
   refine (token_walk_end.yes B g q r0 t0 L _ H.out HG.out (by omega) hL (fun k hk => hok k (Nat.le_trans S0.out hk)) (HX.out.trans hr)).mono ?_
   rintro e w' ⟨rfl, h1, b⟩
   refine ⟨fun t r h => ?_, (fun h => by cases h), b⟩
   obtain ⟨rfl, rfl⟩ := Prod.mk.inj (Option.some.inj h)
   exact ⟨rfl, h1⟩
 have CF1 := Aside0.mk CF
 clear CF
 go_wp2_with (go_at_call 43; refine CF1.out.mono ?_)
 rintro e wz ⟨hy, hn, bz⟩
 have BZ := Aside0.mk (B0.out.trans bz)
 clear bz
 cases hr : res with
 | none =>
  obtain rfl := hn hr
  clear hy hn
  go_wp2
  go_ret
  exact ⟨(fun t r h => by rw [hr] at h; cases h), fun _ => rfl, BZ.out⟩
 | some p =>
  obtain ⟨t0, r0⟩ := p
  obtain ⟨rfl, h1⟩ := hy t0 r0 hr
  have H1 := Aside0.mk h1
  clear hy hn h1
  go_wp2
  go_ret
  refine ⟨fun t r h => ?_, (fun h => by rw [hr] at h; cases h), BZ.out⟩
  rw [hr] at h
  obtain ⟨rfl, rfl⟩ := Prod.mk.inj (Option.some.inj h)
  exact ⟨rfl, H1.out⟩
set_option maxHeartbeats 4000000 in
set_option maxRecDepth 100000 in
theorem token_walk_next.w4 (B g : Nat) {ok : Nat → Prop} (fst : Bool) (l : List UInt8) (res : Option (S32 × List UInt8)) (q : List UInt8) (L : List S32) (w : World) (h : WalkAt w B g ok (Tk.bs l) L) (hG : Glob w) (hl : l.length ≤ 100000) (hL : L.length ≤ 100000) (hok : ∀ k, w.heap.size ≤ k → ok k) (h0 : Tk.behind [60, 33, 45, 45] l = none) (h1 : Tk.behind [60, 33, 91, 67, 68, 65, 84, 65, 91] l = none) (h2 : Tk.behind [60, 63] l = none) (h3 : Tk.behind [60, 47] l = none) (h4 : Tk.behind [60] l = some q) (hx : Tk.opening q = res) :
 Calls Try.prog 25 #[.pointer (some ⟨g, 0, none⟩), .bool fst] w fun e w' => (∀ t r, res = some (t, r) → e = .returned (.bool true) ∧ WalkAt w' B g ok (Tk.bs r) (L ++ [t])) ∧ (res = none → e = .returned (.bool false)) ∧ Below B w w' := by
 have hpos := h.pos
 have HG := Aside0.mk hG
 have HX := Aside0.mk hx
 have H := Aside0.mk h
 have E0 := Aside0.mk h0
 have E1 := Aside0.mk h1
 have E2 := Aside0.mk h2
 have E3 := Aside0.mk h3
 have E4 := Aside0.mk h4
 have hlq : q.length ≤ 100000 := Nat.le_trans (behind_le h4) hl
 clear h hG hx h0 h1 h2 h3 h4
 have B0 := Aside0.mk (Below.refl B w)
 have S0 := Aside0.mk (Nat.le_refl w.heap.size)
 go_enter Try.func25, Try.ntmps25
 go_wp2_with (go_at_call 39; refine (token_walk_eat.noK B g _ [60, 33, 45, 45] L _ H.out E0.out).mono ?_)
 rintro e w0 ⟨rfl, h1, b1, k1⟩
 have Hn := Aside0.mk h1
 have HGn := Aside0.mk (HG.out.below b1 hpos)
 have Bn := Aside0.mk (B0.out.trans b1)
 have Sn := Aside0.mk (Nat.le_trans S0.out k1.1)
 clear h1 b1 k1 H HG B0 S0
 have H := Hn
 have HG := HGn
 have B0 := Bn
 have S0 := Sn
 clear Hn HGn Bn Sn
 go_wp2_with (go_at_call 39; refine (token_walk_eat.noK B g _ [60, 33, 91, 67, 68, 65, 84, 65, 91] L _ H.out E1.out).mono ?_)
 rintro e w1 ⟨rfl, h1, b1, k1⟩
 have Hn := Aside0.mk h1
 have HGn := Aside0.mk (HG.out.below b1 hpos)
 have Bn := Aside0.mk (B0.out.trans b1)
 have Sn := Aside0.mk (Nat.le_trans S0.out k1.1)
 clear h1 b1 k1 H HG B0 S0
 have H := Hn
 have HG := HGn
 have B0 := Bn
 have S0 := Sn
 clear Hn HGn Bn Sn
 go_wp2_with (go_at_call 39; refine (token_walk_eat.noK B g _ [60, 63] L _ H.out E2.out).mono ?_)
 rintro e w2 ⟨rfl, h1, b1, k1⟩
 have Hn := Aside0.mk h1
 have HGn := Aside0.mk (HG.out.below b1 hpos)
 have Bn := Aside0.mk (B0.out.trans b1)
 have Sn := Aside0.mk (Nat.le_trans S0.out k1.1)
 clear h1 b1 k1 H HG B0 S0
 have H := Hn
 have HG := HGn
 have B0 := Bn
 have S0 := Sn
 clear Hn HGn Bn Sn
 go_wp2_with (go_at_call 39; refine (token_walk_eat.noK B g _ [60, 47] L _ H.out E3.out).mono ?_)
 rintro e w3 ⟨rfl, h1, b1, k1⟩
 have Hn := Aside0.mk h1
 have HGn := Aside0.mk (HG.out.below b1 hpos)
 have Bn := Aside0.mk (B0.out.trans b1)
 have Sn := Aside0.mk (Nat.le_trans S0.out k1.1)
 clear h1 b1 k1 H HG B0 S0
 have H := Hn
 have HG := HGn
 have B0 := Bn
 have S0 := Sn
 clear Hn HGn Bn Sn
 go_wp2_with (go_at_call 39; refine (token_walk_eat.yesK B g _ [60] q L _ H.out E4.out).mono ?_)
 rintro e w4 ⟨rfl, h1, b1, k1⟩
 have Hn := Aside0.mk h1
 have HGn := Aside0.mk (HG.out.below b1 hpos)
 have Bn := Aside0.mk (B0.out.trans b1)
 have Sn := Aside0.mk (Nat.le_trans S0.out k1.1)
 clear h1 b1 k1 H HG B0 S0
 have H := Hn
 have HG := HGn
 have B0 := Bn
 have S0 := Sn
 clear Hn HGn Bn Sn
 go_wp2_with (go_at_call 44; refine (token_walk_begin.all B g q res L _ H.out HG.out hlq hL (fun k hk => hok k (Nat.le_trans S0.out hk)) HX.out).mono ?_)
 rintro e wz ⟨hy, hn, bz⟩
 have BZ := Aside0.mk (B0.out.trans bz)
 clear bz
 cases hr : res with
 | none =>
  obtain rfl := hn hr
  clear hy hn
  go_wp2
  go_ret
  exact ⟨(fun t r h => by rw [hr] at h; cases h), fun _ => rfl, BZ.out⟩
 | some p =>
  obtain ⟨t0, r0⟩ := p
  obtain ⟨rfl, h1⟩ := hy t0 r0 hr
  have H1 := Aside0.mk h1
  clear hy hn h1
  go_wp2
  go_ret
  refine ⟨fun t r h => ?_, (fun h => by rw [hr] at h; cases h), BZ.out⟩
  rw [hr] at h
  obtain ⟨rfl, rfl⟩ := Prod.mk.inj (Option.some.inj h)
  exact ⟨rfl, H1.out⟩
set_option maxHeartbeats 4000000 in
set_option maxRecDepth 100000 in
theorem token_walk_next.w5 (B g : Nat) {ok : Nat → Prop} (fst : Bool) (l : List UInt8) (res : Option (S32 × List UInt8)) (L : List S32) (w : World) (h : WalkAt w B g ok (Tk.bs l) L) (hG : Glob w) (hl : l.length ≤ 100000) (hL : L.length ≤ 100000) (hok : ∀ k, w.heap.size ≤ k → ok k) (h0 : Tk.behind [60, 33, 45, 45] l = none) (h1 : Tk.behind [60, 33, 91, 67, 68, 65, 84, 65, 91] l = none) (h2 : Tk.behind [60, 63] l = none) (h3 : Tk.behind [60, 47] l = none) (h4 : Tk.behind [60] l = none) (hx : Tk.text l = res) :
 Calls Try.prog 25 #[.pointer (some ⟨g, 0, none⟩), .bool fst] w fun e w' => (∀ t r, res = some (t, r) → e = .returned (.bool true) ∧ WalkAt w' B g ok (Tk.bs r) (L ++ [t])) ∧ (res = none → e = .returned (.bool false)) ∧ Below B w w' := by
 have hpos := h.pos
 have HG := Aside0.mk hG
 have HX := Aside0.mk hx
 have H := Aside0.mk h
 have E0 := Aside0.mk h0
 have E1 := Aside0.mk h1
 have E2 := Aside0.mk h2
 have E3 := Aside0.mk h3
 have E4 := Aside0.mk h4
 clear h hG hx h0 h1 h2 h3 h4
 have B0 := Aside0.mk (Below.refl B w)
 have S0 := Aside0.mk (Nat.le_refl w.heap.size)
 go_enter Try.func25, Try.ntmps25
 go_wp2_with (go_at_call 39; refine (token_walk_eat.noK B g _ [60, 33, 45, 45] L _ H.out E0.out).mono ?_)
 rintro e w0 ⟨rfl, h1, b1, k1⟩
 have Hn := Aside0.mk h1
 have HGn := Aside0.mk (HG.out.below b1 hpos)
 have Bn := Aside0.mk (B0.out.trans b1)
 have Sn := Aside0.mk (Nat.le_trans S0.out k1.1)
 clear h1 b1 k1 H HG B0 S0
 have H := Hn
 have HG := HGn
 have B0 := Bn
 have S0 := Sn
 clear Hn HGn Bn Sn
 go_wp2_with (go_at_call 39; refine (token_walk_eat.noK B g _ [60, 33, 91, 67, 68, 65, 84, 65, 91] L _ H.out E1.out).mono ?_)
 rintro e w1 ⟨rfl, h1, b1, k1⟩
 have Hn := Aside0.mk h1
 have HGn := Aside0.mk (HG.out.below b1 hpos)
 have Bn := Aside0.mk (B0.out.trans b1)
 have Sn := Aside0.mk (Nat.le_trans S0.out k1.1)
 clear h1 b1 k1 H HG B0 S0
 have H := Hn
 have HG := HGn
 have B0 := Bn
 have S0 := Sn
 clear Hn HGn Bn Sn
 go_wp2_with (go_at_call 39; refine (token_walk_eat.noK B g _ [60, 63] L _ H.out E2.out).mono ?_)
 rintro e w2 ⟨rfl, h1, b1, k1⟩
 have Hn := Aside0.mk h1
 have HGn := Aside0.mk (HG.out.below b1 hpos)
 have Bn := Aside0.mk (B0.out.trans b1)
 have Sn := Aside0.mk (Nat.le_trans S0.out k1.1)
 clear h1 b1 k1 H HG B0 S0
 have H := Hn
 have HG := HGn
 have B0 := Bn
 have S0 := Sn
 clear Hn HGn Bn Sn
 go_wp2_with (go_at_call 39; refine (token_walk_eat.noK B g _ [60, 47] L _ H.out E3.out).mono ?_)
 rintro e w3 ⟨rfl, h1, b1, k1⟩
 have Hn := Aside0.mk h1
 have HGn := Aside0.mk (HG.out.below b1 hpos)
 have Bn := Aside0.mk (B0.out.trans b1)
 have Sn := Aside0.mk (Nat.le_trans S0.out k1.1)
 clear h1 b1 k1 H HG B0 S0
 have H := Hn
 have HG := HGn
 have B0 := Bn
 have S0 := Sn
 clear Hn HGn Bn Sn
 go_wp2_with (go_at_call 39; refine (token_walk_eat.noK B g _ [60] L _ H.out E4.out).mono ?_)
 rintro e w4 ⟨rfl, h1, b1, k1⟩
 have Hn := Aside0.mk h1
 have HGn := Aside0.mk (HG.out.below b1 hpos)
 have Bn := Aside0.mk (B0.out.trans b1)
 have Sn := Aside0.mk (Nat.le_trans S0.out k1.1)
 clear h1 b1 k1 H HG B0 S0
 have H := Hn
 have HG := HGn
 have B0 := Bn
 have S0 := Sn
 clear Hn HGn Bn Sn
 go_wp2_with (go_at_call 45; refine (token_walk_text.all B g l res L _ H.out HG.out hl hL (fun k hk => hok k (Nat.le_trans S0.out hk)) HX.out).mono ?_)
 rintro e wz ⟨hy, hn, bz⟩
 have BZ := Aside0.mk (B0.out.trans bz)
 clear bz
 cases hr : res with
 | none =>
  obtain rfl := hn hr
  clear hy hn
  go_wp2
  go_ret
  exact ⟨(fun t r h => by rw [hr] at h; cases h), fun _ => rfl, BZ.out⟩
 | some p =>
  obtain ⟨t0, r0⟩ := p
  obtain ⟨rfl, h1⟩ := hy t0 r0 hr
  have H1 := Aside0.mk h1
  clear hy hn h1
  go_wp2
  go_ret
  refine ⟨fun t r h => ?_, (fun h => by rw [hr] at h; cases h), BZ.out⟩
  rw [hr] at h
  obtain ⟨rfl, rfl⟩ := Prod.mk.inj (Option.some.inj h)
  exact ⟨rfl, H1.out⟩
theorem token_walk_next.all (B g : Nat) {ok : Nat → Prop} (fst : Bool) (l : List UInt8) (res : Option (S32 × List UInt8)) (L : List S32) (w : World) (h : WalkAt w B g ok (Tk.bs l) L) (hG : Glob w) (hl : l.length ≤ 100000) (hL : L.length ≤ 100000) (hok : ∀ k, w.heap.size ≤ k → ok k) (hx : Tk.next fst l = res) :
 Calls Try.prog 25 #[.pointer (some ⟨g, 0, none⟩), .bool fst] w fun e w' => (∀ t r, res = some (t, r) → e = .returned (.bool true) ∧ WalkAt w' B g ok (Tk.bs r) (L ++ [t])) ∧ (res = none → e = .returned (.bool false)) ∧ Below B w w' := by
 unfold Tk.next at hx
 cases h0 : Tk.behind [60, 33, 45, 45] l with
 | some q => rw [h0] at hx; exact token_walk_next.w0 B g fst l res q L w h hG hl hL hok h0 hx
 | none =>
  rw [h0] at hx
  dsimp only at hx
  cases h1 : Tk.behind [60, 33, 91, 67, 68, 65, 84, 65, 91] l with
  | some q => rw [h1] at hx; exact token_walk_next.w1 B g fst l res q L w h hG hl hL hok h0 h1 hx
  | none =>
   rw [h1] at hx
   dsimp only at hx
   cases h2 : Tk.behind [60, 63] l with
   | some q => rw [h2] at hx; exact token_walk_next.w2 B g fst l res q L w h hG hl hL hok h0 h1 h2 hx
   | none =>
    rw [h2] at hx
    dsimp only at hx
    cases h3 : Tk.behind [60, 47] l with
    | some q => rw [h3] at hx; exact token_walk_next.w3 B g fst l res q L w h hG hl hL hok h0 h1 h2 h3 hx
    | none =>
     rw [h3] at hx
     dsimp only at hx
     cases h4 : Tk.behind [60] l with
     | some q => rw [h4] at hx; exact token_walk_next.w4 B g fst l res q L w h hG hl hL hok h0 h1 h2 h3 h4 hx
     | none =>
      rw [h4] at hx
      dsimp only at hx
      exact token_walk_next.w5 B g fst l res L w h hG hl hL hok h0 h1 h2 h3 h4 hx


end Go.Proofs.Ytomikblbfappnaa.Q

-- Printed by this session's wip/np.py over the kit's print program. Not trusted: Lean checks it.
namespace Go.Proofs.Ytomikblbfappnaa.Q
open Go.RowKit Go.Proofs.YtomikblbfappnaaW.PrintWords Go.Proofs.YtomikblbfappnaaW.PrintLast Go.Proofs.YtomikblbfappnaaW.Own Go.Proofs.YtomikblbfappnaaW.PrintMore
attribute [local go_sem] max2_int min2_int max_two min_two max_three min_three max_four min_four
set_option linter.unusedVariables false
set_option linter.unusedSimpArgs false

/-! ### token_Split: function 12 -/
theorem allowed_f (c : UInt8) : chars_Allowed.f (c.toNat : Int) = some (Tk.allowed c) := Tk.bytes_all (by kernel_rfl) c
def badB (c : UInt8) : Bool := !Tk.allowed c
set_option maxHeartbeats 4000000 in
set_option maxRecDepth 100000 in
theorem token_Split.clo (c : UInt8) (x : Int) (hx : x = (c.toNat : Int)) (w : World) (hG : Glob w) :
 Calls Try.prog 23 #[.int .u8 x] w fun e w' => e = .returned (.bool (badB c)) ∧ Below w.heap.size w w' := by
 have hf := allowed_f c
 rw [← hx] at hf
 obtain ⟨b, hb⟩ : ∃ b, Tk.allowed c = b := ⟨_, rfl⟩
 have hbb : badB c = !b := by unfold badB; rw [hb]
 rw [hb] at hf
 rw [hbb]
 have HF := Aside0.mk hf
 have HG := Aside0.mk hG
 clear hf hG hb hbb hx
 go_enter Try.func23, Try.ntmps23
 go_wp2_with (first | (go_at_call 24; (with_reducible refine (chars_Allowed.calls x b _ HG.out HF.out).mono ?_); rintro e w1 ⟨rfl, ⟨nd, rfl⟩⟩))
 go_ret
 exact ⟨rfl, pw_below_drewN (Below.refl _ _) nd⟩
theorem bytes_rd (l : List UInt8) (i : Nat) (h : i < l.length) : rd (bytesOf (Tk.bs l)) (i : Int) = (l[i].toNat : Int) := by rw [rd_bytesOf, bs_bt l i h]
set_option maxHeartbeats 8000000 in
set_option maxRecDepth 100000 in
theorem token_Split.ix (A0 : Option Addr) (c0 : Nat) (l : List UInt8) (w : World) (hr0 : Kd.C (Kd.int .u8) w A0 l.length (bytesOf (Tk.bs l))) (hlen : l.length ≤ 1000000) (hG : Glob w) :
 Calls Try.prog 37 #[.slice A0 l.length c0, .func (.func 23) #[] #[]] w fun e w' => (∃ r : Int, e = .returned (.int .i64 r) ∧ decide (0 ≤ r) = l.any badB) ∧ Below w.heap.size w w' := by
 have HR0 := Aside0.mk hr0
 have HG := Aside0.mk hG
 clear hr0 hG
 go_enter Try.func37, Try.ntmps37
 go_wp2
 go_loopg [8] (l.length + 1) (fun gk v8 w' => ∃ (i : Nat) (x : Int), i ≤ l.length ∧ i + gk = l.length + 1 ∧ v8 = .int .i64 x ∧ Aside0 (x = (i : Int)) ∧ Aside0 ((l.take i).any badB = false) ∧ Aside0 (Below w.heap.size w w'))
 case atStart => exact ⟨0, 0, by omega, by omega, by first | rfl | (simp; done), ⟨rfl⟩, ⟨by rw [List.take_zero]; rfl⟩, ⟨Below.refl _ _⟩⟩
 case round =>
  obtain ⟨i, x, hi, hgk, rfl, HX, HA, HB⟩ := hrel
  have hxi := HX.out
  by_cases hlt : i < l.length
  ·obtain ⟨g1, rfl⟩ : ∃ g1, gk = g1 + 1 := ⟨gk - 1, by omega⟩
   have d1 : decide (x < (l.length : Int)) = true := decide_eq_true (by omega)
   obtain ⟨ad, e_, hx0⟩ := Kd.at_int HR0.out x (by omega) (by omega)
   cases e_
   obtain ⟨y, hy⟩ : ∃ y, rd (bytesOf (Tk.bs l)) x = y := ⟨_, rfl⟩
   have hyc : y = (l[i].toNat : Int) := by rw [← hy, hxi, bytes_rd l i hlt]
   rw [hy] at hx0
   replace hx0 := (HB.out.cell (World.block_lt_of_cell? w _ hx0)).trans hx0
   have p_ := eq_true (show 0 ≤ x by omega)
   have q_ := eq_true (show x < (l.length : Int) by omega)
   have hat := any_take badB l i hlt
   rw [HA.out, Bool.false_or] at hat
   have C2 := token_Split.clo l[i] y hyc wr (HG.out.step HB.out)
   cases hps : badB l[i] with
   | true =>
    rw [hps] at C2
    have hall : l.any badB = true := any_hit hlt hps
    have HALL := Lib.hid hall
    have HX0 : decide (0 ≤ x) = true := decide_eq_true (by omega)
    have HXX := Lib.hid HX0
    have C3 := Aside0.mk C2
    clear hps hall hat hxi C2 HX0 hy hyc
    go_wp2_with (first | (go_at_call 23; (with_reducible refine (C3.out).mono ?_); rintro e w4 ⟨rfl, hb⟩; have B4 := Aside0.mk hb; clear hb))
    go_ret
    exact ⟨⟨_, rfl, by rw [HALL.out, HXX.out]⟩, below_step HB.out B4.out⟩
   | false =>
    rw [hps] at C2 hat
    have HAT := Aside0.mk hat
    have C3 := Aside0.mk C2
    have hw1 : wrap64 (x + 1) = ((i + 1 : Nat) : Int) := by unfold wrap64; omega
    have HW1 := Aside0.mk hw1
    clear hps hat hxi C2 hw1 hy hyc
    go_wp2_with (first | (go_at_call 23; (with_reducible refine (C3.out).mono ?_); rintro e w4 ⟨rfl, hb⟩; have B4 := Aside0.mk hb; clear hb))
    go_roundg g1
    case measure => omega
    case rel => exact ⟨i + 1, _, by omega, by omega, by first | rfl | (simp; done), HW1, HAT, ⟨below_step HB.out B4.out⟩⟩
  ·obtain rfl : i = l.length := by omega
   have d1 : decide (x < (l.length : Int)) = false := decide_eq_false (by omega)
   have hall : l.any badB = false := by have := HA.out; rwa [List.take_length] at this
   have HALL := Lib.hid hall
   clear hall hxi
   go_wp2
   go_ret
   exact ⟨⟨_, rfl, by rw [HALL.out]; rfl⟩, HB.out⟩
set_option maxHeartbeats 8000000 in
set_option maxRecDepth 100000 in
theorem token_Split.has (A0 : Option Addr) (c0 : Nat) (l : List UInt8) (w : World) (hr0 : Kd.C (Kd.int .u8) w A0 l.length (bytesOf (Tk.bs l))) (hlen : l.length ≤ 1000000) (hG : Glob w) :
 Calls Try.prog 22 #[.slice A0 l.length c0, .func (.func 23) #[] #[]] w fun e w' => e = .returned (.bool (l.any badB)) ∧ Below w.heap.size w w' := by
 have C1 := Aside0.mk (token_Split.ix A0 c0 l w hr0 hlen hG)
 obtain ⟨b, hb⟩ : ∃ b, b = l.any badB := ⟨_, rfl⟩
 rw [← hb] at C1 ⊢
 clear hr0 hG hb
 go_enter Try.func22, Try.ntmps22
 go_wp2_with (first | (go_at_call 37; (with_reducible refine C1.out.mono ?_); rintro e w4 ⟨⟨r, rfl, hr⟩, hb⟩; have HB := Aside0.mk hb; have HR := Lib.hid hr; clear hb hr))
 go_ret
 refine ⟨?_, HB.out⟩
 rw [← HR.out]
 first | rfl | (simp; done)
theorem attrs_len : ∀ (n : Nat) (nm : List UInt8) (ys : List S39) (l : List UInt8) (t : S32) (r : List UInt8), Tk.attrs n nm ys l = some (t, r) → r.length ≤ l.length
 | 0, _, _, _, _, _, h => by simp [Tk.attrs] at h
 | n + 1, nm, ys, l, t, r, h => by
  rw [Tk.attrs] at h
  (try dsimp only at h)
  have hs := skip_len l
  cases h1 : Tk.behind [62] (Tk.skip l) with
  | some q =>
   rw [h1] at h
   obtain ⟨_, rfl⟩ := Prod.mk.inj (Option.some.inj h)
   exact Nat.le_trans (behind_len h1) hs
  | none =>
   rw [h1] at h
   (try dsimp only at h)
   cases h2 : Tk.behind [47, 62] (Tk.skip l) with
   | some q =>
    rw [h2] at h
    obtain ⟨_, rfl⟩ := Prod.mk.inj (Option.some.inj h)
    exact Nat.le_trans (behind_len h2) hs
   | none =>
    rw [h2] at h
    (try dsimp only at h)
    split at h
    ·cases h
    ·obtain ⟨⟨x, q⟩, h3, h⟩ := Option.bind_eq_some_iff.1 h
     (try dsimp only at h)
     split at h
     ·cases h
     ·have := attrs_len n nm _ q t r h
      have := attr_len h3
      omega
theorem next_len {fst : Bool} {l r : List UInt8} {t : S32} (hl : l ≠ []) (h : Tk.next fst l = some (t, r)) : r.length < l.length := by
 unfold Tk.next at h
 cases h1 : Tk.behind [60, 33, 45, 45] l with
 | some q =>
  rw [h1] at h
  have e := behind_sum h1
  unfold Tk.comment at h
  obtain ⟨⟨a, b⟩, h2, h⟩ := Option.bind_eq_some_iff.1 h
  (try dsimp only at h)
  split at h
  ·cases h
  ·obtain ⟨_, rfl⟩ := Prod.mk.inj (Option.some.inj h)
   have := (upto_len h2).2
   simp only [List.length_cons, List.length_nil] at e
   (try dsimp only)
   omega
 | none =>
 rw [h1] at h
 (try dsimp only at h)
 cases h1 : Tk.behind [60, 33, 91, 67, 68, 65, 84, 65, 91] l with
 | some q =>
  rw [h1] at h
  have e := behind_sum h1
  obtain ⟨⟨a, b⟩, h2, h⟩ := Option.map_eq_some_iff.1 (show (Tk.upto [93, 93, 62] q).map _ = some (t, r) from h)
  obtain ⟨_, rfl⟩ := Prod.mk.inj h
  have := (upto_len h2).2
  simp only [List.length_cons, List.length_nil] at e
  (try dsimp only)
  omega
 | none =>
 rw [h1] at h
 (try dsimp only at h)
 cases h1 : Tk.behind [60, 63] l with
 | some q =>
  rw [h1] at h
  have e := behind_sum h1
  obtain ⟨⟨a, b⟩, h2, h⟩ := Option.bind_eq_some_iff.1 (show (Tk.upto [63, 62] q).bind _ = some (t, r) from h)
  (try dsimp only at h)
  split at h
  ·obtain ⟨_, rfl⟩ := Prod.mk.inj (Option.some.inj h)
   have := (upto_len h2).2
   simp only [List.length_cons, List.length_nil] at e
   (try dsimp only)
   omega
  ·cases h
 | none =>
 rw [h1] at h
 (try dsimp only at h)
 cases h1 : Tk.behind [60, 47] l with
 | some q =>
  rw [h1] at h
  have e := behind_sum h1
  (try dsimp only at h)
  unfold Tk.close at h
  split at h
  ·cases h
  ·obtain ⟨b, h2, h⟩ := Option.map_eq_some_iff.1 h
   obtain ⟨_, rfl⟩ := Prod.mk.inj h
   have e2 := behind_len h2
   have e3 := skip_len (q.drop (Tk.head q).length)
   rw [List.length_drop] at e3
   simp only [List.length_cons, List.length_nil] at e
   omega
 | none =>
 rw [h1] at h
 (try dsimp only at h)
 cases h1 : Tk.behind [60] l with
 | some q =>
  rw [h1] at h
  have e := behind_sum h1
  (try dsimp only at h)
  unfold Tk.opening at h
  split at h
  ·cases h
  ·have e2 := attrs_len _ _ _ _ _ _ h
   rw [List.length_drop] at e2
   simp only [List.length_cons, List.length_nil] at e
   omega
 | none =>
 rw [h1] at h
 (try dsimp only at h)
 unfold Tk.text at h
 (try dsimp only at h)
 obtain ⟨x, _, h⟩ := Option.map_eq_some_iff.1 h
 obtain ⟨_, rfl⟩ := Prod.mk.inj h
 cases l with
 | nil => exact absurd rfl hl
 | cons c q =>
  have hc : (c != 60) = true := by
   by_cases hc : c = 60
   ·subst hc; simp [Tk.behind, List.isPrefixOf] at h1
   ·simpa using hc
  rw [List.takeWhile_cons, if_pos hc, List.length_drop, List.length_cons, List.length_cons]
  omega
def token_Split.f (a0 : ByteArray) : Option (List S32 × Int) := if a0.size ≤ 9223372036854775807 then some (Tk.split a0.data.toList) else none
set_option maxHeartbeats 16000000 in
set_option maxRecDepth 100000 in
/-- The walk over the pieces; B: where the call began, wb: the world then. -/
theorem token_Split.loop (l : List UInt8) (P : Option (List S32)) (hl : l.length ≤ 20000) (hbad : l.any badB = false) (hP : Tk.pieces (l.length + 1) true l = P) (w : World) (hG : Glob w) :
 Calls Try.prog 12 #[.string (Tk.bs l)] w fun e w' => (∀ t, P = some t → ∃ v0_ : Value, e = .returned (.tuple #[v0_, .int .i64 0]) ∧ Kd.S k32 32 w' w.heap.size (fun _ => True) v0_ t) ∧ (P = none → e = .returned (.tuple #[.slice none 0 0, .int .i64 5])) ∧ Below w.heap.size w w' := by
 have hsz := bs_size l
 have hpos := hG.lt
 obtain ⟨s, hs⟩ : ∃ s, s = Tk.bs l := ⟨_, rfl⟩
 have d1 : decide ((20000 : Int) < (s.size : Int)) = false := decide_eq_false (by rw [hs, hsz]; omega)
 have d1' : decide (20000 < s.size) = false := decide_eq_false (by rw [hs, hsz]; omega)
 have kb := fun W => print_bytes (P := Try.prog) 9 35 5 Try.underlying9 Try.underlying35 Try.underlying5 s W
 have hr : Kd.C (Kd.int .u8) (Lib.bytesWorld w 5 s) (some ⟨w.heap.size, 0, none⟩) s.size (bytesOf s) := Kd.C_of_reads (enc := Value.int .u8) (d := (0 : Int)) (h1 := fun _ => rfl) (bytes_reads w 5 s (by rw [hs, hsz]; omega))
 have hb : Below w.heap.size w (Lib.bytesWorld w 5 s) := bytes_below (Below.refl _ _) (Nat.le_refl _) _ _
 have hu := Try.underlying54
 have HSZ := Lib.hid (show s.size = l.length by rw [hs, hsz])
 have HS := Lib.hid hs
 have HBAD := Lib.hid hbad
 have HP := Lib.hid hP
 have HR := Aside0.mk hr
 have HBB := Aside0.mk hb
 have HG := Aside0.mk hG
 rw [← hs]
 clear hs hsz hr hb hG hbad hP
 go_enter Try.func12, Try.ntmps12
 go_wp2
 refine wp_scope_loop 0 (by rfl) ?_
 go_wp2_with (fail)
 have hC := HR.out
 rw [HSZ.out, HS.out] at hC
 rw [HSZ.out]
 refine (token_Split.has _ _ l _ (by rw [← HS.out] at hC ⊢; exact hC) (by omega) (HG.out.step HBB.out)).mono ?_
 rintro e wc ⟨rfl, b1⟩
 rw [HBAD.out]
 have HBC := Aside0.mk (HBB.out.trans (b1.mono HBB.out.size))
 clear b1 hC HBB HR kb d1 d1'
 go_wp2_with (fail)
 have hb0 : Below wc.heap.size wc (wc.alloc (.cells #[.string s, .slice none 0 0] 54)) := below_alloc (Below.refl _ _) _
 have X0 : (wc.alloc (.cells #[.string s, .slice none 0 0] 54)).heap[wc.heap.size]? = some (.cells #[.string s, .slice none 0 0] 54 (0, 0)) := heap_alloc_new wc _
 obtain ⟨g, hg⟩ : ∃ g, g = wc.heap.size := ⟨_, rfl⟩
 obtain ⟨B, hBe⟩ : ∃ B, B = w.heap.size := ⟨_, rfl⟩
 obtain ⟨wb, hwb⟩ : ∃ wb, wb = w := ⟨_, rfl⟩
 have hgB : B ≤ g := by have := HBC.out.size; omega
 have H2 := Aside0.mk (show WalkAt (wc.alloc (.cells #[.string s, .slice none 0 0] 54)) B g (fun _ => True) (Tk.bs l) [] from by rw [← HS.out]; exact ⟨_, by rw [hg]; exact X0, Kd.S_nil _ _ _ _ _, hgB, by omega⟩)
 have B2 := Aside0.mk (show Below B wb (wc.alloc (.cells #[.string s, .slice none 0 0] 54)) from by rw [hBe, hwb]; exact HBC.out.trans (hb0.mono HBC.out.size))
 have HGb := Aside0.mk (show Glob wb from by rw [hwb]; exact HG.out)
 have hposB : 0 < B := by omega
 rw [← hg]
 rw [← hBe, ← hwb]
 clear hb0 X0 HBC HG
 generalize wc.alloc _ = w0 at *
 have HBE := Lib.hid hBe
 have HWB := Lib.hid hwb
 clear hg hBe hwb
 refine wp_label ?_
 rename_i hlb
 refine hlb _ _ ?_
 refine wp_at_label ?_
 refine LoopAt.intro (fun aB_ kq_ a1 w1 => ∃ (u2 u3 u16 u17 u18 u19 u20 u21 u22 u23 u24 u25 u26 u27 u28 u29 u30 u31 u32 u33 u34 u35 : Value), (∃ (m : List UInt8) (L : List S32) (fst : Bool), m.length < kq_ ∧ Aside0 (fst = decide (m.length = l.length)) ∧ Aside0 (L.length + m.length ≤ l.length) ∧ Aside0 (P = (Tk.pieces kq_ fst m).map fun t => L ++ t) ∧ Aside0 (WalkAt w1 B g (fun _ => True) (Tk.bs m) L) ∧ Aside0 (Below B wb w1)) ∧ a1 = ((((((((((((((((((((((aB_.put (some 2) u2).put (some 3) u3).put (some 16) u16).put (some 17) u17).put (some 18) u18).put (some 19) u19).put (some 20) u20).put (some 21) u21).put (some 22) u22).put (some 23) u23).put (some 24) u24).put (some 25) u25).put (some 26) u26).put (some 27) u27).put (some 28) u28).put (some 29) u29).put (some 30) u30).put (some 31) u31).put (some 32) u32).put (some 33) u33).put (some 34) u34).put (some 35) u35)) (l.length + 1) ?_ ?_
 ·(repeat apply Exists.intro)
  (try simp only [Act.put, List.setIfInBounds_toArray, List.set_cons_zero, List.set_cons_succ])
  refine ⟨?_, rfl⟩
  exact ⟨l, [], true, Nat.lt_succ_self _, ⟨by simp⟩, ⟨by simp⟩, ⟨by rw [HP.out]; simp⟩, H2, B2⟩
 ·intro gk a1 wr hinv
  obtain ⟨u2, u3, u16, u17, u18, u19, u20, u21, u22, u23, u24, u25, u26, u27, u28, u29, u30, u31, u32, u33, u34, u35, hrel, ha⟩ := hinv
  subst ha
  (try simp only [Act.put, List.setIfInBounds_toArray, List.set_cons_zero, List.set_cons_succ])
  intro Js0 Ks0 hJs0 hKs0
  clear H2 B2 HP
  obtain ⟨m, L, fst, hmk, HFS, HLM, HP, H, HB⟩ := hrel
  obtain ⟨g1, rfl⟩ : ∃ g1, gk = g1 + 1 := ⟨gk - 1, by omega⟩
  have hlm := HLM.out
  have hsl := HSZ.out
  have hmz := bs_size m
  have c0 := H.out.cell0
  have HG1 := Aside0.mk (HGb.out.below HB.out (by show 0 < B; omega))
  by_cases hm : m = []
  ·have hPL : P = some L := by
    rw [HP.out, Tk.pieces, if_pos hm]; simp
   have HPL := Lib.hid hPL
   have e1 := bs_none hm
   have H0 := H.out
   obtain ⟨v, h1, h2, _⟩ := H0
   obtain ⟨A1, c1, rfl⟩ := Kd.S_slice h2
   have c1' := (blk_cell h1 1).trans rfl
   have H2 := Aside0.mk h2
   clear h1 h2 hPL hm HP hlm hsl hmz
   go_wp2_with (fail)
   (try simp only [Exit.inBlock, Exit.then, jump_ret])
   go_ret2
   have HBf := HB.out
   have H2f := H2.out
   rw [HBE.out, HWB.out] at HBf
   rw [HBE.out] at H2f
   refine ⟨fun t h => ?_, (fun h => by rw [HPL.out] at h; cases h), HBf⟩
   rw [HPL.out] at h
   obtain rfl := Option.some.inj h
   exact ⟨_, rfl, Kd.S_mono H2f (fun _ _ => trivial)⟩
  ·obtain ⟨e1, e2, e3, e4⟩ := bs_some hm
   have hP1 : P = ((Tk.next fst m).bind fun p => (Tk.pieces g1 false p.2).map fun t => p.1 :: t).map fun t => L ++ t := by
    rw [HP.out, Tk.pieces, if_neg hm]
   have hfs : ((((Tk.bs m).size : Nat) : Int) == ((s.size : Nat) : Int)) = fst := by
    rw [HFS.out, hmz, hsl]
    rw [Bool.eq_iff_iff, beq_iff_eq, decide_eq_true_eq]
    omega
   have hfs2 : ((Tk.bs m).size == s.size) = fst := by
    rw [HFS.out, hmz, hsl]
    rw [Bool.eq_iff_iff, beq_iff_eq, decide_eq_true_eq]
   have HP1 := Lib.hid hP1
   obtain ⟨res, hres⟩ : ∃ res, Tk.next fst m = res := ⟨_, rfl⟩
   have CN := Aside0.mk (token_walk_next.all B g fst m res L wr H.out HG1.out (by omega) (by omega) (fun _ _ => trivial) hres)
   have HRS := Lib.hid hres
   have HM := Lib.hid hm
   clear hP1 hres hm HP hsl hmz
   go_wp2_with (go_at_call 25; (with_reducible refine CN.out.mono ?_))
   rintro e wn ⟨hy, hn, bn⟩
   have B3 := Aside0.mk (HB.out.trans bn)
   clear bn CN
   cases hr : res with
   | none =>
    obtain rfl := hn hr
    have hPN : P = none := by rw [HP1.out, HRS.out, hr]; rfl
    have HPN := Lib.hid hPN
    clear hy hn hPN hr
    go_wp2_with (fail)
    (try simp only [Exit.inBlock, Exit.then, jump_ret])
    go_ret2
    have HBf := B3.out
    rw [HBE.out, HWB.out] at HBf
    exact ⟨(fun t h => by rw [HPN.out] at h; cases h), fun _ => rfl, HBf⟩
   | some p =>
    obtain ⟨t0, r0⟩ := p
    obtain ⟨rfl, h1⟩ := hy t0 r0 hr
    have H3 := Aside0.mk h1
    have hrl := next_len HM.out (HRS.out.trans hr)
    have hPN : P = (Tk.pieces g1 false r0).map fun t => (L ++ [t0]) ++ t := by
     rw [HP1.out, HRS.out, hr]
     cases hq : Tk.pieces g1 false r0 with
     | none => simp [hq]
     | some t => simp [hq]
    have HPN := Aside0.mk hPN
    clear hy hn h1 hPN hr hfs hfs2
    go_wp2_with (fail)
    refine wp_goto (And.intro rfl ?_)
    refine hKs0 _ _ ?_
    go_roundg g1
    case measure => omega
    case rel => exact ⟨r0, L ++ [t0], false, by omega, ⟨by rw [eq_comm, decide_eq_false_iff_not]; omega⟩, ⟨by rw [List.length_append, List.length_singleton]; omega⟩, HPN, H3, B3⟩
set_option maxHeartbeats 4000000 in
set_option maxRecDepth 100000 in
theorem token_Split.big (l : List UInt8) (hl : 20000 < l.length) (hl2 : l.length ≤ 9223372036854775807) (w : World) :
 Calls Try.prog 12 #[.string (Tk.bs l)] w fun e w' => e = .returned (.tuple #[.slice none 0 0, .int .i64 3]) ∧ w = w' := by
 have hsz := bs_size l
 obtain ⟨s, hs⟩ : ∃ s, s = Tk.bs l := ⟨_, rfl⟩
 rw [← hs] at hsz ⊢
 have d1 : decide ((20000 : Int) < (s.size : Int)) = true := decide_eq_true (by omega)
 have d1' : decide (20000 < s.size) = true := decide_eq_true (by omega)
 clear hs hsz
 go_enter Try.func12, Try.ntmps12
 go_wp2
 refine wp_scope_loop 0 (by rfl) ?_
 go_wp2_with (fail)
 (try simp only [Exit.inBlock, Exit.then, jump_ret])
 go_ret2
 exact ⟨rfl, rfl⟩
set_option maxHeartbeats 4000000 in
set_option maxRecDepth 100000 in
theorem token_Split.bad (l : List UInt8) (hl : l.length ≤ 20000) (hbad : l.any badB = true) (w : World) (hG : Glob w) :
 Calls Try.prog 12 #[.string (Tk.bs l)] w fun e w' => e = .returned (.tuple #[.slice none 0 0, .int .i64 4]) ∧ Below w.heap.size w w' := by
 have hsz := bs_size l
 obtain ⟨s, hs⟩ : ∃ s, s = Tk.bs l := ⟨_, rfl⟩
 have d1 : decide ((20000 : Int) < (s.size : Int)) = false := decide_eq_false (by rw [hs, hsz]; omega)
 have d1' : decide (20000 < s.size) = false := decide_eq_false (by rw [hs, hsz]; omega)
 have kb := fun W => print_bytes (P := Try.prog) 9 35 5 Try.underlying9 Try.underlying35 Try.underlying5 s W
 have hr : Kd.C (Kd.int .u8) (Lib.bytesWorld w 5 s) (some ⟨w.heap.size, 0, none⟩) s.size (bytesOf s) := Kd.C_of_reads (enc := Value.int .u8) (d := (0 : Int)) (h1 := fun _ => rfl) (bytes_reads w 5 s (by rw [hs, hsz]; omega))
 have hb : Below w.heap.size w (Lib.bytesWorld w 5 s) := bytes_below (Below.refl _ _) (Nat.le_refl _) _ _
 have HSZ := Lib.hid (show s.size = l.length by rw [hs, hsz])
 have HS := Lib.hid hs
 have HBAD := Lib.hid hbad
 have HR := Aside0.mk hr
 have HBB := Aside0.mk hb
 have HG := Aside0.mk hG
 rw [← hs]
 clear hs hsz hr hb hG hbad
 go_enter Try.func12, Try.ntmps12
 go_wp2
 refine wp_scope_loop 0 (by rfl) ?_
 go_wp2_with (fail)
 have hC := HR.out
 rw [HSZ.out, HS.out] at hC
 rw [HSZ.out]
 refine (token_Split.has _ _ l _ (by rw [← HS.out] at hC ⊢; exact hC) (by omega) (HG.out.step HBB.out)).mono ?_
 rintro e wc ⟨rfl, b1⟩
 rw [HBAD.out]
 have HBC := Aside0.mk (HBB.out.trans (b1.mono HBB.out.size))
 clear b1 hC HBB HR kb d1 d1'
 go_wp2_with (fail)
 (try simp only [Exit.inBlock, Exit.then, jump_ret])
 go_ret2
 exact ⟨rfl, HBC.out⟩
theorem badB_eq (l : List UInt8) : l.any badB = l.any (fun c => !Tk.allowed c) := rfl
theorem token_Split.calls (a0 : ByteArray) (r1 : List S32) (r2 : Int) (w : World) (hG : Glob w) (h : token_Split.f a0 = some (r1, r2)) :
 Calls Try.prog 12 #[.string a0] w fun e w' => ∃ v0_ : Value, e = .returned (.tuple #[v0_, .int .i64 r2]) ∧ Kd.S k32 32 w' w.heap.size (fun _ => True) v0_ r1 ∧ Below w.heap.size w w' := by
 unfold token_Split.f at h
 have hl2 : a0.size ≤ 9223372036854775807 := by
  refine Classical.byContradiction fun hc => ?_
  rw [if_neg hc] at h
  cases h
 rw [if_pos hl2] at h
 have hx := Option.some.inj h
 rw [Lib.size_eq] at hl2
 have ha : a0 = Tk.bs a0.data.toList := (bs_data a0).symm
 rw [ha]
 rw [ha] at hx
 generalize a0.data.toList = l at *
 clear ha h
 have hx : Tk.split l = (r1, r2) := hx
 unfold Tk.split at hx
 by_cases hl : 20000 < l.length
 ·rw [if_pos hl] at hx
  obtain ⟨rfl, rfl⟩ := Prod.mk.inj hx
  refine (token_Split.big l hl hl2 w).mono ?_
  rintro e w' ⟨rfl, rfl⟩
  exact ⟨_, rfl, Kd.S_nil _ _ _ _ _, Below.refl _ _⟩
 ·rw [if_neg hl] at hx
  by_cases hb : l.any badB = true
  ·rw [if_pos (by rw [← badB_eq]; exact hb)] at hx
   obtain ⟨rfl, rfl⟩ := Prod.mk.inj hx
   refine (token_Split.bad l (by omega) hb w hG).mono ?_
   rintro e w' ⟨rfl, b⟩
   exact ⟨_, rfl, Kd.S_nil _ _ _ _ _, b⟩
  ·rw [if_neg (by rw [← badB_eq]; exact hb)] at hx
   refine (token_Split.loop l _ (by omega) (Bool.eq_false_iff.2 hb) rfl w hG).mono ?_
   rintro e w' ⟨hy, hn, b⟩
   cases hp : Tk.pieces (l.length + 1) true l with
   | none =>
    rw [hp] at hx
    obtain ⟨rfl, rfl⟩ := Prod.mk.inj hx
    exact ⟨_, hn hp, Kd.S_nil _ _ _ _ _, b⟩
   | some t =>
    rw [hp] at hx
    obtain ⟨rfl, rfl⟩ := Prod.mk.inj hx
    obtain ⟨v, he, hr⟩ := hy t hp
    exact ⟨v, he, hr, b⟩


end Go.Proofs.Ytomikblbfappnaa.Q

-- Printed by this session's wip/np.py over the kit's print program. Not trusted: Lean checks it.
namespace Go.Proofs.Ytomikblbfappnaa.Q
open Go.RowKit Go.Proofs.YtomikblbfappnaaW.PrintWords Go.Proofs.YtomikblbfappnaaW.PrintLast Go.Proofs.YtomikblbfappnaaW.Own Go.Proofs.YtomikblbfappnaaW.PrintMore
attribute [local go_sem] max2_int min2_int max_two min_two max_three min_three max_four min_four
set_option linter.unusedVariables false
set_option linter.unusedSimpArgs false

/-! ### newellaw02_awake: function 11 -/
def newellaw02_awake.f  : Option (Bool) := (token_Split.f (⟨#[60, 97, 62, 120, 60, 47, 97, 62]⟩ : ByteArray)).bind fun bt112 => (if bt112.2 = 0 then (if (bt112.1.length : Int) = 3 then (if 0 < (bt112.1.length : Int) then (if ((rd_T32 bt112.1 0).f1).toList = ([97] : List UInt8) then (if 1 < (bt112.1.length : Int) then (some (((rd_T32 bt112.1 1).f2).toList == ([120] : List UInt8))) else (none)) else (some false)) else (none)) else (some false)) else (some false))
set_option maxHeartbeats 8000000 in
set_option maxRecDepth 100000 in
theorem newellaw02_awake.calls  (r : Bool) (w : World) (hG : Glob w) (h : newellaw02_awake.f  = some r) :
 Calls Try.prog 11 #[] w fun e w' => e = .returned (.bool r) ∧ Below w.heap.size w w' := by
 have HG := Aside0.mk hG
 clear hG
 have HB := Aside0.mk (Below.refl w.heap.size w)
 have H : ((token_Split.f (⟨#[60, 97, 62, 120, 60, 47, 97, 62]⟩ : ByteArray)).bind fun bt112 => (if bt112.2 = 0 then (if (bt112.1.length : Int) = 3 then (if 0 < (bt112.1.length : Int) then (if ((rd_T32 bt112.1 0).f1).toList = ([97] : List UInt8) then (if 1 < (bt112.1.length : Int) then (some (((rd_T32 bt112.1 1).f2).toList == ([120] : List UInt8))) else (none)) else (some false)) else (none)) else (some false)) else (some false))) = some r := h
 clear h
 replace H := Option.bind_eq_some_iff.mp H
 obtain ⟨⟨t112, t113⟩, A10, H⟩ := H
 replace H : (if t113 = 0 then (if (t112.length : Int) = 3 then (if 0 < (t112.length : Int) then (if ((rd_T32 t112 0).f1).toList = ([97] : List UInt8) then (if 1 < (t112.length : Int) then (some (((rd_T32 t112 1).f2).toList == ([120] : List UInt8))) else (none)) else (some false)) else (none)) else (some false)) else (some false)) = some r := H
 have A1 := Aside0.mk A10
 clear A10
 by_cases c2 : t113 = 0
 ·rw [if_pos c2] at H
  have c2b0 : (t113 == 0) = true := beq_iff_eq.mpr c2
  have c2b1 : (t113 != 0) = false := bne_eq_false_iff_eq.mpr c2
  clear c2
  by_cases c3 : (t112.length : Int) = 3
  ·rw [if_pos c3] at H
   have c3b0 : ((t112.length : Int) == 3) = true := beq_iff_eq.mpr c3
   have c3b1 : ((t112.length : Int) != 3) = false := bne_eq_false_iff_eq.mpr c3
   clear c3
   by_cases c4 : 0 < (t112.length : Int)
   ·rw [if_pos c4] at H
    have c4b0 : decide (0 < (t112.length : Int)) = true := decide_eq_true c4
    have c4b1 : decide (0 < t112.length) = true := decide_eq_true (by omega)
    clear c4
    by_cases c5 : ((rd_T32 t112 0).f1).toList = ([97] : List UInt8)
    ·rw [if_pos c5] at H
     have c5b0 : (((rd_T32 t112 0).f1).toList == ([97] : List UInt8)) = true := beq_iff_eq.mpr c5
     have c5b1 : (((rd_T32 t112 0).f1).toList != ([97] : List UInt8)) = false := bne_eq_false_iff_eq.mpr c5
     clear c5
     by_cases c6 : 1 < (t112.length : Int)
     ·rw [if_pos c6] at H
      have c6b0 : decide (1 < (t112.length : Int)) = true := decide_eq_true c6
      have c6b1 : decide (1 < t112.length) = true := decide_eq_true (by omega)
      clear c6
      obtain rfl := Option.some.inj H
      go_enter Try.func11, Try.ntmps11
      go_wp2_with (first | ((with_reducible refine gate_callee (f := 12) rfl ?_); refine goesL_ (some 4) rfl rfl Try.func12 (by kernel_rfl) rfl #[.string (⟨#[60, 97, 62, 120, 60, 47, 97, 62]⟩ : ByteArray)] rfl (by (try simp only [List.map_toArray, List.map_cons, List.map_nil]); first | done | rfl | (simp only [List.length_drop, List.length_take]; rfl)) ?_; (with_reducible refine (token_Split.calls (⟨#[60, 97, 62, 120, 60, 47, 97, 62]⟩ : ByteArray) t112 t113 _ ?side1 A1.out).mono ?_); (case side1 => exact Glob.step HG.out (by repeat (first | (with_reducible first | exact HB.out | apply below_alloc | apply pw_below_drewN | apply below_drew1) | exact HB.out))); rintro e w7 ⟨v114, rfl, ho0, hb⟩; refine ⟨_, rfl, ?_⟩; have n0_ := Aside0.mk (Kd.S_lower ho0 (below_size (by repeat (first | (with_reducible first | exact HB.out | apply below_alloc | apply pw_below_drewN | apply below_drew1) | exact HB.out)))); have n1_ := Aside0.mk (below_step (by repeat (first | (with_reducible first | exact HB.out | apply below_alloc | apply pw_below_drewN | apply below_drew1) | exact HB.out)) hb); clear HB; have HO115 := n0_; have HB := n1_; clear n0_ n1_; (try clear hb); (try clear hb2); (try clear hk); (try clear hi); (try clear ho0); obtain ⟨Ao8, co8, eo8⟩ := Kd.S_slice HO115.out; subst eo8; have p116 : 0 ≤ (0 : Int) := (by omega); have q116 : 0 < (t112.length : Int) := of_decide_eq_true (by first | (with_reducible assumption) | assumption); obtain ⟨ad116, A116_3, c116_3, e116, hx116_0, hx116_1, hx116_2, hx116_3, hx116_4, hl116_3, hi116_3⟩ := at_T32 (Kd.S_reads' HO115.out).2.2 0 p116 q116; cases e116; obtain ⟨ce116, hce116, hMe116, hcc116⟩ := Kd.S_get HO115.out z32 0 p116 (by first | exact q116 | exact of_decide_eq_true (by first | (with_reducible assumption) | assumption) | (have e_ := (Kd.S_reads' HO115.out).1; omega)); obtain ⟨ve116_3, rfl, ge116_3⟩ := k32_openM hMe116; have hv116_3 := hcc116 3 _ rfl; rw [add_field _ _ 3 (by omega)] at hv116_3; replace hv116_3 := Option.some.inj (hv116_3.symm.trans hx116_3); rw [hv116_3] at ge116_3; have HL116_3 := Aside0.mk (show Kd.R k39 39 _ _ _ _ ((rd_T32 t112 0).f3) from ge116_3); clear hv116_3 ge116_3; clear hcc116 hce116; have qi116 : (0 < t112.length) = True := eq_true (by omega); (try rw [show ((0 : Int)).toNat = 0 from rfl] at hx116_0); (try rw [show 0 * 5 = 0 from rfl] at hx116_0); (try rw [Addr.add_zero'] at hx116_0); (try rw [show ((0 : Int)).toNat = 0 from rfl] at hx116_1); (try rw [show 0 * 5 = 0 from rfl] at hx116_1); (try rw [Addr.add_zero'] at hx116_1); (try rw [show ((0 : Int)).toNat = 0 from rfl] at hx116_2); (try rw [show 0 * 5 = 0 from rfl] at hx116_2); (try rw [Addr.add_zero'] at hx116_2); (try rw [show ((0 : Int)).toNat = 0 from rfl] at hx116_3); (try rw [show 0 * 5 = 0 from rfl] at hx116_3); (try rw [Addr.add_zero'] at hx116_3); (try rw [show ((0 : Int)).toNat = 0 from rfl] at hx116_4); (try rw [show 0 * 5 = 0 from rfl] at hx116_4); (try rw [Addr.add_zero'] at hx116_4); have HR116_3 := Aside0.mk hi116_3; have HC116_3 := Aside0.mk hl116_3; clear hi116_3 hl116_3; replace p116 := eq_true p116; replace q116 := eq_true q116; have p117 : 0 ≤ (1 : Int) := (by omega); have q117 : 1 < (t112.length : Int) := of_decide_eq_true (by first | (with_reducible assumption) | assumption); obtain ⟨ad117, A117_3, c117_3, e117, hx117_0, hx117_1, hx117_2, hx117_3, hx117_4, hl117_3, hi117_3⟩ := at_T32 (Kd.S_reads' HO115.out).2.2 1 p117 q117; obtain rfl : ad116 = ad117 := (by injection e117); obtain ⟨ce117, hce117, hMe117, hcc117⟩ := Kd.S_get HO115.out z32 1 p117 (by first | exact q117 | exact of_decide_eq_true (by first | (with_reducible assumption) | assumption) | (have e_ := (Kd.S_reads' HO115.out).1; omega)); obtain ⟨ve117_3, rfl, ge117_3⟩ := k32_openM hMe117; have hv117_3 := hcc117 3 _ rfl; rw [add_field _ _ 3 (by omega)] at hv117_3; replace hv117_3 := Option.some.inj (hv117_3.symm.trans hx117_3); rw [hv117_3] at ge117_3; have HL117_3 := Aside0.mk (show Kd.R k39 39 _ _ _ _ ((rd_T32 t112 1).f3) from ge117_3); clear hv117_3 ge117_3; clear hcc117 hce117; (try simp only [show (1 : Int).toNat = 1 from rfl, Nat.reduceMul, Nat.reduceEqDiff, Go.Addr.add, ↓reduceIte] at hx117_0); (try simp only [show (1 : Int).toNat = 1 from rfl, Nat.reduceMul, Nat.reduceEqDiff, Go.Addr.add, ↓reduceIte] at hx117_1); (try simp only [show (1 : Int).toNat = 1 from rfl, Nat.reduceMul, Nat.reduceEqDiff, Go.Addr.add, ↓reduceIte] at hx117_2); (try simp only [show (1 : Int).toNat = 1 from rfl, Nat.reduceMul, Nat.reduceEqDiff, Go.Addr.add, ↓reduceIte] at hx117_3); (try simp only [show (1 : Int).toNat = 1 from rfl, Nat.reduceMul, Nat.reduceEqDiff, Go.Addr.add, ↓reduceIte] at hx117_4); have qi117 : (1 < t112.length) = True := eq_true (by omega); (try rw [show ((1 : Int)).toNat = 1 from rfl] at hx117_0); (try rw [show 1 * 5 = 5 from rfl] at hx117_0); (try rw [show ((1 : Int)).toNat = 1 from rfl] at hx117_1); (try rw [show 1 * 5 = 5 from rfl] at hx117_1); (try rw [show ((1 : Int)).toNat = 1 from rfl] at hx117_2); (try rw [show 1 * 5 = 5 from rfl] at hx117_2); (try rw [show ((1 : Int)).toNat = 1 from rfl] at hx117_3); (try rw [show 1 * 5 = 5 from rfl] at hx117_3); (try rw [show ((1 : Int)).toNat = 1 from rfl] at hx117_4); (try rw [show 1 * 5 = 5 from rfl] at hx117_4); have HR117_3 := Aside0.mk hi117_3; have HC117_3 := Aside0.mk hl117_3; clear hi117_3 hl117_3; replace p117 := eq_true p117; replace q117 := eq_true q117))
      go_ret
      exact ⟨by first | rfl | (simp [errW_none, errW_some] <;> rfl) | (simp [*, errW_none, errW_some] <;> rfl), by repeat (first | (with_reducible first | exact HB.out | apply below_alloc | apply pw_below_drewN | apply below_drew1) | exact HB.out)⟩
     ·rw [if_neg c6] at H
      exact absurd H (by simp)
    ·rw [if_neg c5] at H
     have c5b0 : (((rd_T32 t112 0).f1).toList == ([97] : List UInt8)) = false := beq_eq_false_iff_ne.mpr c5
     have c5b1 : (((rd_T32 t112 0).f1).toList != ([97] : List UInt8)) = true := bne_iff_ne.mpr c5
     obtain rfl := Option.some.inj H
     go_enter Try.func11, Try.ntmps11
     go_wp2_with (first | ((with_reducible refine gate_callee (f := 12) rfl ?_); refine goesL_ (some 4) rfl rfl Try.func12 (by kernel_rfl) rfl #[.string (⟨#[60, 97, 62, 120, 60, 47, 97, 62]⟩ : ByteArray)] rfl (by (try simp only [List.map_toArray, List.map_cons, List.map_nil]); first | done | rfl | (simp only [List.length_drop, List.length_take]; rfl)) ?_; (with_reducible refine (token_Split.calls (⟨#[60, 97, 62, 120, 60, 47, 97, 62]⟩ : ByteArray) t112 t113 _ ?side1 A1.out).mono ?_); (case side1 => exact Glob.step HG.out (by repeat (first | (with_reducible first | exact HB.out | apply below_alloc | apply pw_below_drewN | apply below_drew1) | exact HB.out))); rintro e w9 ⟨v114, rfl, ho0, hb⟩; refine ⟨_, rfl, ?_⟩; have n0_ := Aside0.mk (Kd.S_lower ho0 (below_size (by repeat (first | (with_reducible first | exact HB.out | apply below_alloc | apply pw_below_drewN | apply below_drew1) | exact HB.out)))); have n1_ := Aside0.mk (below_step (by repeat (first | (with_reducible first | exact HB.out | apply below_alloc | apply pw_below_drewN | apply below_drew1) | exact HB.out)) hb); clear HB; have HO115 := n0_; have HB := n1_; clear n0_ n1_; (try clear hb); (try clear hb2); (try clear hk); (try clear hi); (try clear ho0); obtain ⟨Ao10, co10, eo10⟩ := Kd.S_slice HO115.out; subst eo10; have p116 : 0 ≤ (0 : Int) := (by omega); have q116 : 0 < (t112.length : Int) := of_decide_eq_true (by first | (with_reducible assumption) | assumption); obtain ⟨ad116, A116_3, c116_3, e116, hx116_0, hx116_1, hx116_2, hx116_3, hx116_4, hl116_3, hi116_3⟩ := at_T32 (Kd.S_reads' HO115.out).2.2 0 p116 q116; cases e116; obtain ⟨ce116, hce116, hMe116, hcc116⟩ := Kd.S_get HO115.out z32 0 p116 (by first | exact q116 | exact of_decide_eq_true (by first | (with_reducible assumption) | assumption) | (have e_ := (Kd.S_reads' HO115.out).1; omega)); obtain ⟨ve116_3, rfl, ge116_3⟩ := k32_openM hMe116; have hv116_3 := hcc116 3 _ rfl; rw [add_field _ _ 3 (by omega)] at hv116_3; replace hv116_3 := Option.some.inj (hv116_3.symm.trans hx116_3); rw [hv116_3] at ge116_3; have HL116_3 := Aside0.mk (show Kd.R k39 39 _ _ _ _ ((rd_T32 t112 0).f3) from ge116_3); clear hv116_3 ge116_3; clear hcc116 hce116; have qi116 : (0 < t112.length) = True := eq_true (by omega); (try rw [show ((0 : Int)).toNat = 0 from rfl] at hx116_0); (try rw [show 0 * 5 = 0 from rfl] at hx116_0); (try rw [Addr.add_zero'] at hx116_0); (try rw [show ((0 : Int)).toNat = 0 from rfl] at hx116_1); (try rw [show 0 * 5 = 0 from rfl] at hx116_1); (try rw [Addr.add_zero'] at hx116_1); (try rw [show ((0 : Int)).toNat = 0 from rfl] at hx116_2); (try rw [show 0 * 5 = 0 from rfl] at hx116_2); (try rw [Addr.add_zero'] at hx116_2); (try rw [show ((0 : Int)).toNat = 0 from rfl] at hx116_3); (try rw [show 0 * 5 = 0 from rfl] at hx116_3); (try rw [Addr.add_zero'] at hx116_3); (try rw [show ((0 : Int)).toNat = 0 from rfl] at hx116_4); (try rw [show 0 * 5 = 0 from rfl] at hx116_4); (try rw [Addr.add_zero'] at hx116_4); have HR116_3 := Aside0.mk hi116_3; have HC116_3 := Aside0.mk hl116_3; clear hi116_3 hl116_3; replace p116 := eq_true p116; replace q116 := eq_true q116))
     go_ret
     exact ⟨by first | rfl | (simp [errW_none, errW_some] <;> rfl) | (simp [*, errW_none, errW_some] <;> rfl), by repeat (first | (with_reducible first | exact HB.out | apply below_alloc | apply pw_below_drewN | apply below_drew1) | exact HB.out)⟩
   ·rw [if_neg c4] at H
    exact absurd H (by simp)
  ·rw [if_neg c3] at H
   have c3b0 : ((t112.length : Int) == 3) = false := beq_eq_false_iff_ne.mpr c3
   have c3b1 : ((t112.length : Int) != 3) = true := bne_iff_ne.mpr c3
   obtain rfl := Option.some.inj H
   go_enter Try.func11, Try.ntmps11
   go_wp2_with (first | ((with_reducible refine gate_callee (f := 12) rfl ?_); refine goesL_ (some 4) rfl rfl Try.func12 (by kernel_rfl) rfl #[.string (⟨#[60, 97, 62, 120, 60, 47, 97, 62]⟩ : ByteArray)] rfl (by (try simp only [List.map_toArray, List.map_cons, List.map_nil]); first | done | rfl | (simp only [List.length_drop, List.length_take]; rfl)) ?_; (with_reducible refine (token_Split.calls (⟨#[60, 97, 62, 120, 60, 47, 97, 62]⟩ : ByteArray) t112 t113 _ ?side1 A1.out).mono ?_); (case side1 => exact Glob.step HG.out (by repeat (first | (with_reducible first | exact HB.out | apply below_alloc | apply pw_below_drewN | apply below_drew1) | exact HB.out))); rintro e w11 ⟨v114, rfl, ho0, hb⟩; refine ⟨_, rfl, ?_⟩; have n0_ := Aside0.mk (Kd.S_lower ho0 (below_size (by repeat (first | (with_reducible first | exact HB.out | apply below_alloc | apply pw_below_drewN | apply below_drew1) | exact HB.out)))); have n1_ := Aside0.mk (below_step (by repeat (first | (with_reducible first | exact HB.out | apply below_alloc | apply pw_below_drewN | apply below_drew1) | exact HB.out)) hb); clear HB; have HO115 := n0_; have HB := n1_; clear n0_ n1_; (try clear hb); (try clear hb2); (try clear hk); (try clear hi); (try clear ho0); obtain ⟨Ao12, co12, eo12⟩ := Kd.S_slice HO115.out; subst eo12))
   go_ret
   exact ⟨by first | rfl | (simp [errW_none, errW_some] <;> rfl) | (simp [*, errW_none, errW_some] <;> rfl), by repeat (first | (with_reducible first | exact HB.out | apply below_alloc | apply pw_below_drewN | apply below_drew1) | exact HB.out)⟩
 ·rw [if_neg c2] at H
  have c2b0 : (t113 == 0) = false := beq_eq_false_iff_ne.mpr c2
  have c2b1 : (t113 != 0) = true := bne_iff_ne.mpr c2
  obtain rfl := Option.some.inj H
  go_enter Try.func11, Try.ntmps11
  go_wp2_with (first | ((with_reducible refine gate_callee (f := 12) rfl ?_); refine goesL_ (some 4) rfl rfl Try.func12 (by kernel_rfl) rfl #[.string (⟨#[60, 97, 62, 120, 60, 47, 97, 62]⟩ : ByteArray)] rfl (by (try simp only [List.map_toArray, List.map_cons, List.map_nil]); first | done | rfl | (simp only [List.length_drop, List.length_take]; rfl)) ?_; (with_reducible refine (token_Split.calls (⟨#[60, 97, 62, 120, 60, 47, 97, 62]⟩ : ByteArray) t112 t113 _ ?side1 A1.out).mono ?_); (case side1 => exact Glob.step HG.out (by repeat (first | (with_reducible first | exact HB.out | apply below_alloc | apply pw_below_drewN | apply below_drew1) | exact HB.out))); rintro e w13 ⟨v114, rfl, ho0, hb⟩; refine ⟨_, rfl, ?_⟩; have n0_ := Aside0.mk (Kd.S_lower ho0 (below_size (by repeat (first | (with_reducible first | exact HB.out | apply below_alloc | apply pw_below_drewN | apply below_drew1) | exact HB.out)))); have n1_ := Aside0.mk (below_step (by repeat (first | (with_reducible first | exact HB.out | apply below_alloc | apply pw_below_drewN | apply below_drew1) | exact HB.out)) hb); clear HB; have HO115 := n0_; have HB := n1_; clear n0_ n1_; (try clear hb); (try clear hb2); (try clear hk); (try clear hi); (try clear ho0)))
  go_ret
  exact ⟨by first | rfl | (simp [errW_none, errW_some] <;> rfl) | (simp [*, errW_none, errW_some] <;> rfl), by repeat (first | (with_reducible first | exact HB.out | apply below_alloc | apply pw_below_drewN | apply below_drew1) | exact HB.out)⟩

end Go.Proofs.Ytomikblbfappnaa.Q

-- Printed by this session's wip/np.py over the kit's print program. Not trusted: Lean checks it.
namespace Go.Proofs.Ytomikblbfappnaa.Q
open Go.RowKit Go.Proofs.YtomikblbfappnaaW.PrintWords Go.Proofs.YtomikblbfappnaaW.PrintLast Go.Proofs.YtomikblbfappnaaW.Own Go.Proofs.YtomikblbfappnaaW.PrintMore
attribute [local go_sem] max2_int min2_int max_two min_two max_three min_three max_four min_four
set_option linter.unusedVariables false
set_option linter.unusedSimpArgs false

/-! ### newelhelp_Digits: function 20 -/
def newelhelp_Digits.f : Nat → Int → Option (ByteArray)
 | 0, _ => none
 | k + 1, a0 => if a0 < 10 then (some (strOfNums (([(wrap64 (48 + a0)) % 256] : List Int)))) else ((newelhelp_Digits.f k (wrap64 (Int.tdiv a0 10))).bind fun t186 => ((some (([(wrap64 (48 + (Int.tmod a0 10))) % 256] : List Int) : List Int)).bind fun y187 => (if t186.size + (strOfNums y187).size ≤ 9223372036854775807 then (some (t186 ++ (strOfNums y187))) else (none))))
theorem newelhelp_Digits.mono_l : ∀ k, (∀ y0, LeO (newelhelp_Digits.f k y0) (newelhelp_Digits.f (k + 1) y0))
 | 0 => fun _ r h => by simp [newelhelp_Digits.f] at h
 | k + 1 => by
  have ih0 := newelhelp_Digits.mono_l k
  ·intro y0
   unfold newelhelp_Digits.f
   repeat' first
   | (with_reducible exact ih0 _)
   | (with_reducible exact LeO.refl _)
   | (with_reducible exact LeO.none _)
   | (with_reducible refine LeO.ite ?_ ?_)
   | (with_reducible refine LeO.bind ?_ (fun _ => ?_))
   | exact ih0 _
   | exact LeO.none _
   | refine LeO.ite ?_ ?_
   | refine LeO.bind ?_ (fun _ => ?_)
theorem newelhelp_Digits.mono : ∀ a0 k, LeO (newelhelp_Digits.f k a0) (newelhelp_Digits.f (k + 1) a0) := by
 intro a0 k
 have ih0 := newelhelp_Digits.mono_l k
 exact ih0 a0
def newelhelp_Digits.T3 : Bool × List (List Nat × List Nat) := (true, [([], []), ([0], [0]), ([1], [1]), ([], []), ([3], [3]), ([4], [4]), ([5], [5]), ([6], [6]), ([7], [7]), ([2, 8], [2, 8]), ([9, 2, 0, 1, 2, 3, 4, 5, 6, 7, 8, 9], [9])])
def newelhelp_Digits.B3 : List Nat := [0, 1, 3, 0, 8, 24, 56, 120, 248, 511, 1023]
theorem newelhelp_Digits.tab3 : rtab .any (opsOf Try.f20 3) = newelhelp_Digits.T3 := by kernel_rfl
theorem newelhelp_Digits.bits3 : waitsOk newelhelp_Digits.T3.2 newelhelp_Digits.B3 = true := by kernel_rfl
set_option maxHeartbeats 8000000 in
set_option maxRecDepth 100000 in
theorem newelhelp_Digits.calls (k : Nat) : ∀ (a0 : Int) (r : ByteArray) (w : World) (hG : Glob w) (h : newelhelp_Digits.f k a0 = some r),
 Calls Try.prog 20 #[.int .i64 a0] w fun e w' => e = .returned (.string r) ∧ Below w.heap.size w w' := by
 induction k using Nat.strongRecOn with
 | _ k ih =>
 intro a0 r w hG h
 cases k with
 | zero => exact absurd h (by simp [newelhelp_Digits.f])
 | succ k =>
 simp only [newelhelp_Digits.f] at h
 have HG := Aside0.mk hG
 clear hG
 have HB := Aside0.mk (Below.refl w.heap.size w)
 have H : (if a0 < 10 then (some (strOfNums (([(wrap64 (48 + a0)) % 256] : List Int)))) else ((newelhelp_Digits.f k (wrap64 (Int.tdiv a0 10))).bind fun t186 => ((some (([(wrap64 (48 + (Int.tmod a0 10))) % 256] : List Int) : List Int)).bind fun y187 => (if t186.size + (strOfNums y187).size ≤ 9223372036854775807 then (some (t186 ++ (strOfNums y187))) else (none))))) = some r := h
 clear h
 by_cases c2 : a0 < 10
 ·rw [if_pos c2] at H
  have c2b0 : decide (a0 < 10) = true := decide_eq_true c2
  clear c2
  obtain ⟨y183, hy183⟩ : ∃ y_ : List Int, y_ = (([(wrap64 (48 + a0)) % 256] : List Int)) := ⟨_, rfl⟩
  replace H : (some (strOfNums y183)) = some r := by first | (rw [hy183]; with_reducible exact H) | (have H2_ := (Option.bind_some _ _).symm.trans H; rw [hy183]; with_reducible exact H2_) | (have H2_ := (Option.bind_some _ _).symm.trans H; with_reducible exact H2_) | with_reducible exact H | (rw [hy183]; exact H) | exact H
  have Ny183 := Aside0.mk hy183
  clear hy183
  obtain rfl := Option.some.inj H
  go_enter Try.func20, Try.ntmps20
  go_wp2_with (first | ((with_reducible refine gate_dst (N := 8) rfl ?_); refine Kd.R_lit (Kd.int .u8) _ 5 ?hg (N := 8) ?hd (xs := ([(wrap64 (48 + a0)) % 256] : List Int)) (inner := [.int .u8 ((wrap64 (48 + a0)) % 256)]) (ok := fun _ => True) (okp := fun _ => True) ?hr ?hp (fun _ hk => hk) trivial (Below.refl _ _) (Nat.le_refl _) (by simp) ?_; (case hd => rfl); (case hg => rfl); (case hr => first | (go_simp; done) | (go_simp; rfl)); (case hp => exact (Reps.one (show Kd.M (Kd.int .u8) _ _ _ ((wrap64 (48 + a0)) % 256) [.int .u8 ((wrap64 (48 + a0)) % 256)] from rfl) (Reps.none _ _))); intro v184 w3 ho4 hb hg_ hnew_; clear hg_ hnew_; (first | rw [← Ny183.out] at ho4 | (simp only [Int.reduceToNat] at ho4; rw [← Ny183.out] at ho4)); have n0_ := Aside0.mk (Kd.R_lower ho4 (below_size (by repeat (first | (with_reducible first | exact HB.out | apply below_alloc | apply pw_below_drewN | apply below_drew1) | exact HB.out)))); have n1_ := Aside0.mk (below_step (by repeat (first | (with_reducible first | exact HB.out | apply below_alloc | apply pw_below_drewN | apply below_drew1) | exact HB.out)) hb); clear HB; have HO185 := n0_; have HB := n1_; clear n0_ n1_; clear hb ho4; have hcv5 := own_string (P := Try.prog) Try.underlying35 Try.underlying5 Try.underlying9 (Kd.own_of_R HO185.out)))
  go_ret
  exact ⟨by first | rfl | (simp [errW_none, errW_some] <;> rfl) | (simp [*, errW_none, errW_some] <;> rfl), by repeat (first | (with_reducible first | exact HB.out | apply below_alloc | apply pw_below_drewN | apply below_drew1) | exact HB.out)⟩
 ·rw [if_neg c2] at H
  have c2b0 : decide (a0 < 10) = false := decide_eq_false c2
  clear c2
  replace H := Option.bind_eq_some_iff.mp H
  obtain ⟨t186, A60, H⟩ := H
  replace H : ((some (([(wrap64 (48 + (Int.tmod a0 10))) % 256] : List Int) : List Int)).bind fun y187 => (if t186.size + (strOfNums y187).size ≤ 9223372036854775807 then (some (t186 ++ (strOfNums y187))) else (none))) = some r := H
  have A6 := Aside0.mk A60
  clear A60
  obtain ⟨y187, hy187⟩ : ∃ y_ : List Int, y_ = (([(wrap64 (48 + (Int.tmod a0 10))) % 256] : List Int)) := ⟨_, rfl⟩
  replace H : (if t186.size + (strOfNums y187).size ≤ 9223372036854775807 then (some (t186 ++ (strOfNums y187))) else (none)) = some r := by first | (rw [hy187]; with_reducible exact H) | (have H2_ := (Option.bind_some _ _).symm.trans H; rw [hy187]; with_reducible exact H2_) | (have H2_ := (Option.bind_some _ _).symm.trans H; with_reducible exact H2_) | with_reducible exact H | (rw [hy187]; exact H) | exact H
  have Ny187 := Aside0.mk hy187
  clear hy187
  by_cases c7 : t186.size + (strOfNums y187).size ≤ 9223372036854775807
  ·rw [if_pos c7] at H
   have c7b0 := eq_true c7
   have c7b1 : decide (t186.size + (strOfNums y187).size ≤ 9223372036854775807) = true := decide_eq_true c7
   try have c7b2 : (9223372036854775807 < t186.size + (strOfNums y187).size) = False := eq_false (Nat.not_lt.2 c7)
   obtain rfl := Option.some.inj H
   go_enter Try.func20, Try.ntmps20
   try go_wp2
   have n0_ := Aside0.mk (below_drew1 HB.out)
   clear HB
   have HB := n0_
   clear n0_
   refine start_ (n := 11) (S := fun w' => True) (ds := []) #[false, false, false, false, false, false, false, false, false, false, false] (by kernel_rfl) rfl rfl trivial (fun hHeld => ?_); refine with_tabW newelhelp_Digits.tab3 newelhelp_Digits.bits3 (fun HT_ HW_ => ?_)
   generalize w.drew = w8 at HB hHeld ⊢
   refine pure_ (i := 0) (N := some 10) (v := ?_) (a' := ?_) #[true, false, false, false, false, false, false, false, false, false, false] rfl rfl (any_of HT_.out (by kernel_rfl)) (fun _ _ _ h => h) (Or.inl ⟨by rfl, ?_⟩) ?_ ?_
   rotate_left
   ·intro w'
    go_simp
    with_reducible rfl
   rotate_left
   ·simp only [Act.put, List.setIfInBounds_toArray, List.set_cons_zero, List.set_cons_succ, i64_w, i32_w]
    rfl
   refine pure_ (i := 1) (N := some 11) (v := ?_) (a' := ?_) #[true, true, false, false, false, false, false, false, false, false, false] rfl rfl (any_of HT_.out (by kernel_rfl)) (fun _ _ _ h => h) (Or.inl ⟨by rfl, ?_⟩) ?_ ?_
   rotate_left
   ·intro w'
    go_simp
    with_reducible rfl
   rotate_left
   ·simp only [Act.put, List.setIfInBounds_toArray, List.set_cons_zero, List.set_cons_succ, i64_w, i32_w]
    rfl
   refine pure_ (i := 3) (N := some 13) (v := ?_) (a' := ?_) #[true, true, false, true, false, false, false, false, false, false, false] rfl rfl (any_of HT_.out (by kernel_rfl)) (fun _ _ _ h => h) (Or.inl ⟨by rfl, ?_⟩) ?_ ?_
   rotate_left
   ·intro w'
    go_simp
    with_reducible rfl
   rotate_left
   ·simp only [Act.put, List.setIfInBounds_toArray, List.set_cons_zero, List.set_cons_succ, i64_w, i32_w]
    rfl
   refine pure_ (i := 4) (N := some 14) (v := ?_) (a' := ?_) #[true, true, false, true, true, false, false, false, false, false, false] rfl rfl (any_of HT_.out (by kernel_rfl)) (fun _ _ _ h => h) (Or.inl ⟨by rfl, ?_⟩) ?_ ?_
   rotate_left
   ·intro w'
    go_simp
    with_reducible rfl
   rotate_left
   ·simp only [Act.put, List.setIfInBounds_toArray, List.set_cons_zero, List.set_cons_succ, i64_w, i32_w]
    rfl
   refine pure_ (i := 5) (N := some 15) (v := ?_) (a' := ?_) #[true, true, false, true, true, true, false, false, false, false, false] rfl rfl (any_of HT_.out (by kernel_rfl)) (fun _ _ _ h => h) (Or.inl ⟨by rfl, ?_⟩) ?_ ?_
   rotate_left
   ·intro w'
    go_simp
    with_reducible rfl
   rotate_left
   ·simp only [Act.put, List.setIfInBounds_toArray, List.set_cons_zero, List.set_cons_succ, i64_w, i32_w]
    rfl
   refine pure_ (i := 6) (N := some 16) (v := ?_) (a' := ?_) #[true, true, false, true, true, true, true, false, false, false, false] rfl rfl (any_of HT_.out (by kernel_rfl)) (fun _ _ _ h => h) (Or.inl ⟨by rfl, ?_⟩) ?_ ?_
   rotate_left
   ·intro w'
    go_simp
    with_reducible rfl
   rotate_left
   ·simp only [Act.put, List.setIfInBounds_toArray, List.set_cons_zero, List.set_cons_succ, i64_w, i32_w]
    rfl
   refine join_ (σ := Value) 2 #[true, true, true, true, true, true, true, true, true, false, false] (fun s_ => [(12, .string t186), (17, s_), (18, .string (strOfNums y187))]) (fun s_ w' => (Kd.R (Kd.int .u8) 5 w' w.heap.size (fun _ => True) s_ y187) ∧ (Below w.heap.size w w')) ?_ ?_
   rotate_left
   ·intro hCont
    refine two_ (i := 2) (j := 7) (Ni := some 12) (Nj := some 17) #[true, true, true, true, true, true, true, false, false, false, false] #[true, true, false, true, true, true, true, true, false, false, false] rfl rfl rfl rfl (two_of HT_.out (by kernel_rfl)) (by decide) (by decide) (fun K hK => ?_) (fun K hK => ?_)
    ·skip
     refine goes_ Try.func20 (by kernel_rfl) rfl #[.int .i64 (wrap64 (Int.tdiv a0 10))] (by rfl) rfl rfl (by (try simp only [List.map_toArray, List.map_cons, List.map_nil]); first | done | rfl | (simp only [List.length_drop, List.length_take]; rfl)) ?_
     with_reducible refine (ih k (by omega) (wrap64 (Int.tdiv a0 10)) t186 _ ?side1 A6.out).mono ?_
     (case side1 => exact Glob.step HG.out (by repeat (first | (with_reducible first | exact HB.out | apply below_alloc | apply pw_below_drewN | apply below_drew1) | exact HB.out)))
     rintro e w9 ⟨rfl, hb⟩
     refine ⟨_, rfl, ?_⟩
     have n0_ := Aside0.mk (below_step (by repeat (first | (with_reducible first | exact HB.out | apply below_alloc | apply pw_below_drewN | apply below_drew1) | exact HB.out)) hb)
     clear HB
     have HB := n0_
     clear n0_
     (try clear hb)
     (try clear hb2)
     (try clear hk)
     (try clear hi)
     refine hK.out _ _ trivial (fun hHeld => ?_)
     clear hK K
     refine norm_ (a' := ?_) ?_ ?_
     rotate_left
     ·show Act.put _ (some 12) _ = _
      simp only [Act.put, List.setIfInBounds_toArray, List.set_cons_zero, List.set_cons_succ, i64_w, i32_w]
      rfl
     refine one_ (i := 7) (N := some 17) #[true, true, true, true, true, true, true, true, false, false, false] rfl rfl (one_of HT_.out (by kernel_rfl)) (by decide) (fun K hK => ?_)
     refine Kd.R_lit_step (Kd.int .u8) _ 5 ?hg (N := 17) ?hd (xs := ([(wrap64 (48 + (Int.tmod a0 10))) % 256] : List Int)) (inner := [.int .u8 ((wrap64 (48 + (Int.tmod a0 10))) % 256)]) (ok := fun _ => True) (okp := fun _ => True) ?hr ?hp (fun _ hk => hk) trivial (Below.refl _ _) (Nat.le_refl _) (by simp) ?_; (case hd => rfl); (case hg => rfl); (case hr => first | (go_simp; done) | (go_simp; rfl)); (case hp => exact (Reps.one (show Kd.M (Kd.int .u8) _ _ _ ((wrap64 (48 + (Int.tmod a0 10))) % 256) [.int .u8 ((wrap64 (48 + (Int.tmod a0 10))) % 256)] from rfl) (Reps.none _ _)))
     intro v188 w10 ho11 hb hg_ hnew_
     clear hg_ hnew_
     (first | rw [← Ny187.out] at ho11 | (simp only [Int.reduceToNat] at ho11; rw [← Ny187.out] at ho11))
     have n0_ := Aside0.mk (Kd.R_lower ho11 (below_size (by repeat (first | (with_reducible first | exact HB.out | apply below_alloc | apply pw_below_drewN | apply below_drew1) | exact HB.out))))
     have n1_ := Aside0.mk (below_step (by repeat (first | (with_reducible first | exact HB.out | apply below_alloc | apply pw_below_drewN | apply below_drew1) | exact HB.out)) hb)
     clear HB
     have HO189 := n0_
     have HB := n1_
     clear n0_ n1_
     clear hb ho11
     refine hK.out _ _ trivial (fun hHeld => ?_)
     clear hK K
     refine norm_ (a' := ?_) ?_ ?_
     rotate_left
     ·show Act.put _ (some 17) _ = _
      simp only [Act.put, List.setIfInBounds_toArray, List.set_cons_zero, List.set_cons_succ, i64_w, i32_w]
      rfl
     refine one_ (i := 8) (N := some 18) #[true, true, true, true, true, true, true, true, true, false, false] rfl rfl (one_of HT_.out (by kernel_rfl)) (by decide) (fun K hK => ?_)
     have hcv12 := own_string (P := Try.prog) Try.underlying35 Try.underlying5 Try.underlying9 (Kd.own_of_R HO189.out)
     refine value_ (w1 := ?_) (v := ?_) (by rfl) rfl ?_ ?_
     rotate_left 2
     ·go_simp
      constructor
      ·rfl
      ·rfl
     clear hcv12
     refine hK.out _ _ trivial (fun hHeld => ?_)
     clear hK K
     refine norm_ (a' := ?_) ?_ ?_
     rotate_left
     ·show Act.put _ (some 18) _ = _
      simp only [Act.put, List.setIfInBounds_toArray, List.set_cons_zero, List.set_cons_succ, i64_w, i32_w]
      rfl
     exact norm_ (by simp only [putAll, Act.put, List.setIfInBounds_toArray, List.set_cons_zero, List.set_cons_succ]) (hCont (v188) _ ⟨(by (with_reducible repeat (first | apply Kd.R_alloc | apply Kd.R_drewN | apply Kd.R_drew)); exact HO189.out), (by repeat (first | (with_reducible first | exact HB.out | apply below_alloc | apply pw_below_drewN | apply below_drew1) | exact HB.out))⟩)
    ·skip
     refine Kd.R_lit_step (Kd.int .u8) _ 5 ?hg (N := 17) ?hd (xs := ([(wrap64 (48 + (Int.tmod a0 10))) % 256] : List Int)) (inner := [.int .u8 ((wrap64 (48 + (Int.tmod a0 10))) % 256)]) (ok := fun _ => True) (okp := fun _ => True) ?hr ?hp (fun _ hk => hk) trivial (Below.refl _ _) (Nat.le_refl _) (by simp) ?_; (case hd => rfl); (case hg => rfl); (case hr => first | (go_simp; done) | (go_simp; rfl)); (case hp => exact (Reps.one (show Kd.M (Kd.int .u8) _ _ _ ((wrap64 (48 + (Int.tmod a0 10))) % 256) [.int .u8 ((wrap64 (48 + (Int.tmod a0 10))) % 256)] from rfl) (Reps.none _ _)))
     intro v188 w9 ho10 hb hg_ hnew_
     clear hg_ hnew_
     (first | rw [← Ny187.out] at ho10 | (simp only [Int.reduceToNat] at ho10; rw [← Ny187.out] at ho10))
     have n0_ := Aside0.mk (Kd.R_lower ho10 (below_size (by repeat (first | (with_reducible first | exact HB.out | apply below_alloc | apply pw_below_drewN | apply below_drew1) | exact HB.out))))
     have n1_ := Aside0.mk (below_step (by repeat (first | (with_reducible first | exact HB.out | apply below_alloc | apply pw_below_drewN | apply below_drew1) | exact HB.out)) hb)
     clear HB
     have HO189 := n0_
     have HB := n1_
     clear n0_ n1_
     clear hb ho10
     refine hK.out _ _ trivial (fun hHeld => ?_)
     clear hK K
     refine norm_ (a' := ?_) ?_ ?_
     rotate_left
     ·show Act.put _ (some 17) _ = _
      simp only [Act.put, List.setIfInBounds_toArray, List.set_cons_zero, List.set_cons_succ, i64_w, i32_w]
      rfl
     refine two_ (i := 2) (j := 8) (Ni := some 12) (Nj := some 18) #[true, true, true, true, true, true, true, true, false, false, false] #[true, true, false, true, true, true, true, true, true, false, false] rfl rfl rfl rfl (two_of HT_.out (by kernel_rfl)) (by decide) (by decide) (fun K hK => ?_) (fun K hK => ?_)
     ·skip
      refine goes_ Try.func20 (by kernel_rfl) rfl #[.int .i64 (wrap64 (Int.tdiv a0 10))] (by rfl) rfl rfl (by (try simp only [List.map_toArray, List.map_cons, List.map_nil]); first | done | rfl | (simp only [List.length_drop, List.length_take]; rfl)) ?_
      with_reducible refine (ih k (by omega) (wrap64 (Int.tdiv a0 10)) t186 _ ?side1 A6.out).mono ?_
      (case side1 => exact Glob.step HG.out (by repeat (first | (with_reducible first | exact HB.out | apply below_alloc | apply pw_below_drewN | apply below_drew1) | exact HB.out)))
      rintro e w11 ⟨rfl, hb⟩
      refine ⟨_, rfl, ?_⟩
      have n0_ := Aside0.mk (Kd.R_below (by (with_reducible repeat (first | apply Kd.R_alloc | apply Kd.R_drewN | apply Kd.R_drew)); exact HO189.out) hb)
      have n1_ := Aside0.mk (below_step (by repeat (first | (with_reducible first | exact HB.out | apply below_alloc | apply pw_below_drewN | apply below_drew1) | exact HB.out)) hb)
      clear HO189
      clear HB
      have HO189 := n0_
      have HB := n1_
      clear n0_ n1_
      (try clear hb)
      (try clear hb2)
      (try clear hk)
      (try clear hi)
      refine hK.out _ _ trivial (fun hHeld => ?_)
      clear hK K
      refine norm_ (a' := ?_) ?_ ?_
      rotate_left
      ·show Act.put _ (some 12) _ = _
       simp only [Act.put, List.setIfInBounds_toArray, List.set_cons_zero, List.set_cons_succ, i64_w, i32_w]
       rfl
      refine one_ (i := 8) (N := some 18) #[true, true, true, true, true, true, true, true, true, false, false] rfl rfl (one_of HT_.out (by kernel_rfl)) (by decide) (fun K hK => ?_)
      have hcv12 := own_string (P := Try.prog) Try.underlying35 Try.underlying5 Try.underlying9 (Kd.own_of_R HO189.out)
      refine value_ (w1 := ?_) (v := ?_) (by rfl) rfl ?_ ?_
      rotate_left 2
      ·go_simp
       constructor
       ·rfl
       ·rfl
      clear hcv12
      refine hK.out _ _ trivial (fun hHeld => ?_)
      clear hK K
      refine norm_ (a' := ?_) ?_ ?_
      rotate_left
      ·show Act.put _ (some 18) _ = _
       simp only [Act.put, List.setIfInBounds_toArray, List.set_cons_zero, List.set_cons_succ, i64_w, i32_w]
       rfl
      exact norm_ (by simp only [putAll, Act.put, List.setIfInBounds_toArray, List.set_cons_zero, List.set_cons_succ]) (hCont (v188) _ ⟨(by (with_reducible repeat (first | apply Kd.R_alloc | apply Kd.R_drewN | apply Kd.R_drew)); exact HO189.out), (by repeat (first | (with_reducible first | exact HB.out | apply below_alloc | apply pw_below_drewN | apply below_drew1) | exact HB.out))⟩)
     ·skip
      have hcv11 := own_string (P := Try.prog) Try.underlying35 Try.underlying5 Try.underlying9 (Kd.own_of_R HO189.out)
      refine value_ (w1 := ?_) (v := ?_) (by rfl) rfl ?_ ?_
      rotate_left 2
      ·go_simp
       constructor
       ·rfl
       ·rfl
      clear hcv11
      refine hK.out _ _ trivial (fun hHeld => ?_)
      clear hK K
      refine norm_ (a' := ?_) ?_ ?_
      rotate_left
      ·show Act.put _ (some 18) _ = _
       simp only [Act.put, List.setIfInBounds_toArray, List.set_cons_zero, List.set_cons_succ, i64_w, i32_w]
       rfl
      refine one_ (i := 2) (N := some 12) #[true, true, true, true, true, true, true, true, true, false, false] rfl rfl (one_of HT_.out (by kernel_rfl)) (by decide) (fun K hK => ?_)
      refine goes_ Try.func20 (by kernel_rfl) rfl #[.int .i64 (wrap64 (Int.tdiv a0 10))] (by rfl) rfl rfl (by (try simp only [List.map_toArray, List.map_cons, List.map_nil]); first | done | rfl | (simp only [List.length_drop, List.length_take]; rfl)) ?_
      with_reducible refine (ih k (by omega) (wrap64 (Int.tdiv a0 10)) t186 _ ?side1 A6.out).mono ?_
      (case side1 => exact Glob.step HG.out (by repeat (first | (with_reducible first | exact HB.out | apply below_alloc | apply pw_below_drewN | apply below_drew1) | exact HB.out)))
      rintro e w12 ⟨rfl, hb⟩
      refine ⟨_, rfl, ?_⟩
      have n0_ := Aside0.mk (Kd.R_below (by (with_reducible repeat (first | apply Kd.R_alloc | apply Kd.R_drewN | apply Kd.R_drew)); exact HO189.out) hb)
      have n1_ := Aside0.mk (below_step (by repeat (first | (with_reducible first | exact HB.out | apply below_alloc | apply pw_below_drewN | apply below_drew1) | exact HB.out)) hb)
      clear HO189
      clear HB
      have HO189 := n0_
      have HB := n1_
      clear n0_ n1_
      (try clear hb)
      (try clear hb2)
      (try clear hk)
      (try clear hi)
      refine hK.out _ _ trivial (fun hHeld => ?_)
      clear hK K
      refine norm_ (a' := ?_) ?_ ?_
      rotate_left
      ·show Act.put _ (some 12) _ = _
       simp only [Act.put, List.setIfInBounds_toArray, List.set_cons_zero, List.set_cons_succ, i64_w, i32_w]
       rfl
      exact norm_ (by simp only [putAll, Act.put, List.setIfInBounds_toArray, List.set_cons_zero, List.set_cons_succ]) (hCont (v188) _ ⟨(by (with_reducible repeat (first | apply Kd.R_alloc | apply Kd.R_drewN | apply Kd.R_drew)); exact HO189.out), (by repeat (first | (with_reducible first | exact HB.out | apply below_alloc | apply pw_below_drewN | apply below_drew1) | exact HB.out))⟩)
   rintro v188 w13 ⟨h0_, h1_⟩
   have n0_ : Aside0 (Kd.R (Kd.int .u8) 5 w13 w.heap.size (fun _ => True) v188 y187) := ⟨h0_⟩
   have n1_ : Aside0 (Below w.heap.size w w13) := ⟨h1_⟩
   clear HB
   clear h0_ h1_
   have HO189 := n0_
   have HB := n1_
   clear n0_ n1_
   have hHeld := trivial
   refine norm_ (a' := ?_) ?_ ?_
   rotate_left
   ·simp only [putAll, Act.put, List.setIfInBounds_toArray, List.set_cons_zero, List.set_cons_succ]
    rfl
   refine pure_ (i := 9) (N := some 19) (v := ?_) (a' := ?_) #[true, true, true, true, true, true, true, true, true, true, false] rfl rfl (any_of HT_.out (by kernel_rfl)) (fun _ _ _ h => h) (Or.inl ⟨by rfl, ?_⟩) ?_ ?_
   rotate_left
   ·intro w'
    go_simp
    with_reducible rfl
   rotate_left
   ·simp only [Act.put, List.setIfInBounds_toArray, List.set_cons_zero, List.set_cons_succ, i64_w, i32_w]
    rfl
   refine pure_ (i := 10) (N := some 2) (v := ?_) (a' := ?_) #[true, true, true, true, true, true, true, true, true, true, true] rfl rfl (any_of HT_.out (by kernel_rfl)) (fun _ _ _ h => h) (Or.inl ⟨by rfl, ?_⟩) ?_ ?_
   rotate_left
   ·intro w'
    go_simp
    with_reducible rfl
   rotate_left
   ·simp only [Act.put, List.setIfInBounds_toArray, List.set_cons_zero, List.set_cons_succ, i64_w, i32_w]
    rfl
   refine done_ (done_of HT_.out (by kernel_rfl)) ?_
   try go_wp2
   go_ret
   exact ⟨by first | rfl | (simp [errW_none, errW_some] <;> rfl) | (simp [*, errW_none, errW_some] <;> rfl), by repeat (first | (with_reducible first | exact HB.out | apply below_alloc | apply pw_below_drewN | apply below_drew1) | exact HB.out)⟩
  ·rw [if_neg c7] at H
   exact absurd H (by simp)

end Go.Proofs.Ytomikblbfappnaa.Q

-- Printed by this session's wip/np.py over the kit's print program. Not trusted: Lean checks it.
namespace Go.Proofs.Ytomikblbfappnaa.Q
open Go.RowKit Go.Proofs.YtomikblbfappnaaW.PrintWords Go.Proofs.YtomikblbfappnaaW.PrintLast Go.Proofs.YtomikblbfappnaaW.Own Go.Proofs.YtomikblbfappnaaW.PrintMore
attribute [local go_sem] max2_int min2_int max_two min_two max_three min_three max_four min_four
set_option linter.unusedVariables false
set_option linter.unusedSimpArgs false

theorem eqA39 (d : Nat) (w : World) (x0 y0 : ByteArray) (x1 y1 : ByteArray) :
    (Op.equalIn (d + 2) 39 (.agg #[.string x0, .string x1]) (.agg #[.string y0, .string y1])).run Try.prog w = .ok (x0.toList == y0.toList && (x1.toList == y1.toList)) w := by
  refine eqA_of Try.underlying39 (by kernel_rfl) ?_
  refine eqf_cons (by rfl) (by go_simp; rfl) (by go_simp; rfl) (by go_simp) ?_
  exact eqf_last (by rfl) (by go_simp; rfl) (by go_simp; rfl) (by go_simp)
end Go.Proofs.Ytomikblbfappnaa.Q

-- Printed by this session's wip/np.py over the kit's print program. Not trusted: Lean checks it.
namespace Go.Proofs.Ytomikblbfappnaa.Q
open Go.RowKit Go.Proofs.YtomikblbfappnaaW.PrintWords Go.Proofs.YtomikblbfappnaaW.PrintLast Go.Proofs.YtomikblbfappnaaW.Own Go.Proofs.YtomikblbfappnaaW.PrintMore
attribute [local go_sem] max2_int min2_int max_two min_two max_three min_three max_four min_four
set_option linter.unusedVariables false
set_option linter.unusedSimpArgs false

attribute [local go_sem high] eqA39
/-! ### api_Attr_1: function 36 -/
def api_Attr_1.f (a0_0 : ByteArray) (a0_1 : ByteArray) (a1_0 : ByteArray) (a1_1 : ByteArray) : Option (Bool) := some (a0_0.toList == a1_0.toList && (a0_1.toList == a1_1.toList))
set_option maxHeartbeats 8000000 in
set_option maxRecDepth 100000 in
theorem api_Attr_1.calls (a0_0 : ByteArray) (a0_1 : ByteArray) (a1_0 : ByteArray) (a1_1 : ByteArray) (r : Bool) (w : World) (hG : Glob w) (h : api_Attr_1.f a0_0 a0_1 a1_0 a1_1 = some r) :
 Calls Try.prog 36 #[.agg #[.string a0_0, .string a0_1], .agg #[.string a1_0, .string a1_1]] w fun e w' => e = .returned (.bool r) ∧ Below w.heap.size w w' := by
 have hu39 := Try.underlying39
 have HG := Aside0.mk hG
 clear hG
 have HB := Aside0.mk (Below.refl w.heap.size w)
 have H : (some (a0_0.toList == a1_0.toList && (a0_1.toList == a1_1.toList))) = some r := h
 clear h
 obtain rfl := Option.some.inj H
 go_enter Try.func36, Try.ntmps36
 go_wp2_with (first | ((with_reducible refine gate_dst (N := 2) rfl ?_); refine box_event ?hg (N := 2) ?hd (cs := #[.string a0_0, .string a0_1]) (t := 39) ?hr ?_; (case hd => rfl); (case hg => rfl); (case hr => first | (go_simp; done) | (go_simp; rfl)); intro gb190 hg w3 hbox hb; have n0_ := Aside0.mk (below_step (by repeat (first | (with_reducible first | exact HB.out | apply below_alloc | apply pw_below_drewN | apply below_drew1) | exact HB.out)) hb); have n1_ := Aside0.mk (hbox); have n2_ := Aside0.mk ((by rw [hg]; exact (below_size (by repeat (first | (with_reducible first | exact HB.out | apply below_alloc | apply pw_below_drewN | apply below_drew1) | exact HB.out))) : w.heap.size ≤ gb190)); have n3_ := Aside0.mk ((by rw [hg]; exact (below_size (by repeat (first | (with_reducible first | exact HB.out | apply below_alloc | apply pw_below_drewN | apply below_drew1) | exact HB.out))) : w.heap.size ≤ gb190)); clear HB; have HB := n0_; have BK190 := n1_; have GW190 := n2_; have GE190 := n3_; clear n0_ n1_ n2_ n3_; clear hb hbox hg) | ((with_reducible refine gate_dst (N := 3) rfl ?_); refine box_event ?hg (N := 3) ?hd (cs := #[.string a1_0, .string a1_1]) (t := 39) ?hr ?_; (case hd => rfl); (case hg => rfl); (case hr => first | (go_simp; done) | (go_simp; rfl)); intro gb191 hg w4 hbox hb; have n0_ := Aside0.mk (blk_below (g := gb190) (o := .cells #[.string a0_0, .string a0_1] 39 (0, 0)) (by (with_reducible repeat (first | refine blk_drewN ?_ _ | refine blk_drew ?_ | refine blk_alloc ?_ _)); exact BK190.out) hb); have n1_ := Aside0.mk (below_step (by repeat (first | (with_reducible first | exact HB.out | apply below_alloc | apply pw_below_drewN | apply below_drew1 | refine below_set ?_ GE190.out) | exact HB.out)) hb); have n2_ := Aside0.mk (hbox); have n3_ := Aside0.mk ((by rw [hg]; exact (below_size (by repeat (first | (with_reducible first | exact HB.out | apply below_alloc | apply pw_below_drewN | apply below_drew1 | refine below_set ?_ GE190.out) | exact HB.out))) : w.heap.size ≤ gb191)); have n4_ := Aside0.mk ((by rw [hg]; exact (below_size (by repeat (first | (with_reducible first | exact HB.out | apply below_alloc | apply pw_below_drewN | apply below_drew1 | refine below_set ?_ GE190.out) | exact HB.out))) : w.heap.size ≤ gb191)); have n5_ := Aside0.mk ((by rw [hg]; exact Nat.ne_of_lt (blk_lt (g := gb190) (o := .cells #[.string a0_0, .string a0_1] 39 (0, 0)) (by (with_reducible repeat (first | refine blk_drewN ?_ _ | refine blk_drew ?_ | refine blk_alloc ?_ _)); exact BK190.out)) : gb190 ≠ gb191)); have n6_ := Aside0.mk ((by rw [hg]; exact Nat.ne_of_gt (blk_lt (g := gb190) (o := .cells #[.string a0_0, .string a0_1] 39 (0, 0)) (by (with_reducible repeat (first | refine blk_drewN ?_ _ | refine blk_drew ?_ | refine blk_alloc ?_ _)); exact BK190.out)) : gb191 ≠ gb190)); clear BK190; clear HB; have BK190 := n0_; have HB := n1_; have BK191 := n2_; have GW191 := n3_; have GE191 := n4_; have NB190_191 := n5_; have NB191_190 := n6_; clear n0_ n1_ n2_ n3_ n4_ n5_ n6_; clear hb hbox hg; have hnb5 := NB190_191.out; have hnc5 := NB191_190.out; have hcz6_0 : w4.cell? ⟨gb190, 0, none⟩ = some (.string a0_0) := (blk_cell BK190.out 0).trans rfl; have hcz6_1 : w4.cell? ⟨gb190, 1, none⟩ = some (.string a0_1) := (blk_cell BK190.out 1).trans rfl; have hfz6_0 := blk_frozen BK190.out 0; have hfz6_1 := blk_frozen BK190.out 1; have hcz7_0 : w4.cell? ⟨gb191, 0, none⟩ = some (.string a1_0) := (blk_cell BK191.out 0).trans rfl; have hcz7_1 : w4.cell? ⟨gb191, 1, none⟩ = some (.string a1_1) := (blk_cell BK191.out 1).trans rfl; have hfz7_0 := blk_frozen BK191.out 0; have hfz7_1 := blk_frozen BK191.out 1))
 go_ret
 exact ⟨by first | rfl | (simp [errW_none, errW_some] <;> rfl) | (simp [*, errW_none, errW_some] <;> rfl), by repeat (first | (with_reducible first | exact HB.out | apply below_alloc | apply pw_below_drewN | apply below_drew1 | refine below_set ?_ GE190.out | refine below_set ?_ GE191.out) | exact HB.out)⟩

end Go.Proofs.Ytomikblbfappnaa.Q

-- Printed by this session's wip/np.py over the kit's print program. Not trusted: Lean checks it.
namespace Go.Proofs.Ytomikblbfappnaa.Q
open Go.RowKit Go.Proofs.YtomikblbfappnaaW.PrintWords Go.Proofs.YtomikblbfappnaaW.PrintLast Go.Proofs.YtomikblbfappnaaW.Own Go.Proofs.YtomikblbfappnaaW.PrintMore
attribute [local go_sem] max2_int min2_int max_two min_two max_three min_three max_four min_four
set_option linter.unusedVariables false
set_option linter.unusedSimpArgs false

/-! ### api_Attr_35: function 35 -/
def api_Attr_35.l0 : Nat → List (S39) → List (S39) → Int → Option (Bool)
 | 0, _, _, _ => none
 | k + 1, x0, x1, x7 => if x7 < (x0.length : Int) then (if 0 ≤ x7 then (if x7 < (x1.length : Int) then ((api_Attr_1.f ((rd_T39 x0 x7).f0) ((rd_T39 x0 x7).f1) ((rd_T39 x1 x7).f0) ((rd_T39 x1 x7).f1)).bind fun t194 => (if t194 = true then (api_Attr_35.l0 k x0 x1 (wrap64 (x7 + 1))) else (some false))) else (none)) else (none)) else (some true)
def api_Attr_35.f (k : Nat) (l0 : List (S39)) (l1 : List (S39))  : Option (Bool) := if (l0.length : Int) = (l1.length : Int) then (api_Attr_35.l0 k l0 l1 0) else (some false)
theorem api_Attr_35.mono_l : ∀ k, (∀ y0 y1 y2, LeO (api_Attr_35.l0 k y0 y1 y2) (api_Attr_35.l0 (k + 1) y0 y1 y2))
 | 0 => fun _ _ _ r h => by simp [api_Attr_35.l0] at h
 | k + 1 => by
  have ih0 := api_Attr_35.mono_l k
  ·intro y0 y1 y2
   unfold api_Attr_35.l0
   repeat' first
   | (with_reducible exact ih0 _ _ _)
   | (with_reducible exact LeO.refl _)
   | (with_reducible exact LeO.none _)
   | (with_reducible refine LeO.ite ?_ ?_)
   | (with_reducible refine LeO.bind ?_ (fun _ => ?_))
   | exact ih0 _ _ _
   | exact LeO.none _
   | refine LeO.ite ?_ ?_
   | refine LeO.bind ?_ (fun _ => ?_)
theorem api_Attr_35.mono : ∀ a0 a1 k, LeO (api_Attr_35.f k a0 a1) (api_Attr_35.f (k + 1) a0 a1) := by
 intro a0 a1 k
 have ih0 := api_Attr_35.mono_l k
 unfold api_Attr_35.f
 repeat' first
  | (with_reducible exact ih0 _ _ _)
  | (with_reducible exact LeO.refl _)
  | (with_reducible exact LeO.none _)
  | (with_reducible refine LeO.ite ?_ ?_)
  | (with_reducible refine LeO.bind ?_ (fun _ => ?_))
  | exact ih0 _ _ _
  | exact LeO.none _
  | refine LeO.ite ?_ ?_
  | refine LeO.bind ?_ (fun _ => ?_)
def api_Attr_35.T6 : Bool × List (List Nat × List Nat) := (true, [([], []), ([], []), ([], []), ([1, 2], [1, 2]), ([3], [3]), ([], []), ([], []), ([5, 6], [5, 6]), ([7], [7]), ([0, 4, 8], [0, 4, 8]), ([9], [9])])
def api_Attr_35.B6 : List Nat := [0, 0, 0, 6, 14, 0, 0, 96, 224, 511, 1023]
theorem api_Attr_35.tab6 : rtab .any (opsOf Try.f35 6) = api_Attr_35.T6 := by kernel_rfl
theorem api_Attr_35.bits6 : waitsOk api_Attr_35.T6.2 api_Attr_35.B6 = true := by kernel_rfl
set_option maxHeartbeats 8000000 in
set_option maxRecDepth 100000 in
theorem api_Attr_35.calls (k : Nat) (A0 : Option Addr) (c0 : Nat) (l0 : List (S39)) (A1 : Option Addr) (c1 : Nat) (l1 : List (S39))  (r : Bool) (w : World) (hr0 : Kd.C k39 w A0 l0.length l0) (hc0 : l0.length ≤ c0) (hr1 : Kd.C k39 w A1 l1.length l1) (hc1 : l1.length ≤ c1) (hG : Glob w) (h : api_Attr_35.f k l0 l1 = some r) :
 Calls Try.prog 35 #[.slice A0 l0.length c0, .slice A1 l1.length c1, .func (.func 36) #[] #[]] w fun e w' => e = .returned (.bool r) ∧ Below w.heap.size w w' := by
 have hu39 := Try.underlying39
 have HG := Aside0.mk hG
 clear hG
 have HR0 := Aside0.mk hr0
 have HC0 := Aside0.mk hc0
 clear hr0 hc0
 have HR1 := Aside0.mk hr1
 have HC1 := Aside0.mk hc1
 clear hr1 hc1
 have HB := Aside0.mk (Below.refl w.heap.size w)
 have H : (if (l0.length : Int) = (l1.length : Int) then (api_Attr_35.l0 k l0 l1 0) else (some false)) = some r := h
 clear h
 by_cases c4 : (l0.length : Int) = (l1.length : Int)
 ·rw [if_pos c4] at H
  have c4b0 : ((l0.length : Int) == (l1.length : Int)) = true := beq_iff_eq.mpr c4
  have c4b1 : ((l0.length : Int) != (l1.length : Int)) = false := bne_eq_false_iff_eq.mpr c4
  have c4b2 : (l0.length == l1.length) = true := by first | simpa using c4 | (simp at c4 ⊢; omega)
  clear c4
  have H' := Aside0.mk H
  clear H
  go_enter Try.func35, Try.ntmps35
  go_wp2
  go_loopg [7] k (fun kq v7 w' => ∃ (x7_1 : Int), v7 = .int .i64 x7_1 ∧ Aside0 (api_Attr_35.l0 kq l0 l1 x7_1 = some r) ∧ Aside0 (kq ≤ k) ∧ Aside0 (Below w.heap.size w w'))
  case atStart => exact ⟨(0), (by first | rfl | (simp; done) | (simp [*]; done) | (simp; exact isEmpty_bne _)), H', ⟨Nat.le_refl _⟩, ⟨by repeat (first | (with_reducible first | exact HB.out | apply below_alloc | apply pw_below_drewN | apply below_drew1) | exact HB.out)⟩⟩
  case round =>
   clear H'
   try clear c1
   try clear p2
   try clear c3
   try clear c4
   try clear c4b0
   try clear c4b1
   try clear c4b2
   obtain ⟨x7_1, rfl, HA, HK1, HB⟩ := hrel
   cases gk with
   | zero => exact absurd HA.out (by simp [api_Attr_35.l0])
   | succ k1 =>
    have H := HA.out
    clear HA
    simp only [api_Attr_35.l0] at H
    by_cases c5 : x7_1 < (l0.length : Int)
    ·rw [if_pos c5] at H
     have c5b0 : decide (x7_1 < (l0.length : Int)) = true := decide_eq_true c5
     clear c5
     by_cases c6 : 0 ≤ x7_1
     ·rw [if_pos c6] at H
      have c6b0 : decide (0 ≤ x7_1) = true := decide_eq_true c6
      clear c6
      by_cases c7 : x7_1 < (l1.length : Int)
      ·rw [if_pos c7] at H
       have c7b0 : decide (x7_1 < (l1.length : Int)) = true := decide_eq_true c7
       clear c7
       replace H := Option.bind_eq_some_iff.mp H
       obtain ⟨t194, A80, H⟩ := H
       replace H : (if t194 = true then (api_Attr_35.l0 k1 l0 l1 (wrap64 (x7_1 + 1))) else (some false)) = some r := H
       have A8 := Aside0.mk A80
       clear A80
       by_cases c9 : t194 = true
       ·subst c9
        have H1 : (api_Attr_35.l0 k1 l0 l1 (wrap64 (x7_1 + 1))) = some r := by rw [if_pos rfl] at H; exact H
        clear H
        have H := H1
        clear H1
        have H' := Aside0.mk H
        clear H
        try go_wp2
        have n0_ := Aside0.mk (below_drew1 HB.out)
        clear HB
        have HB := n0_
        clear n0_
        have p192 : 0 ≤ (x7_1 : Int) := of_decide_eq_true (by first | (with_reducible assumption) | assumption)
        have q192 : x7_1 < (l0.length : Int) := of_decide_eq_true (by first | (with_reducible assumption) | assumption)
        obtain ⟨ad192, e192, hx192_0, hx192_1⟩ := at_T39 HR0.out x7_1 p192 q192
        have hw192_1 := hx192_1
        have hw192_0 := hx192_0
        cases e192
        replace hx192_0 := (HB.out.cell (World.block_lt_of_cell? w _ hx192_0)).trans hx192_0
        replace hx192_1 := (HB.out.cell (World.block_lt_of_cell? w _ hx192_1)).trans hx192_1
        replace p192 := eq_true p192
        replace q192 := eq_true q192
        have p193 : 0 ≤ (x7_1 : Int) := of_decide_eq_true (by first | (with_reducible assumption) | assumption)
        have q193 : x7_1 < (l1.length : Int) := of_decide_eq_true (by first | (with_reducible assumption) | assumption)
        obtain ⟨ad193, e193, hx193_0, hx193_1⟩ := at_T39 HR1.out x7_1 p193 q193
        have hw193_1 := hx193_1
        have hw193_0 := hx193_0
        cases e193
        replace hx193_0 := (HB.out.cell (World.block_lt_of_cell? w _ hx193_0)).trans hx193_0
        replace hx193_1 := (HB.out.cell (World.block_lt_of_cell? w _ hx193_1)).trans hx193_1
        replace p193 := eq_true p193
        replace q193 := eq_true q193
        refine start_ (n := 11) (S := fun w' => w'.cell? (ad192.add ((x7_1).toNat * 2)) = some (.string ((rd_T39 l0 x7_1).f0)) ∧ w'.cell? ⟨(ad192.add ((x7_1).toNat * 2)).block, (ad192.add ((x7_1).toNat * 2)).off + 1, none⟩ = some (.string ((rd_T39 l0 x7_1).f1)) ∧ w'.cell? (ad193.add ((x7_1).toNat * 2)) = some (.string ((rd_T39 l1 x7_1).f0)) ∧ w'.cell? ⟨(ad193.add ((x7_1).toNat * 2)).block, (ad193.add ((x7_1).toNat * 2)).off + 1, none⟩ = some (.string ((rd_T39 l1 x7_1).f1))) (ds := []) #[false, false, false, false, false, false, false, false, false, false, false] (by kernel_rfl) rfl rfl ⟨((HB.out.cell (World.block_lt_of_cell? w _ hw192_0)).trans hw192_0), ((HB.out.cell (World.block_lt_of_cell? w _ hw192_1)).trans hw192_1), ((HB.out.cell (World.block_lt_of_cell? w _ hw193_0)).trans hw193_0), ((HB.out.cell (World.block_lt_of_cell? w _ hw193_1)).trans hw193_1)⟩ (fun hHeld => ?_); refine with_tabW api_Attr_35.tab6 api_Attr_35.bits6 (fun HT_ HW_ => ?_)
        generalize wr.drew = w10 at HB hx192_0 hx192_1 hx193_0 hx193_1 hHeld ⊢
        refine pure_ (i := 0) (N := some 19) (v := ?_) (a' := ?_) #[true, false, false, false, false, false, false, false, false, false, false] rfl rfl (any_of HT_.out (by kernel_rfl)) (fun _ _ _ h => h) (Or.inl ⟨by rfl, ?_⟩) ?_ ?_
        rotate_left
        ·intro w'
         go_simp
         with_reducible rfl
        rotate_left
        ·simp only [Act.put, List.setIfInBounds_toArray, List.set_cons_zero, List.set_cons_succ, i64_w, i32_w]
         rfl
        refine pure_ (i := 1) (N := some 20) (v := ?_) (a' := ?_) #[true, true, false, false, false, false, false, false, false, false, false] rfl rfl (any_of HT_.out (by kernel_rfl)) (fun _ _ _ h => h) (Or.inl ⟨by rfl, ?_⟩) ?_ ?_
        rotate_left
        ·intro w'
         go_simp
         with_reducible rfl
        rotate_left
        ·simp only [Act.put, List.setIfInBounds_toArray, List.set_cons_zero, List.set_cons_succ, i64_w, i32_w]
         rfl
        refine pure_ (i := 2) (N := some 21) (v := ?_) (a' := ?_) #[true, true, true, false, false, false, false, false, false, false, false] rfl rfl (any_of HT_.out (by kernel_rfl)) (fun _ _ _ h => h) (Or.inl ⟨by rfl, ?_⟩) ?_ ?_
        rotate_left
        ·intro w'
         go_simp
         with_reducible rfl
        rotate_left
        ·simp only [Act.put, List.setIfInBounds_toArray, List.set_cons_zero, List.set_cons_succ, i64_w, i32_w]
         rfl
        refine pure_ (i := 3) (N := some 22) (v := ?_) (a' := ?_) #[true, true, true, true, false, false, false, false, false, false, false] rfl rfl (any_of HT_.out (by kernel_rfl)) (fun _ _ _ h => h) (Or.inl ⟨by rfl, ?_⟩) ?_ ?_
        rotate_left
        ·intro w'
         go_simp
         with_reducible rfl
        rotate_left
        ·simp only [Act.put, List.setIfInBounds_toArray, List.set_cons_zero, List.set_cons_succ, i64_w, i32_w]
         rfl
        refine pure_ (i := 5) (N := some 24) (v := ?_) (a' := ?_) #[true, true, true, true, false, true, false, false, false, false, false] rfl rfl (any_of HT_.out (by kernel_rfl)) (fun _ _ _ h => h) (Or.inl ⟨by rfl, ?_⟩) ?_ ?_
        rotate_left
        ·intro w'
         go_simp
         with_reducible rfl
        rotate_left
        ·simp only [Act.put, List.setIfInBounds_toArray, List.set_cons_zero, List.set_cons_succ, i64_w, i32_w]
         rfl
        refine pure_ (i := 6) (N := some 25) (v := ?_) (a' := ?_) #[true, true, true, true, false, true, true, false, false, false, false] rfl rfl (any_of HT_.out (by kernel_rfl)) (fun _ _ _ h => h) (Or.inl ⟨by rfl, ?_⟩) ?_ ?_
        rotate_left
        ·intro w'
         go_simp
         with_reducible rfl
        rotate_left
        ·simp only [Act.put, List.setIfInBounds_toArray, List.set_cons_zero, List.set_cons_succ, i64_w, i32_w]
         rfl
        refine pure_ (i := 7) (N := some 26) (v := ?_) (a' := ?_) #[true, true, true, true, false, true, true, true, false, false, false] rfl rfl (any_of HT_.out (by kernel_rfl)) (fun _ _ _ h => h) (Or.inl ⟨by rfl, ?_⟩) ?_ ?_
        rotate_left
        ·intro w'
         go_simp
         with_reducible rfl
        rotate_left
        ·simp only [Act.put, List.setIfInBounds_toArray, List.set_cons_zero, List.set_cons_succ, i64_w, i32_w]
         rfl
        refine take_ (i := 4) (N := some 23) (v := ?_) (a' := ?_) #[true, true, true, true, true, true, true, true, false, false, false] rfl rfl (take_ofW HT_.out HW_.out (by kernel_rfl)) (fun _ _ _ h => h) (Or.inl ⟨by rfl, ?_⟩) hHeld ?_ ?_
        rotate_left
        ·rintro w' ⟨s0, s1, s2, s3⟩
         go_simp
         with_reducible rfl
        rotate_left
        ·simp only [Act.put, List.setIfInBounds_toArray, List.set_cons_zero, List.set_cons_succ, i64_w, i32_w]
         rfl
        refine take_ (i := 8) (N := some 27) (v := ?_) (a' := ?_) #[true, true, true, true, true, true, true, true, true, false, false] rfl rfl (take_ofW HT_.out HW_.out (by kernel_rfl)) (fun _ _ _ h => h) (Or.inl ⟨by rfl, ?_⟩) hHeld ?_ ?_
        rotate_left
        ·rintro w' ⟨s0, s1, s2, s3⟩
         go_simp
         with_reducible rfl
        rotate_left
        ·simp only [Act.put, List.setIfInBounds_toArray, List.set_cons_zero, List.set_cons_succ, i64_w, i32_w]
         rfl
        refine one_ (i := 9) (N := some 28) #[true, true, true, true, true, true, true, true, true, true, false] rfl rfl (one_of HT_.out (by kernel_rfl)) (by decide) (fun K hK => ?_)
        first | (refine goes_ Try.func36 (by kernel_rfl) rfl #[.agg #[.string ((rd_T39 l0 x7_1).f0), .string ((rd_T39 l0 x7_1).f1)], .agg #[.string ((rd_T39 l1 x7_1).f0), .string ((rd_T39 l1 x7_1).f1)]] (by rfl) rfl rfl (by (try simp only [List.map_toArray, List.map_cons, List.map_nil]); first | done | rfl | (simp only [List.length_drop, List.length_take]; rfl)) ?_) | (refine goesV_ Try.func36 (by kernel_rfl) rfl #[.agg #[.string ((rd_T39 l0 x7_1).f0), .string ((rd_T39 l0 x7_1).f1)], .agg #[.string ((rd_T39 l1 x7_1).f0), .string ((rd_T39 l1 x7_1).f1)]] (by rfl) rfl rfl rfl (by (try simp only [List.map_toArray, List.map_cons, List.map_nil]); first | done | rfl | (simp only [List.length_drop, List.length_take]; rfl)) ?_)
        with_reducible refine (api_Attr_1.calls ((rd_T39 l0 x7_1).f0) ((rd_T39 l0 x7_1).f1) ((rd_T39 l1 x7_1).f0) ((rd_T39 l1 x7_1).f1) true _ ?side1 A8.out).mono ?_
        (case side1 => exact Glob.step HG.out (by repeat (first | (with_reducible first | exact HB.out | apply below_alloc | apply pw_below_drewN | apply below_drew1) | exact HB.out)))
        rintro e w11 ⟨rfl, hb⟩
        refine ⟨_, rfl, ?_⟩
        have n0_ := Aside0.mk (below_step (by repeat (first | (with_reducible first | exact HB.out | apply below_alloc | apply pw_below_drewN | apply below_drew1) | exact HB.out)) hb)
        clear HB
        have HB := n0_
        clear n0_
        (try clear hb)
        (try clear hb2)
        (try clear hk)
        (try clear hi)
        refine hK.out _ _ ⟨((HB.out.cell (World.block_lt_of_cell? w _ hw192_0)).trans hw192_0), ((HB.out.cell (World.block_lt_of_cell? w _ hw192_1)).trans hw192_1), ((HB.out.cell (World.block_lt_of_cell? w _ hw193_0)).trans hw193_0), ((HB.out.cell (World.block_lt_of_cell? w _ hw193_1)).trans hw193_1)⟩ (fun hHeld => ?_)
        clear hK K
        refine norm_ (a' := ?_) ?_ ?_
        rotate_left
        ·show Act.put _ (some 28) _ = _
         simp only [Act.put, List.setIfInBounds_toArray, List.set_cons_zero, List.set_cons_succ, i64_w, i32_w]
         rfl
        refine pure_ (i := 10) (N := some 29) (v := ?_) (a' := ?_) #[true, true, true, true, true, true, true, true, true, true, true] rfl rfl (any_of HT_.out (by kernel_rfl)) (fun _ _ _ h => h) (Or.inl ⟨by rfl, ?_⟩) ?_ ?_
        rotate_left
        ·intro w'
         go_simp
         with_reducible rfl
        rotate_left
        ·simp only [Act.put, List.setIfInBounds_toArray, List.set_cons_zero, List.set_cons_succ, i64_w, i32_w]
         rfl
        refine done_ (done_of HT_.out (by kernel_rfl)) ?_
        try go_wp2
        go_roundg k1
        case measure => have := HK1.out; omega
        case rel => exact ⟨(wrap64 (x7_1 + 1)), (by first | rfl | (simp; done) | (simp [*]; done) | (simp; exact isEmpty_bne _)), H', ⟨by have := HK1.out; omega⟩, ⟨by repeat (first | (with_reducible first | exact HB.out | apply below_alloc | apply pw_below_drewN | apply below_drew1) | exact HB.out)⟩⟩
       ·replace c9 := Bool.eq_false_iff.mpr c9
        subst c9
        have H1 : (some false) = some r := by rw [if_neg (show ¬ (false = true) by decide)] at H; exact H
        clear H
        have H := H1
        clear H1
        obtain rfl := Option.some.inj H
        try go_wp2
        have n0_ := Aside0.mk (below_drew1 HB.out)
        clear HB
        have HB := n0_
        clear n0_
        have p192 : 0 ≤ (x7_1 : Int) := of_decide_eq_true (by first | (with_reducible assumption) | assumption)
        have q192 : x7_1 < (l0.length : Int) := of_decide_eq_true (by first | (with_reducible assumption) | assumption)
        obtain ⟨ad192, e192, hx192_0, hx192_1⟩ := at_T39 HR0.out x7_1 p192 q192
        have hw192_1 := hx192_1
        have hw192_0 := hx192_0
        cases e192
        replace hx192_0 := (HB.out.cell (World.block_lt_of_cell? w _ hx192_0)).trans hx192_0
        replace hx192_1 := (HB.out.cell (World.block_lt_of_cell? w _ hx192_1)).trans hx192_1
        replace p192 := eq_true p192
        replace q192 := eq_true q192
        have p193 : 0 ≤ (x7_1 : Int) := of_decide_eq_true (by first | (with_reducible assumption) | assumption)
        have q193 : x7_1 < (l1.length : Int) := of_decide_eq_true (by first | (with_reducible assumption) | assumption)
        obtain ⟨ad193, e193, hx193_0, hx193_1⟩ := at_T39 HR1.out x7_1 p193 q193
        have hw193_1 := hx193_1
        have hw193_0 := hx193_0
        cases e193
        replace hx193_0 := (HB.out.cell (World.block_lt_of_cell? w _ hx193_0)).trans hx193_0
        replace hx193_1 := (HB.out.cell (World.block_lt_of_cell? w _ hx193_1)).trans hx193_1
        replace p193 := eq_true p193
        replace q193 := eq_true q193
        refine start_ (n := 11) (S := fun w' => w'.cell? (ad192.add ((x7_1).toNat * 2)) = some (.string ((rd_T39 l0 x7_1).f0)) ∧ w'.cell? ⟨(ad192.add ((x7_1).toNat * 2)).block, (ad192.add ((x7_1).toNat * 2)).off + 1, none⟩ = some (.string ((rd_T39 l0 x7_1).f1)) ∧ w'.cell? (ad193.add ((x7_1).toNat * 2)) = some (.string ((rd_T39 l1 x7_1).f0)) ∧ w'.cell? ⟨(ad193.add ((x7_1).toNat * 2)).block, (ad193.add ((x7_1).toNat * 2)).off + 1, none⟩ = some (.string ((rd_T39 l1 x7_1).f1))) (ds := []) #[false, false, false, false, false, false, false, false, false, false, false] (by kernel_rfl) rfl rfl ⟨((HB.out.cell (World.block_lt_of_cell? w _ hw192_0)).trans hw192_0), ((HB.out.cell (World.block_lt_of_cell? w _ hw192_1)).trans hw192_1), ((HB.out.cell (World.block_lt_of_cell? w _ hw193_0)).trans hw193_0), ((HB.out.cell (World.block_lt_of_cell? w _ hw193_1)).trans hw193_1)⟩ (fun hHeld => ?_); refine with_tabW api_Attr_35.tab6 api_Attr_35.bits6 (fun HT_ HW_ => ?_)
        generalize wr.drew = w12 at HB hx192_0 hx192_1 hx193_0 hx193_1 hHeld ⊢
        refine pure_ (i := 0) (N := some 19) (v := ?_) (a' := ?_) #[true, false, false, false, false, false, false, false, false, false, false] rfl rfl (any_of HT_.out (by kernel_rfl)) (fun _ _ _ h => h) (Or.inl ⟨by rfl, ?_⟩) ?_ ?_
        rotate_left
        ·intro w'
         go_simp
         with_reducible rfl
        rotate_left
        ·simp only [Act.put, List.setIfInBounds_toArray, List.set_cons_zero, List.set_cons_succ, i64_w, i32_w]
         rfl
        refine pure_ (i := 1) (N := some 20) (v := ?_) (a' := ?_) #[true, true, false, false, false, false, false, false, false, false, false] rfl rfl (any_of HT_.out (by kernel_rfl)) (fun _ _ _ h => h) (Or.inl ⟨by rfl, ?_⟩) ?_ ?_
        rotate_left
        ·intro w'
         go_simp
         with_reducible rfl
        rotate_left
        ·simp only [Act.put, List.setIfInBounds_toArray, List.set_cons_zero, List.set_cons_succ, i64_w, i32_w]
         rfl
        refine pure_ (i := 2) (N := some 21) (v := ?_) (a' := ?_) #[true, true, true, false, false, false, false, false, false, false, false] rfl rfl (any_of HT_.out (by kernel_rfl)) (fun _ _ _ h => h) (Or.inl ⟨by rfl, ?_⟩) ?_ ?_
        rotate_left
        ·intro w'
         go_simp
         with_reducible rfl
        rotate_left
        ·simp only [Act.put, List.setIfInBounds_toArray, List.set_cons_zero, List.set_cons_succ, i64_w, i32_w]
         rfl
        refine pure_ (i := 3) (N := some 22) (v := ?_) (a' := ?_) #[true, true, true, true, false, false, false, false, false, false, false] rfl rfl (any_of HT_.out (by kernel_rfl)) (fun _ _ _ h => h) (Or.inl ⟨by rfl, ?_⟩) ?_ ?_
        rotate_left
        ·intro w'
         go_simp
         with_reducible rfl
        rotate_left
        ·simp only [Act.put, List.setIfInBounds_toArray, List.set_cons_zero, List.set_cons_succ, i64_w, i32_w]
         rfl
        refine pure_ (i := 5) (N := some 24) (v := ?_) (a' := ?_) #[true, true, true, true, false, true, false, false, false, false, false] rfl rfl (any_of HT_.out (by kernel_rfl)) (fun _ _ _ h => h) (Or.inl ⟨by rfl, ?_⟩) ?_ ?_
        rotate_left
        ·intro w'
         go_simp
         with_reducible rfl
        rotate_left
        ·simp only [Act.put, List.setIfInBounds_toArray, List.set_cons_zero, List.set_cons_succ, i64_w, i32_w]
         rfl
        refine pure_ (i := 6) (N := some 25) (v := ?_) (a' := ?_) #[true, true, true, true, false, true, true, false, false, false, false] rfl rfl (any_of HT_.out (by kernel_rfl)) (fun _ _ _ h => h) (Or.inl ⟨by rfl, ?_⟩) ?_ ?_
        rotate_left
        ·intro w'
         go_simp
         with_reducible rfl
        rotate_left
        ·simp only [Act.put, List.setIfInBounds_toArray, List.set_cons_zero, List.set_cons_succ, i64_w, i32_w]
         rfl
        refine pure_ (i := 7) (N := some 26) (v := ?_) (a' := ?_) #[true, true, true, true, false, true, true, true, false, false, false] rfl rfl (any_of HT_.out (by kernel_rfl)) (fun _ _ _ h => h) (Or.inl ⟨by rfl, ?_⟩) ?_ ?_
        rotate_left
        ·intro w'
         go_simp
         with_reducible rfl
        rotate_left
        ·simp only [Act.put, List.setIfInBounds_toArray, List.set_cons_zero, List.set_cons_succ, i64_w, i32_w]
         rfl
        refine take_ (i := 4) (N := some 23) (v := ?_) (a' := ?_) #[true, true, true, true, true, true, true, true, false, false, false] rfl rfl (take_ofW HT_.out HW_.out (by kernel_rfl)) (fun _ _ _ h => h) (Or.inl ⟨by rfl, ?_⟩) hHeld ?_ ?_
        rotate_left
        ·rintro w' ⟨s0, s1, s2, s3⟩
         go_simp
         with_reducible rfl
        rotate_left
        ·simp only [Act.put, List.setIfInBounds_toArray, List.set_cons_zero, List.set_cons_succ, i64_w, i32_w]
         rfl
        refine take_ (i := 8) (N := some 27) (v := ?_) (a' := ?_) #[true, true, true, true, true, true, true, true, true, false, false] rfl rfl (take_ofW HT_.out HW_.out (by kernel_rfl)) (fun _ _ _ h => h) (Or.inl ⟨by rfl, ?_⟩) hHeld ?_ ?_
        rotate_left
        ·rintro w' ⟨s0, s1, s2, s3⟩
         go_simp
         with_reducible rfl
        rotate_left
        ·simp only [Act.put, List.setIfInBounds_toArray, List.set_cons_zero, List.set_cons_succ, i64_w, i32_w]
         rfl
        refine one_ (i := 9) (N := some 28) #[true, true, true, true, true, true, true, true, true, true, false] rfl rfl (one_of HT_.out (by kernel_rfl)) (by decide) (fun K hK => ?_)
        first | (refine goes_ Try.func36 (by kernel_rfl) rfl #[.agg #[.string ((rd_T39 l0 x7_1).f0), .string ((rd_T39 l0 x7_1).f1)], .agg #[.string ((rd_T39 l1 x7_1).f0), .string ((rd_T39 l1 x7_1).f1)]] (by rfl) rfl rfl (by (try simp only [List.map_toArray, List.map_cons, List.map_nil]); first | done | rfl | (simp only [List.length_drop, List.length_take]; rfl)) ?_) | (refine goesV_ Try.func36 (by kernel_rfl) rfl #[.agg #[.string ((rd_T39 l0 x7_1).f0), .string ((rd_T39 l0 x7_1).f1)], .agg #[.string ((rd_T39 l1 x7_1).f0), .string ((rd_T39 l1 x7_1).f1)]] (by rfl) rfl rfl rfl (by (try simp only [List.map_toArray, List.map_cons, List.map_nil]); first | done | rfl | (simp only [List.length_drop, List.length_take]; rfl)) ?_)
        with_reducible refine (api_Attr_1.calls ((rd_T39 l0 x7_1).f0) ((rd_T39 l0 x7_1).f1) ((rd_T39 l1 x7_1).f0) ((rd_T39 l1 x7_1).f1) false _ ?side1 A8.out).mono ?_
        (case side1 => exact Glob.step HG.out (by repeat (first | (with_reducible first | exact HB.out | apply below_alloc | apply pw_below_drewN | apply below_drew1) | exact HB.out)))
        rintro e w13 ⟨rfl, hb⟩
        refine ⟨_, rfl, ?_⟩
        have n0_ := Aside0.mk (below_step (by repeat (first | (with_reducible first | exact HB.out | apply below_alloc | apply pw_below_drewN | apply below_drew1) | exact HB.out)) hb)
        clear HB
        have HB := n0_
        clear n0_
        (try clear hb)
        (try clear hb2)
        (try clear hk)
        (try clear hi)
        refine hK.out _ _ ⟨((HB.out.cell (World.block_lt_of_cell? w _ hw192_0)).trans hw192_0), ((HB.out.cell (World.block_lt_of_cell? w _ hw192_1)).trans hw192_1), ((HB.out.cell (World.block_lt_of_cell? w _ hw193_0)).trans hw193_0), ((HB.out.cell (World.block_lt_of_cell? w _ hw193_1)).trans hw193_1)⟩ (fun hHeld => ?_)
        clear hK K
        refine norm_ (a' := ?_) ?_ ?_
        rotate_left
        ·show Act.put _ (some 28) _ = _
         simp only [Act.put, List.setIfInBounds_toArray, List.set_cons_zero, List.set_cons_succ, i64_w, i32_w]
         rfl
        refine pure_ (i := 10) (N := some 29) (v := ?_) (a' := ?_) #[true, true, true, true, true, true, true, true, true, true, true] rfl rfl (any_of HT_.out (by kernel_rfl)) (fun _ _ _ h => h) (Or.inl ⟨by rfl, ?_⟩) ?_ ?_
        rotate_left
        ·intro w'
         go_simp
         with_reducible rfl
        rotate_left
        ·simp only [Act.put, List.setIfInBounds_toArray, List.set_cons_zero, List.set_cons_succ, i64_w, i32_w]
         rfl
        refine done_ (done_of HT_.out (by kernel_rfl)) ?_
        try go_wp2
        go_ret
        exact ⟨by first | rfl | (simp [errW_none, errW_some] <;> rfl) | (simp [*, errW_none, errW_some] <;> rfl), by repeat (first | (with_reducible first | exact HB.out | apply below_alloc | apply pw_below_drewN | apply below_drew1) | exact HB.out)⟩
      ·rw [if_neg c7] at H
       exact absurd H (by simp)
     ·rw [if_neg c6] at H
      exact absurd H (by simp)
    ·rw [if_neg c5] at H
     have c5b0 : decide (x7_1 < (l0.length : Int)) = false := decide_eq_false c5
     clear c5
     obtain rfl := Option.some.inj H
     go_wp2
     go_ret
     exact ⟨by first | rfl | (simp [errW_none, errW_some] <;> rfl) | (simp [*, errW_none, errW_some] <;> rfl), by repeat (first | (with_reducible first | exact HB.out | apply below_alloc | apply pw_below_drewN | apply below_drew1) | exact HB.out)⟩
 ·rw [if_neg c4] at H
  have c4b0 : ((l0.length : Int) == (l1.length : Int)) = false := beq_eq_false_iff_ne.mpr c4
  have c4b1 : ((l0.length : Int) != (l1.length : Int)) = true := bne_iff_ne.mpr c4
  have c4b2 : (l0.length == l1.length) = false := by first | simpa using c4 | (simp at c4 ⊢; omega)
  obtain rfl := Option.some.inj H
  go_enter Try.func35, Try.ntmps35
  go_wp2
  go_ret
  exact ⟨by first | rfl | (simp [errW_none, errW_some] <;> rfl) | (simp [*, errW_none, errW_some] <;> rfl), by repeat (first | (with_reducible first | exact HB.out | apply below_alloc | apply pw_below_drewN | apply below_drew1) | exact HB.out)⟩

end Go.Proofs.Ytomikblbfappnaa.Q

-- Printed by this session's wip/np.py over the kit's print program. Not trusted: Lean checks it.
namespace Go.Proofs.Ytomikblbfappnaa.Q
open Go.RowKit Go.Proofs.YtomikblbfappnaaW.PrintWords Go.Proofs.YtomikblbfappnaaW.PrintLast Go.Proofs.YtomikblbfappnaaW.Own Go.Proofs.YtomikblbfappnaaW.PrintMore
attribute [local go_sem] max2_int min2_int max_two min_two max_three min_three max_four min_four
set_option linter.unusedVariables false
set_option linter.unusedSimpArgs false

/-! ### api_Attr_21: function 21 -/
def api_Attr_21.f (k : Nat) (l0 : List (S39)) (l1 : List (S39)) : Option (Bool) := (api_Attr_35.f k l0 l1).bind fun t195 => (some t195)
theorem api_Attr_21.mono : ∀ a0 a1 k, LeO (api_Attr_21.f k a0 a1) (api_Attr_21.f (k + 1) a0 a1) := by
 intro a0 a1 k
 unfold api_Attr_21.f
 repeat' first
  | (with_reducible exact api_Attr_35.mono _ _ _)
  | (with_reducible exact LeO.refl _)
  | (with_reducible exact LeO.none _)
  | (with_reducible refine LeO.ite ?_ ?_)
  | (with_reducible refine LeO.bind ?_ (fun _ => ?_))
  | exact api_Attr_35.mono _ _ _
  | exact LeO.none _
  | refine LeO.ite ?_ ?_
  | refine LeO.bind ?_ (fun _ => ?_)
set_option maxHeartbeats 8000000 in
set_option maxRecDepth 100000 in
theorem api_Attr_21.calls (k : Nat) (A0 : Option Addr) (c0 : Nat) (l0 : List (S39)) (A1 : Option Addr) (c1 : Nat) (l1 : List (S39)) (r : Bool) (w : World) (hr0 : Kd.C k39 w A0 l0.length l0) (hc0 : l0.length ≤ c0) (hr1 : Kd.C k39 w A1 l1.length l1) (hc1 : l1.length ≤ c1) (hG : Glob w) (h : api_Attr_21.f k l0 l1 = some r) :
 Calls Try.prog 21 #[.slice A0 l0.length c0, .slice A1 l1.length c1] w fun e w' => e = .returned (.bool r) ∧ Below w.heap.size w w' := by
 have HG := Aside0.mk hG
 clear hG
 have HR0 := Aside0.mk hr0
 have HC0 := Aside0.mk hc0
 clear hr0 hc0
 have HR1 := Aside0.mk hr1
 have HC1 := Aside0.mk hc1
 clear hr1 hc1
 have HB := Aside0.mk (Below.refl w.heap.size w)
 have H : ((api_Attr_35.f k l0 l1).bind fun t195 => (some t195)) = some r := h
 clear h
 replace H := Option.bind_eq_some_iff.mp H
 obtain ⟨t195, A30, H⟩ := H
 replace H : (some t195) = some r := H
 have A3 := Aside0.mk A30
 clear A30
 obtain rfl := Option.some.inj H
 go_enter Try.func21, Try.ntmps21
 go_wp2_with (first | ((with_reducible refine gate_callee (f := 35) rfl ?_); refine goesL_ (some 7) rfl rfl Try.func35 (by kernel_rfl) rfl #[.slice A0 l0.length c0, .slice A1 l1.length c1, .func (.func 36) #[] #[]] rfl (by (try simp only [List.map_toArray, List.map_cons, List.map_nil]); first | done | rfl | (simp only [List.length_drop, List.length_take]; rfl)) ?_; (with_reducible refine (api_Attr_35.calls k _ _ l0 _ _ l1  t195 _ ?side1 ?side2 ?side3 ?side4 ?side5 A3.out).mono ?_); (case side1 => repeat (first | exact HR0.out | (with_reducible refine Kd.C_alloc ?_ _) | (with_reducible refine Kd.C_drewN ?_ _) | (with_reducible refine Kd.C_drew ?_))); (case side2 => exact HC0.out); (case side3 => repeat (first | exact HR1.out | (with_reducible refine Kd.C_alloc ?_ _) | (with_reducible refine Kd.C_drewN ?_ _) | (with_reducible refine Kd.C_drew ?_))); (case side4 => exact HC1.out); (case side5 => exact Glob.step HG.out (by repeat (first | (with_reducible first | exact HB.out | apply below_alloc | apply pw_below_drewN | apply below_drew1) | exact HB.out))); rintro e w4 ⟨rfl, hb⟩; refine ⟨_, rfl, ?_⟩; have n0_ := Aside0.mk (below_step (by repeat (first | (with_reducible first | exact HB.out | apply below_alloc | apply pw_below_drewN | apply below_drew1) | exact HB.out)) hb); clear HB; have HB := n0_; clear n0_; (try clear hb); (try clear hb2); (try clear hk); (try clear hi)))
 go_ret
 exact ⟨by first | rfl | (simp [errW_none, errW_some] <;> rfl) | (simp [*, errW_none, errW_some] <;> rfl), by repeat (first | (with_reducible first | exact HB.out | apply below_alloc | apply pw_below_drewN | apply below_drew1) | exact HB.out)⟩

end Go.Proofs.Ytomikblbfappnaa.Q

-- Printed by this session's wip/np.py over the kit's print program. Not trusted: Lean checks it.
namespace Go.Proofs.Ytomikblbfappnaa.Q
open Go.RowKit Go.Proofs.YtomikblbfappnaaW.PrintWords Go.Proofs.YtomikblbfappnaaW.PrintLast Go.Proofs.YtomikblbfappnaaW.Own Go.Proofs.YtomikblbfappnaaW.PrintMore
attribute [local go_sem] max2_int min2_int max_two min_two max_three min_three max_four min_four
set_option linter.unusedVariables false
set_option linter.unusedSimpArgs false

/-! ### newellaw02_TokenAttrs: function 10 -/
mutual
def newellaw02_TokenAttrs.l0 : Nat → Int → ByteArray → ByteArray → ByteArray → Int → Option (Bool)
 | 0, _, _, _, _, _ => none
 | k + 1, x0, x2, x7, x8, x9 => if x9 < (x2.size : Int) then (newellaw02_TokenAttrs.j1 k x0 x2 x7 x8 x9 (decide (x9 < 40))) else (newellaw02_TokenAttrs.j1 k x0 x2 x7 x8 x9 false)
def newellaw02_TokenAttrs.j1 : Nat → Int → ByteArray → ByteArray → ByteArray → Int → Bool → Option (Bool)
 | 0, _, _, _, _, _, _ => none
 | k + 1, x0, x2, x7, x8, x9, x36 => if x36 = true then (if 0 ≤ x9 then (if x9 < (x2.size : Int) then (if (bt x2 x9) ≥ 32 then (if (bt x2 x9) = 60 then (newellaw02_TokenAttrs.l0 k x0 x2 x7 x8 (wrap64 (x9 + 1))) else (if (bt x2 x9) = 38 then (newellaw02_TokenAttrs.l0 k x0 x2 x7 x8 (wrap64 (x9 + 1))) else (if (bt x2 x9) = 34 then (newellaw02_TokenAttrs.l0 k x0 x2 x7 x8 (wrap64 (x9 + 1))) else (if x9 ≤ (wrap64 (x9 + 1)) then (if (wrap64 (x9 + 1)) ≤ (x2.size : Int) then (if x8.size + (x2.extract (x9 : Int).toNat ((wrap64 (x9 + 1)) : Int).toNat).size ≤ 9223372036854775807 then (newellaw02_TokenAttrs.l0 k x0 x2 x7 (x8 ++ (x2.extract (x9 : Int).toNat ((wrap64 (x9 + 1)) : Int).toNat)) (wrap64 (x9 + 1))) else (none)) else (none)) else (none))))) else (newellaw02_TokenAttrs.l0 k x0 x2 x7 x8 (wrap64 (x9 + 1)))) else (none)) else (none)) else (newellaw02_TokenAttrs.l1 k x0 x7 x8 (⟨#[60, 101]⟩ : ByteArray) ([] : List (S39)) 0)
def newellaw02_TokenAttrs.l1 : Nat → Int → ByteArray → ByteArray → ByteArray → List (S39) → Int → Option (Bool)
 | 0, _, _, _, _, _, _ => none
 | k + 1, x0, x7, x8, x10, x11, x12 => if x12 < x0 then ((newelhelp_Digits.f k x12).bind fun t200 => (if 1 + t200.size ≤ 9223372036854775807 then ((newelhelp_Digits.f k x12).bind fun t201 => (if x8.size + t201.size ≤ 9223372036854775807 then (if x10.size + x7.size ≤ 9223372036854775807 then (if (x10 ++ x7).size + ((⟨#[110]⟩ : ByteArray) ++ t200).size ≤ 9223372036854775807 then (if ((x10 ++ x7) ++ ((⟨#[110]⟩ : ByteArray) ++ t200)).size + x7.size ≤ 9223372036854775807 then (if (((x10 ++ x7) ++ ((⟨#[110]⟩ : ByteArray) ++ t200)) ++ x7).size + 1 ≤ 9223372036854775807 then (if ((((x10 ++ x7) ++ ((⟨#[110]⟩ : ByteArray) ++ t200)) ++ x7) ++ (⟨#[61]⟩ : ByteArray)).size + x7.size ≤ 9223372036854775807 then (if (((((x10 ++ x7) ++ ((⟨#[110]⟩ : ByteArray) ++ t200)) ++ x7) ++ (⟨#[61]⟩ : ByteArray)) ++ x7).size + 1 ≤ 9223372036854775807 then (if ((((((x10 ++ x7) ++ ((⟨#[110]⟩ : ByteArray) ++ t200)) ++ x7) ++ (⟨#[61]⟩ : ByteArray)) ++ x7) ++ (⟨#[34]⟩ : ByteArray)).size + (x8 ++ t201).size ≤ 9223372036854775807 then (if (((((((x10 ++ x7) ++ ((⟨#[110]⟩ : ByteArray) ++ t200)) ++ x7) ++ (⟨#[61]⟩ : ByteArray)) ++ x7) ++ (⟨#[34]⟩ : ByteArray)) ++ (x8 ++ t201)).size + 1 ≤ 9223372036854775807 then (if x11.length < 4398046511104 then (newellaw02_TokenAttrs.l1 k x0 x7 x8 ((((((((x10 ++ x7) ++ ((⟨#[110]⟩ : ByteArray) ++ t200)) ++ x7) ++ (⟨#[61]⟩ : ByteArray)) ++ x7) ++ (⟨#[34]⟩ : ByteArray)) ++ (x8 ++ t201)) ++ (⟨#[34]⟩ : ByteArray)) (x11 ++ [(⟨(⟨#[110]⟩ : ByteArray) ++ t200, x8 ++ t201⟩ : S39)]) (wrap64 (x12 + 1))) else (none)) else (none)) else (none)) else (none)) else (none)) else (none)) else (none)) else (none)) else (none)) else (none))) else (none))) else (if x10.size + x7.size ≤ 9223372036854775807 then (if (x10 ++ x7).size + 2 ≤ 9223372036854775807 then ((token_Split.f ((x10 ++ x7) ++ (⟨#[47, 62]⟩ : ByteArray))).bind fun bt206 => (if (x10 ++ x7).size + 13 ≤ 9223372036854775807 then ((token_Split.f ((x10 ++ x7) ++ (⟨#[110, 48, 61, 39, 39, 32, 110, 48, 61, 39, 39, 47, 62]⟩ : ByteArray))).bind fun bt210 => ((newellaw02_awake.f).bind fun t214 => (if t214 = true then (if bt206.2 = 0 then (if (bt206.1.length : Int) = 1 then (if 0 < (bt206.1.length : Int) then (if (rd_T32 bt206.1 0).f4 = true then ((api_Attr_21.f k ((rd_T32 bt206.1 0).f3) x11).bind fun t217 => (if t217 = true then (some (bt210.2 == 5)) else (some false))) else (some false)) else (none)) else (some false)) else (some false)) else (some false)))) else (none))) else (none)) else (none))
end
def newellaw02_TokenAttrs.f (k : Nat) (a0 : Int) (a1 : Int) (a2 : ByteArray) : Option (Bool) := (some (([(⟨#[32]⟩ : ByteArray), (⟨#[10]⟩ : ByteArray), (⟨#[9, 32, 13]⟩ : ByteArray)] : List ByteArray) : List ByteArray)).bind fun y196 => (if 0 ≤ (wrap64 (Int.tmod (IntKind.u64.wrap (a1)) 3)) then (if (wrap64 (Int.tmod (IntKind.u64.wrap (a1)) 3)) < (y196.length : Int) then (newellaw02_TokenAttrs.l0 k (wrap64 (Int.tmod (IntKind.u64.wrap (a0)) 12)) a2 (rdOf ByteArray.empty y196 (wrap64 (Int.tmod (IntKind.u64.wrap (a1)) 3))) (⟨#[]⟩ : ByteArray) 0) else (none)) else (none))
theorem newellaw02_TokenAttrs.mono_l : ∀ k, (∀ y0 y1 y2 y3 y4, LeO (newellaw02_TokenAttrs.l0 k y0 y1 y2 y3 y4) (newellaw02_TokenAttrs.l0 (k + 1) y0 y1 y2 y3 y4)) ∧ (∀ y0 y1 y2 y3 y4 y5, LeO (newellaw02_TokenAttrs.j1 k y0 y1 y2 y3 y4 y5) (newellaw02_TokenAttrs.j1 (k + 1) y0 y1 y2 y3 y4 y5)) ∧ (∀ y0 y1 y2 y3 y4 y5, LeO (newellaw02_TokenAttrs.l1 k y0 y1 y2 y3 y4 y5) (newellaw02_TokenAttrs.l1 (k + 1) y0 y1 y2 y3 y4 y5))
 | 0 => ⟨fun _ _ _ _ _ r h => by simp [newellaw02_TokenAttrs.l0] at h, fun _ _ _ _ _ _ r h => by simp [newellaw02_TokenAttrs.j1] at h, fun _ _ _ _ _ _ r h => by simp [newellaw02_TokenAttrs.l1] at h⟩
 | k + 1 => by
  obtain ⟨ih0, ih1, ih2⟩ := newellaw02_TokenAttrs.mono_l k
  refine ⟨?_, ?_, ?_⟩
  ·intro y0 y1 y2 y3 y4
   unfold newellaw02_TokenAttrs.l0
   repeat' first
   | (with_reducible exact ih0 _ _ _ _ _)
   | (with_reducible exact ih1 _ _ _ _ _ _)
   | (with_reducible exact ih2 _ _ _ _ _ _)
   | (with_reducible exact api_Attr_21.mono _ _ _)
   | (with_reducible exact newelhelp_Digits.mono _ _)
   | (with_reducible exact LeO.refl _)
   | (with_reducible exact LeO.none _)
   | (with_reducible refine LeO.ite ?_ ?_)
   | (with_reducible refine LeO.bind ?_ (fun _ => ?_))
   | exact ih0 _ _ _ _ _
   | exact ih1 _ _ _ _ _ _
   | exact ih2 _ _ _ _ _ _
   | exact api_Attr_21.mono _ _ _
   | exact newelhelp_Digits.mono _ _
   | exact LeO.none _
   | refine LeO.ite ?_ ?_
   | refine LeO.bind ?_ (fun _ => ?_)
  ·intro y0 y1 y2 y3 y4 y5
   unfold newellaw02_TokenAttrs.j1
   repeat' first
   | (with_reducible exact ih0 _ _ _ _ _)
   | (with_reducible exact ih1 _ _ _ _ _ _)
   | (with_reducible exact ih2 _ _ _ _ _ _)
   | (with_reducible exact api_Attr_21.mono _ _ _)
   | (with_reducible exact newelhelp_Digits.mono _ _)
   | (with_reducible exact LeO.refl _)
   | (with_reducible exact LeO.none _)
   | (with_reducible refine LeO.ite ?_ ?_)
   | (with_reducible refine LeO.bind ?_ (fun _ => ?_))
   | exact ih0 _ _ _ _ _
   | exact ih1 _ _ _ _ _ _
   | exact ih2 _ _ _ _ _ _
   | exact api_Attr_21.mono _ _ _
   | exact newelhelp_Digits.mono _ _
   | exact LeO.none _
   | refine LeO.ite ?_ ?_
   | refine LeO.bind ?_ (fun _ => ?_)
  ·intro y0 y1 y2 y3 y4 y5
   unfold newellaw02_TokenAttrs.l1
   repeat' first
   | (with_reducible exact ih0 _ _ _ _ _)
   | (with_reducible exact ih1 _ _ _ _ _ _)
   | (with_reducible exact ih2 _ _ _ _ _ _)
   | (with_reducible exact api_Attr_21.mono _ _ _)
   | (with_reducible exact newelhelp_Digits.mono _ _)
   | (with_reducible exact LeO.refl _)
   | (with_reducible exact LeO.none _)
   | (with_reducible refine LeO.ite ?_ ?_)
   | (with_reducible refine LeO.bind ?_ (fun _ => ?_))
   | exact ih0 _ _ _ _ _
   | exact ih1 _ _ _ _ _ _
   | exact ih2 _ _ _ _ _ _
   | exact api_Attr_21.mono _ _ _
   | exact newelhelp_Digits.mono _ _
   | exact LeO.none _
   | refine LeO.ite ?_ ?_
   | refine LeO.bind ?_ (fun _ => ?_)
theorem newellaw02_TokenAttrs.mono : ∀ a0 a1 a2 k, LeO (newellaw02_TokenAttrs.f k a0 a1 a2) (newellaw02_TokenAttrs.f (k + 1) a0 a1 a2) := by
 intro a0 a1 a2 k
 obtain ⟨ih0, ih1, ih2⟩ := newellaw02_TokenAttrs.mono_l k
 unfold newellaw02_TokenAttrs.f
 repeat' first
  | (with_reducible exact ih0 _ _ _ _ _)
  | (with_reducible exact ih1 _ _ _ _ _ _)
  | (with_reducible exact ih2 _ _ _ _ _ _)
  | (with_reducible exact api_Attr_21.mono _ _ _)
  | (with_reducible exact newelhelp_Digits.mono _ _)
  | (with_reducible exact LeO.refl _)
  | (with_reducible exact LeO.none _)
  | (with_reducible refine LeO.ite ?_ ?_)
  | (with_reducible refine LeO.bind ?_ (fun _ => ?_))
  | exact ih0 _ _ _ _ _
  | exact ih1 _ _ _ _ _ _
  | exact ih2 _ _ _ _ _ _
  | exact api_Attr_21.mono _ _ _
  | exact newelhelp_Digits.mono _ _
  | exact LeO.none _
  | refine LeO.ite ?_ ?_
  | refine LeO.bind ?_ (fun _ => ?_)
set_option maxHeartbeats 8000000 in
set_option maxRecDepth 100000 in
theorem newellaw02_TokenAttrs.calls (k : Nat) (a0 : Int) (a1 : Int) (a2 : ByteArray) (r : Bool) (w : World) (hG : Glob w) (h : newellaw02_TokenAttrs.f k a0 a1 a2 = some r) (hr_ : r = true) :
 Calls Try.prog 10 #[.int .i64 a0, .int .i64 a1, .string a2] w fun e w' => e = .returned (.bool r) ∧ Below w.heap.size w w' := by
 have hu39 := Try.underlying39
 have HG := Aside0.mk hG
 clear hG
 have HB := Aside0.mk (Below.refl w.heap.size w)
 have H : ((some (([(⟨#[32]⟩ : ByteArray), (⟨#[10]⟩ : ByteArray), (⟨#[9, 32, 13]⟩ : ByteArray)] : List ByteArray) : List ByteArray)).bind fun y196 => (if 0 ≤ (wrap64 (Int.tmod (IntKind.u64.wrap (a1)) 3)) then (if (wrap64 (Int.tmod (IntKind.u64.wrap (a1)) 3)) < (y196.length : Int) then (newellaw02_TokenAttrs.l0 k (wrap64 (Int.tmod (IntKind.u64.wrap (a0)) 12)) a2 (rdOf ByteArray.empty y196 (wrap64 (Int.tmod (IntKind.u64.wrap (a1)) 3))) (⟨#[]⟩ : ByteArray) 0) else (none)) else (none))) = some r := h
 clear h
 obtain ⟨y196, hy196⟩ : ∃ y_ : List ByteArray, y_ = (([(⟨#[32]⟩ : ByteArray), (⟨#[10]⟩ : ByteArray), (⟨#[9, 32, 13]⟩ : ByteArray)] : List ByteArray)) := ⟨_, rfl⟩
 replace H : (if 0 ≤ (wrap64 (Int.tmod (IntKind.u64.wrap (a1)) 3)) then (if (wrap64 (Int.tmod (IntKind.u64.wrap (a1)) 3)) < (y196.length : Int) then (newellaw02_TokenAttrs.l0 k (wrap64 (Int.tmod (IntKind.u64.wrap (a0)) 12)) a2 (rdOf ByteArray.empty y196 (wrap64 (Int.tmod (IntKind.u64.wrap (a1)) 3))) (⟨#[]⟩ : ByteArray) 0) else (none)) else (none)) = some r := by first | (rw [hy196]; with_reducible exact H) | (have H2_ := (Option.bind_some _ _).symm.trans H; rw [hy196]; with_reducible exact H2_) | (have H2_ := (Option.bind_some _ _).symm.trans H; with_reducible exact H2_) | with_reducible exact H | (rw [hy196]; exact H) | exact H
 have Ny196 := Aside0.mk hy196
 clear hy196
 obtain ⟨ji4, hji4⟩ : ∃ j_ : Int, (wrap64 (Int.tmod (IntKind.u64.wrap (a1)) 3)) = j_ := ⟨_, rfl⟩
 replace H : (if 0 ≤ (ji4) then (if (ji4) < (y196.length : Int) then (newellaw02_TokenAttrs.l0 k (wrap64 (Int.tmod (IntKind.u64.wrap (a0)) 12)) a2 (rdOf ByteArray.empty y196 (ji4)) (⟨#[]⟩ : ByteArray) 0) else (none)) else (none)) = some r := by first | (rw [hji4] at H; exact H) | (simp only [hji4] at H ⊢; exact H)
 have hji4w : (IntKind.i64.wrap (Int.tmod (IntKind.u64.wrap (a1)) 3)) = ji4 := (i64_w _).trans hji4
 by_cases c5 : 0 ≤ (ji4)
 ·rw [if_pos c5] at H
  have c5b0 : decide (0 ≤ (ji4)) = true := decide_eq_true c5
  clear c5
  by_cases c6 : (ji4) < (y196.length : Int)
  ·rw [if_pos c6] at H
   have c6b0 : decide ((ji4) < (y196.length : Int)) = true := decide_eq_true c6
   clear c6
   have H' := Aside0.mk H
   clear H
   go_enter Try.func10, Try.ntmps10
   go_wp2_with (first | ((with_reducible refine gate_dst (N := 22) rfl ?_); (try (refine gate_guard (by rfl) ?_; dsimp only)); refine Kd.R_lit Kd.string _ 9 ?hg (N := 22) ?hd (xs := ([(⟨#[32]⟩ : ByteArray), (⟨#[10]⟩ : ByteArray), (⟨#[9, 32, 13]⟩ : ByteArray)] : List ByteArray)) (inner := [.string (⟨#[32]⟩ : ByteArray), .string (⟨#[10]⟩ : ByteArray), .string (⟨#[9, 32, 13]⟩ : ByteArray)]) (ok := fun _ => True) (okp := fun _ => True) ?hr ?hp (fun _ hk => hk) trivial (Below.refl _ _) (Nat.le_refl _) (by simp) ?_; (case hd => rfl); (case hg => rfl); (case hr => first | (go_simp; done) | (go_simp; rfl)); (case hp => exact (Reps.one (show Kd.M Kd.string _ _ _ (⟨#[32]⟩ : ByteArray) [.string (⟨#[32]⟩ : ByteArray)] from rfl) (Reps.one (show Kd.M Kd.string _ _ _ (⟨#[10]⟩ : ByteArray) [.string (⟨#[10]⟩ : ByteArray)] from rfl) (Reps.one (show Kd.M Kd.string _ _ _ (⟨#[9, 32, 13]⟩ : ByteArray) [.string (⟨#[9, 32, 13]⟩ : ByteArray)] from rfl) (Reps.none _ _))))); intro v197 w7 ho8 hb hg_ hnew_; clear hg_ hnew_; (first | rw [← Ny196.out] at ho8 | (simp only [Int.reduceToNat] at ho8; rw [← Ny196.out] at ho8)); have n0_ := Aside0.mk (Kd.R_lower ho8 (below_size (by repeat (first | (with_reducible first | exact HB.out | apply below_alloc | apply pw_below_drewN | apply below_drew1) | exact HB.out)))); have n1_ := Aside0.mk (below_step (by repeat (first | (with_reducible first | exact HB.out | apply below_alloc | apply pw_below_drewN | apply below_drew1) | exact HB.out)) hb); clear HB; have HO198 := n0_; have HB := n1_; clear n0_ n1_; clear hb ho8; obtain ⟨Ao9, co9, eo9⟩ := Kd.R_slice HO198.out; subst eo9; have p199 : 0 ≤ ((ji4) : Int) := of_decide_eq_true (by first | (with_reducible assumption) | assumption); have q199 : (ji4) < (y196.length : Int) := of_decide_eq_true (by first | (with_reducible assumption) | assumption); obtain ⟨ad199, e199, hx199_0⟩ := Kd.at_string (Kd.R_reads' HO198.out).2.2 (ji4) p199 q199; cases e199; replace p199 := eq_true p199; replace q199 := eq_true q199))
   (try simp only [Act.put, List.setIfInBounds_toArray, List.set_cons_zero, List.set_cons_succ])
   go_loopg [8, 9] k (fun kq v8 v9 w' => ∃ (x8_1 : ByteArray) (x9_1 : Int), v8 = .string x8_1 ∧ v9 = .int .i64 x9_1 ∧ Aside0 (newellaw02_TokenAttrs.l0 kq (wrap64 (Int.tmod (IntKind.u64.wrap (a0)) 12)) a2 (rdOf ByteArray.empty y196 (ji4)) x8_1 x9_1 = some r) ∧ Aside0 (kq ≤ k) ∧ Aside0 (Below w.heap.size w w'))
   case atStart => exact ⟨((⟨#[]⟩ : ByteArray)), (0), (by first | rfl | (simp; done) | (simp [*]; done) | (simp; exact isEmpty_bne _)), (by first | rfl | (simp; done) | (simp [*]; done) | (simp; exact isEmpty_bne _)), H', ⟨Nat.le_refl _⟩, ⟨by repeat (first | (with_reducible first | exact HB.out | apply below_alloc | apply pw_below_drewN | apply below_drew1) | exact HB.out)⟩⟩
   case round =>
    clear H'
    try clear c1
    try clear p1
    try clear q1
    try clear hx1
    try clear p2
    try clear c5
    try clear c5b0
    try clear c6
    try clear c6b0
    try clear p6
    try clear hx199_0
    try clear p199
    try clear q199
    obtain ⟨x8_1, x9_1, rfl, rfl, HA, HK1, HB⟩ := hrel
    cases gk with
    | zero => exact absurd HA.out (by simp [newellaw02_TokenAttrs.l0])
    | succ k1 =>
     have H := HA.out
     clear HA
     simp only [newellaw02_TokenAttrs.l0] at H
     have HC10 := Aside0.mk H
     clear H
     go_upto_region 5 with (fail)
     go_cut [36] (fun v36 wc => ∃ (kq : Nat) (x36_9 : Bool), v36 = .bool x36_9 ∧ Aside0 (newellaw02_TokenAttrs.j1 kq (wrap64 (Int.tmod (IntKind.u64.wrap (a0)) 12)) a2 (rdOf ByteArray.empty y196 (ji4)) x8_1 x9_1 x36_9 = some r) ∧ Aside0 (kq ≤ k1) ∧ Aside0 (Below w.heap.size w wc))
     case first =>
      have H := HC10.out
      clear HC10
      by_cases c11 : x9_1 < (a2.size : Int)
      ·rw [if_pos c11] at H
       have c11b0 : decide (x9_1 < (a2.size : Int)) = true := decide_eq_true c11
       clear c11
       (first | rw [c11b0] | (simp only [i64_w, i32_w]; rw [c11b0]) | skip)
       have H' := Aside0.mk H
       clear H
       go_wp2
       go_meet
       case rel => exact ⟨_, (decide (x9_1 < 40)), (by first | rfl | (simp; done) | (simp [*]; done) | (simp; exact isEmpty_bne _)), H', ⟨by have := HK1.out; first | omega | exact Nat.le_refl _⟩, ⟨by repeat (first | (with_reducible first | exact HB.out | apply below_alloc | apply pw_below_drewN | apply below_drew1) | exact HB.out)⟩⟩
      ·rw [if_neg c11] at H
       have c11b0 : decide (x9_1 < (a2.size : Int)) = false := decide_eq_false c11
       clear c11
       (first | rw [c11b0] | (simp only [i64_w, i32_w]; rw [c11b0]) | skip)
       have H' := Aside0.mk H
       clear H
       go_wp2
       go_meet
       case rel => exact ⟨_, (false), (by first | rfl | (simp; done) | (simp [*]; done) | (simp; exact isEmpty_bne _)), H', ⟨by have := HK1.out; first | omega | exact Nat.le_refl _⟩, ⟨by repeat (first | (with_reducible first | exact HB.out | apply below_alloc | apply pw_below_drewN | apply below_drew1) | exact HB.out)⟩⟩
     case rest =>
      clear HC10
      try clear c1
      try clear p1
      try clear q1
      try clear hx1
      try clear p2
      try clear c5
      try clear c5b0
      try clear c6
      try clear c6b0
      try clear p6
      try clear c10
      try clear c11
      try clear c11b0
      try clear hx199_0
      try clear p1
      try clear p199
      try clear p2
      try clear p6
      try clear q1
      try clear q199
      obtain ⟨kq, x36_9, rfl, HA, HJ9, HB⟩ := hcut
      cases kq with
      | zero => exact absurd HA.out (by simp [newellaw02_TokenAttrs.j1])
      | succ kj9 =>
       have H := HA.out
       clear HA
       simp only [newellaw02_TokenAttrs.j1] at H
       by_cases c12 : x36_9 = true
       ·subst c12
        have H1 : (if 0 ≤ x9_1 then (if x9_1 < (a2.size : Int) then (if (bt a2 x9_1) ≥ 32 then (if (bt a2 x9_1) = 60 then (newellaw02_TokenAttrs.l0 kj9 (wrap64 (Int.tmod (IntKind.u64.wrap (a0)) 12)) a2 (rdOf ByteArray.empty y196 (ji4)) x8_1 (wrap64 (x9_1 + 1))) else (if (bt a2 x9_1) = 38 then (newellaw02_TokenAttrs.l0 kj9 (wrap64 (Int.tmod (IntKind.u64.wrap (a0)) 12)) a2 (rdOf ByteArray.empty y196 (ji4)) x8_1 (wrap64 (x9_1 + 1))) else (if (bt a2 x9_1) = 34 then (newellaw02_TokenAttrs.l0 kj9 (wrap64 (Int.tmod (IntKind.u64.wrap (a0)) 12)) a2 (rdOf ByteArray.empty y196 (ji4)) x8_1 (wrap64 (x9_1 + 1))) else (if x9_1 ≤ (wrap64 (x9_1 + 1)) then (if (wrap64 (x9_1 + 1)) ≤ (a2.size : Int) then (if x8_1.size + (a2.extract (x9_1 : Int).toNat ((wrap64 (x9_1 + 1)) : Int).toNat).size ≤ 9223372036854775807 then (newellaw02_TokenAttrs.l0 kj9 (wrap64 (Int.tmod (IntKind.u64.wrap (a0)) 12)) a2 (rdOf ByteArray.empty y196 (ji4)) (x8_1 ++ (a2.extract (x9_1 : Int).toNat ((wrap64 (x9_1 + 1)) : Int).toNat)) (wrap64 (x9_1 + 1))) else (none)) else (none)) else (none))))) else (newellaw02_TokenAttrs.l0 kj9 (wrap64 (Int.tmod (IntKind.u64.wrap (a0)) 12)) a2 (rdOf ByteArray.empty y196 (ji4)) x8_1 (wrap64 (x9_1 + 1)))) else (none)) else (none)) = some r := by rw [if_pos rfl] at H; exact H
        clear H
        have H := H1
        clear H1
        by_cases c13 : 0 ≤ x9_1
        ·rw [if_pos c13] at H
         have c13b0 : decide (0 ≤ x9_1) = true := decide_eq_true c13
         clear c13
         by_cases c14 : x9_1 < (a2.size : Int)
         ·rw [if_pos c14] at H
          have c14b0 : decide (x9_1 < (a2.size : Int)) = true := decide_eq_true c14
          clear c14
          by_cases c16 : (bt a2 x9_1) ≥ 32
          ·rw [if_pos c16] at H
           have c16b0 : decide (32 ≤ (bt a2 x9_1)) = true := decide_eq_true c16
           clear c16
           by_cases c18 : (bt a2 x9_1) = 60
           ·rw [if_pos c18] at H
            have c18b0 : ((bt a2 x9_1) == 60) = true := beq_iff_eq.mpr c18
            have c18b1 : ((bt a2 x9_1) != 60) = false := bne_eq_false_iff_eq.mpr c18
            clear c18
            have H' := Aside0.mk H
            clear H
            have p15 : 0 ≤ (x9_1 : Int) := of_decide_eq_true (by first | (with_reducible assumption) | assumption)
            have q15 : x9_1 < (a2.size : Int) := of_decide_eq_true (by first | (with_reducible assumption) | assumption)
            have hx15 := bt_at a2 x9_1
            replace p15 := eq_true p15
            replace q15 := eq_true q15
            have p17 : 0 ≤ (x9_1 : Int) := of_decide_eq_true (by first | (with_reducible assumption) | assumption)
            have q17 : x9_1 < (a2.size : Int) := of_decide_eq_true (by first | (with_reducible assumption) | assumption)
            have hx17 := bt_at a2 x9_1
            replace p17 := eq_true p17
            replace q17 := eq_true q17
            go_wp2
            go_roundg kj9
            case measure => have := HK1.out; have := HJ9.out; omega
            case rel => exact ⟨(x8_1), (wrap64 (x9_1 + 1)), (by first | rfl | (simp; done) | (simp [*]; done) | (simp; exact isEmpty_bne _)), (by first | rfl | (simp; done) | (simp [*]; done) | (simp; exact isEmpty_bne _)), H', ⟨by have := HK1.out; have := HJ9.out; omega⟩, ⟨by repeat (first | (with_reducible first | exact HB.out | apply below_alloc | apply pw_below_drewN | apply below_drew1) | exact HB.out)⟩⟩
           ·rw [if_neg c18] at H
            have c18b0 : ((bt a2 x9_1) == 60) = false := beq_eq_false_iff_ne.mpr c18
            have c18b1 : ((bt a2 x9_1) != 60) = true := bne_iff_ne.mpr c18
            by_cases c20 : (bt a2 x9_1) = 38
            ·rw [if_pos c20] at H
             have c20b0 : ((bt a2 x9_1) == 38) = true := beq_iff_eq.mpr c20
             have c20b1 : ((bt a2 x9_1) != 38) = false := bne_eq_false_iff_eq.mpr c20
             clear c20
             have H' := Aside0.mk H
             clear H
             have p15 : 0 ≤ (x9_1 : Int) := of_decide_eq_true (by first | (with_reducible assumption) | assumption)
             have q15 : x9_1 < (a2.size : Int) := of_decide_eq_true (by first | (with_reducible assumption) | assumption)
             have hx15 := bt_at a2 x9_1
             replace p15 := eq_true p15
             replace q15 := eq_true q15
             have p17 : 0 ≤ (x9_1 : Int) := of_decide_eq_true (by first | (with_reducible assumption) | assumption)
             have q17 : x9_1 < (a2.size : Int) := of_decide_eq_true (by first | (with_reducible assumption) | assumption)
             have hx17 := bt_at a2 x9_1
             replace p17 := eq_true p17
             replace q17 := eq_true q17
             have p19 : 0 ≤ (x9_1 : Int) := of_decide_eq_true (by first | (with_reducible assumption) | assumption)
             have q19 : x9_1 < (a2.size : Int) := of_decide_eq_true (by first | (with_reducible assumption) | assumption)
             have hx19 := bt_at a2 x9_1
             replace p19 := eq_true p19
             replace q19 := eq_true q19
             go_wp2
             go_roundg kj9
             case measure => have := HK1.out; have := HJ9.out; omega
             case rel => exact ⟨(x8_1), (wrap64 (x9_1 + 1)), (by first | rfl | (simp; done) | (simp [*]; done) | (simp; exact isEmpty_bne _)), (by first | rfl | (simp; done) | (simp [*]; done) | (simp; exact isEmpty_bne _)), H', ⟨by have := HK1.out; have := HJ9.out; omega⟩, ⟨by repeat (first | (with_reducible first | exact HB.out | apply below_alloc | apply pw_below_drewN | apply below_drew1) | exact HB.out)⟩⟩
            ·rw [if_neg c20] at H
             have c20b0 : ((bt a2 x9_1) == 38) = false := beq_eq_false_iff_ne.mpr c20
             have c20b1 : ((bt a2 x9_1) != 38) = true := bne_iff_ne.mpr c20
             by_cases c22 : (bt a2 x9_1) = 34
             ·rw [if_pos c22] at H
              have c22b0 : ((bt a2 x9_1) == 34) = true := beq_iff_eq.mpr c22
              have c22b1 : ((bt a2 x9_1) != 34) = false := bne_eq_false_iff_eq.mpr c22
              clear c22
              have H' := Aside0.mk H
              clear H
              have p15 : 0 ≤ (x9_1 : Int) := of_decide_eq_true (by first | (with_reducible assumption) | assumption)
              have q15 : x9_1 < (a2.size : Int) := of_decide_eq_true (by first | (with_reducible assumption) | assumption)
              have hx15 := bt_at a2 x9_1
              replace p15 := eq_true p15
              replace q15 := eq_true q15
              have p17 : 0 ≤ (x9_1 : Int) := of_decide_eq_true (by first | (with_reducible assumption) | assumption)
              have q17 : x9_1 < (a2.size : Int) := of_decide_eq_true (by first | (with_reducible assumption) | assumption)
              have hx17 := bt_at a2 x9_1
              replace p17 := eq_true p17
              replace q17 := eq_true q17
              have p19 : 0 ≤ (x9_1 : Int) := of_decide_eq_true (by first | (with_reducible assumption) | assumption)
              have q19 : x9_1 < (a2.size : Int) := of_decide_eq_true (by first | (with_reducible assumption) | assumption)
              have hx19 := bt_at a2 x9_1
              replace p19 := eq_true p19
              replace q19 := eq_true q19
              have p21 : 0 ≤ (x9_1 : Int) := of_decide_eq_true (by first | (with_reducible assumption) | assumption)
              have q21 : x9_1 < (a2.size : Int) := of_decide_eq_true (by first | (with_reducible assumption) | assumption)
              have hx21 := bt_at a2 x9_1
              replace p21 := eq_true p21
              replace q21 := eq_true q21
              go_wp2
              go_roundg kj9
              case measure => have := HK1.out; have := HJ9.out; omega
              case rel => exact ⟨(x8_1), (wrap64 (x9_1 + 1)), (by first | rfl | (simp; done) | (simp [*]; done) | (simp; exact isEmpty_bne _)), (by first | rfl | (simp; done) | (simp [*]; done) | (simp; exact isEmpty_bne _)), H', ⟨by have := HK1.out; have := HJ9.out; omega⟩, ⟨by repeat (first | (with_reducible first | exact HB.out | apply below_alloc | apply pw_below_drewN | apply below_drew1) | exact HB.out)⟩⟩
             ·rw [if_neg c22] at H
              have c22b0 : ((bt a2 x9_1) == 34) = false := beq_eq_false_iff_ne.mpr c22
              have c22b1 : ((bt a2 x9_1) != 34) = true := bne_iff_ne.mpr c22
              have c23b0 := eq_true (of_decide_eq_true (by first | (with_reducible assumption) | assumption) : 0 ≤ x9_1)
              by_cases c24 : x9_1 ≤ (wrap64 (x9_1 + 1))
              ·rw [if_pos c24] at H
               have c24b0 := eq_true c24
               have c24b1 : decide (x9_1 ≤ (wrap64 (x9_1 + 1))) = true := decide_eq_true c24
               by_cases c25 : (wrap64 (x9_1 + 1)) ≤ (a2.size : Int)
               ·rw [if_pos c25] at H
                have c25b0 := eq_true c25
                have c25b1 : decide ((wrap64 (x9_1 + 1)) ≤ (a2.size : Int)) = true := decide_eq_true c25
                by_cases c26 : x8_1.size + (a2.extract (x9_1 : Int).toNat ((wrap64 (x9_1 + 1)) : Int).toNat).size ≤ 9223372036854775807
                ·rw [if_pos c26] at H
                 have c26b0 := eq_true c26
                 have c26b1 : decide (x8_1.size + (a2.extract (x9_1 : Int).toNat ((wrap64 (x9_1 + 1)) : Int).toNat).size ≤ 9223372036854775807) = true := decide_eq_true c26
                 try have c26b2 : (9223372036854775807 < x8_1.size + (a2.extract (x9_1 : Int).toNat ((wrap64 (x9_1 + 1)) : Int).toNat).size) = False := eq_false (Nat.not_lt.2 c26)
                 try have c26q : (9223372036854775807 < x8_1.size + (((wrap64 (x9_1 + 1)) : Int).toNat - (x9_1 : Int).toNat)) = False := eq_false (by have z_ := c26; have y_ : ((wrap64 (x9_1 + 1)) : Int) ≤ ((a2).size : Int) := of_decide_eq_true (by assumption); simp only [ByteArray.size_extract] at z_; omega)
                 have H' := Aside0.mk H
                 clear H
                 have p15 : 0 ≤ (x9_1 : Int) := of_decide_eq_true (by first | (with_reducible assumption) | assumption)
                 have q15 : x9_1 < (a2.size : Int) := of_decide_eq_true (by first | (with_reducible assumption) | assumption)
                 have hx15 := bt_at a2 x9_1
                 replace p15 := eq_true p15
                 replace q15 := eq_true q15
                 have p17 : 0 ≤ (x9_1 : Int) := of_decide_eq_true (by first | (with_reducible assumption) | assumption)
                 have q17 : x9_1 < (a2.size : Int) := of_decide_eq_true (by first | (with_reducible assumption) | assumption)
                 have hx17 := bt_at a2 x9_1
                 replace p17 := eq_true p17
                 replace q17 := eq_true q17
                 have p19 : 0 ≤ (x9_1 : Int) := of_decide_eq_true (by first | (with_reducible assumption) | assumption)
                 have q19 : x9_1 < (a2.size : Int) := of_decide_eq_true (by first | (with_reducible assumption) | assumption)
                 have hx19 := bt_at a2 x9_1
                 replace p19 := eq_true p19
                 replace q19 := eq_true q19
                 have p21 : 0 ≤ (x9_1 : Int) := of_decide_eq_true (by first | (with_reducible assumption) | assumption)
                 have q21 : x9_1 < (a2.size : Int) := of_decide_eq_true (by first | (with_reducible assumption) | assumption)
                 have hx21 := bt_at a2 x9_1
                 replace p21 := eq_true p21
                 replace q21 := eq_true q21
                 go_wp2
                 go_roundg kj9
                 case measure => have := HK1.out; have := HJ9.out; omega
                 case rel => exact ⟨(x8_1 ++ (a2.extract (x9_1 : Int).toNat ((wrap64 (x9_1 + 1)) : Int).toNat)), (wrap64 (x9_1 + 1)), (by first | rfl | (simp; done) | (simp [*]; done) | (simp; exact isEmpty_bne _)), (by first | rfl | (simp; done) | (simp [*]; done) | (simp; exact isEmpty_bne _)), H', ⟨by have := HK1.out; have := HJ9.out; omega⟩, ⟨by repeat (first | (with_reducible first | exact HB.out | apply below_alloc | apply pw_below_drewN | apply below_drew1) | exact HB.out)⟩⟩
                ·rw [if_neg c26] at H
                 exact absurd H (by simp)
               ·rw [if_neg c25] at H
                exact absurd H (by simp)
              ·rw [if_neg c24] at H
               exact absurd H (by simp)
          ·rw [if_neg c16] at H
           have c16b0 : decide (32 ≤ (bt a2 x9_1)) = false := decide_eq_false c16
           clear c16
           have H' := Aside0.mk H
           clear H
           have p15 : 0 ≤ (x9_1 : Int) := of_decide_eq_true (by first | (with_reducible assumption) | assumption)
           have q15 : x9_1 < (a2.size : Int) := of_decide_eq_true (by first | (with_reducible assumption) | assumption)
           have hx15 := bt_at a2 x9_1
           replace p15 := eq_true p15
           replace q15 := eq_true q15
           go_wp2
           go_roundg kj9
           case measure => have := HK1.out; have := HJ9.out; omega
           case rel => exact ⟨(x8_1), (wrap64 (x9_1 + 1)), (by first | rfl | (simp; done) | (simp [*]; done) | (simp; exact isEmpty_bne _)), (by first | rfl | (simp; done) | (simp [*]; done) | (simp; exact isEmpty_bne _)), H', ⟨by have := HK1.out; have := HJ9.out; omega⟩, ⟨by repeat (first | (with_reducible first | exact HB.out | apply below_alloc | apply pw_below_drewN | apply below_drew1) | exact HB.out)⟩⟩
         ·rw [if_neg c14] at H
          exact absurd H (by simp)
        ·rw [if_neg c13] at H
         exact absurd H (by simp)
       ·replace c12 := Bool.eq_false_iff.mpr c12
        subst c12
        have H1 : (newellaw02_TokenAttrs.l1 kj9 (wrap64 (Int.tmod (IntKind.u64.wrap (a0)) 12)) (rdOf ByteArray.empty y196 (ji4)) x8_1 (⟨#[60, 101]⟩ : ByteArray) ([] : List (S39)) 0) = some r := by rw [if_neg (show ¬ (false = true) by decide)] at H; exact H
        clear H
        have H := H1
        clear H1
        have H' := Aside0.mk H
        clear H
        go_wp2
        go_loopg [10, 11, 12] kj9 (fun kq v10 v11 v12 w' => ∃ (x10_3 : ByteArray) (x11_3 : List (S39)) (x12_3 : Int), v10 = .string x10_3 ∧ v12 = .int .i64 x12_3 ∧ Aside0 (newellaw02_TokenAttrs.l1 kq (wrap64 (Int.tmod (IntKind.u64.wrap (a0)) 12)) (rdOf ByteArray.empty y196 (ji4)) x8_1 x10_3 x11_3 x12_3 = some r) ∧ Aside0 (kq ≤ kj9) ∧ Aside0 (Kd.R k39 39 w' w.heap.size (fun _ => True) v11 x11_3) ∧ Aside0 (Below w.heap.size w w'))
        case atStart => exact ⟨((⟨#[60, 101]⟩ : ByteArray)), (([] : List (S39))), (0), (by first | rfl | (simp; done) | (simp [*]; done) | (simp; exact isEmpty_bne _)), (by first | rfl | (simp; done) | (simp [*]; done) | (simp; exact isEmpty_bne _)), H', ⟨Nat.le_refl _⟩, ⟨by first | exact Kd.R_nil _ _ _ _ _ | exact Kd.N_nil _ _ _ _ _ | exact Kd.V_nil _ _ _ _ _ | exact Kd.Q_nil _ _ _ _ _ | exact Kd.S_nil _ _ _ _ _⟩, ⟨by repeat (first | (with_reducible first | exact HB.out | apply below_alloc | apply pw_below_drewN | apply below_drew1) | exact HB.out)⟩⟩
        case round =>
         clear H'
         try clear c1
         try clear p1
         try clear q1
         try clear hx1
         try clear c2
         try clear p2
         try clear q2
         try clear hx2
         try clear c5
         try clear c5b0
         try clear c6
         try clear c6b0
         try clear p6
         try clear c10
         try clear c11
         try clear c11b0
         try clear c12
         try clear c13
         try clear c13b0
         try clear c14
         try clear c14b0
         try clear p15
         try clear q15
         try clear hx15
         try clear c16
         try clear c16b0
         try clear p17
         try clear q17
         try clear hx17
         try clear c18
         try clear c18b0
         try clear c18b1
         try clear p19
         try clear q19
         try clear hx19
         try clear c20
         try clear c20b0
         try clear c20b1
         try clear p21
         try clear q21
         try clear hx21
         try clear c22
         try clear c22b0
         try clear c22b1
         try clear c23
         try clear c23b0
         try clear c24
         try clear c24b0
         try clear c24b1
         try clear c25
         try clear c25b0
         try clear c25b1
         try clear c26
         try clear c26b0
         try clear c26b1
         try clear c26b2
         try clear hx199_0
         try clear p1
         try clear p15
         try clear p17
         try clear p19
         try clear p199
         try clear p2
         try clear p21
         try clear p6
         try clear q1
         try clear q15
         try clear q17
         try clear q19
         try clear q199
         try clear q21
         obtain ⟨x10_3, x11_3, x12_3, rfl, rfl, HA, HK3, HO_11, HB⟩ := hrel
         cases gk with
         | zero => exact absurd HA.out (by simp [newellaw02_TokenAttrs.l1])
         | succ k3 =>
          have H := HA.out
          clear HA
          simp only [newellaw02_TokenAttrs.l1] at H
          by_cases c27 : x12_3 < (wrap64 (Int.tmod (IntKind.u64.wrap (a0)) 12))
          ·rw [if_pos c27] at H
           have c27b0 : decide (x12_3 < (wrap64 (Int.tmod (IntKind.u64.wrap (a0)) 12))) = true := decide_eq_true c27
           clear c27
           replace H := Option.bind_eq_some_iff.mp H
           obtain ⟨t200, A280, H⟩ := H
           replace H : (if 1 + t200.size ≤ 9223372036854775807 then ((newelhelp_Digits.f k3 x12_3).bind fun t201 => (if x8_1.size + t201.size ≤ 9223372036854775807 then (if x10_3.size + (rdOf ByteArray.empty y196 (ji4)).size ≤ 9223372036854775807 then (if (x10_3 ++ (rdOf ByteArray.empty y196 (ji4))).size + ((⟨#[110]⟩ : ByteArray) ++ t200).size ≤ 9223372036854775807 then (if ((x10_3 ++ (rdOf ByteArray.empty y196 (ji4))) ++ ((⟨#[110]⟩ : ByteArray) ++ t200)).size + (rdOf ByteArray.empty y196 (ji4)).size ≤ 9223372036854775807 then (if (((x10_3 ++ (rdOf ByteArray.empty y196 (ji4))) ++ ((⟨#[110]⟩ : ByteArray) ++ t200)) ++ (rdOf ByteArray.empty y196 (ji4))).size + 1 ≤ 9223372036854775807 then (if ((((x10_3 ++ (rdOf ByteArray.empty y196 (ji4))) ++ ((⟨#[110]⟩ : ByteArray) ++ t200)) ++ (rdOf ByteArray.empty y196 (ji4))) ++ (⟨#[61]⟩ : ByteArray)).size + (rdOf ByteArray.empty y196 (ji4)).size ≤ 9223372036854775807 then (if (((((x10_3 ++ (rdOf ByteArray.empty y196 (ji4))) ++ ((⟨#[110]⟩ : ByteArray) ++ t200)) ++ (rdOf ByteArray.empty y196 (ji4))) ++ (⟨#[61]⟩ : ByteArray)) ++ (rdOf ByteArray.empty y196 (ji4))).size + 1 ≤ 9223372036854775807 then (if ((((((x10_3 ++ (rdOf ByteArray.empty y196 (ji4))) ++ ((⟨#[110]⟩ : ByteArray) ++ t200)) ++ (rdOf ByteArray.empty y196 (ji4))) ++ (⟨#[61]⟩ : ByteArray)) ++ (rdOf ByteArray.empty y196 (ji4))) ++ (⟨#[34]⟩ : ByteArray)).size + (x8_1 ++ t201).size ≤ 9223372036854775807 then (if (((((((x10_3 ++ (rdOf ByteArray.empty y196 (ji4))) ++ ((⟨#[110]⟩ : ByteArray) ++ t200)) ++ (rdOf ByteArray.empty y196 (ji4))) ++ (⟨#[61]⟩ : ByteArray)) ++ (rdOf ByteArray.empty y196 (ji4))) ++ (⟨#[34]⟩ : ByteArray)) ++ (x8_1 ++ t201)).size + 1 ≤ 9223372036854775807 then (if x11_3.length < 4398046511104 then (newellaw02_TokenAttrs.l1 k3 (wrap64 (Int.tmod (IntKind.u64.wrap (a0)) 12)) (rdOf ByteArray.empty y196 (ji4)) x8_1 ((((((((x10_3 ++ (rdOf ByteArray.empty y196 (ji4))) ++ ((⟨#[110]⟩ : ByteArray) ++ t200)) ++ (rdOf ByteArray.empty y196 (ji4))) ++ (⟨#[61]⟩ : ByteArray)) ++ (rdOf ByteArray.empty y196 (ji4))) ++ (⟨#[34]⟩ : ByteArray)) ++ (x8_1 ++ t201)) ++ (⟨#[34]⟩ : ByteArray)) (x11_3 ++ [(⟨(⟨#[110]⟩ : ByteArray) ++ t200, x8_1 ++ t201⟩ : S39)]) (wrap64 (x12_3 + 1))) else (none)) else (none)) else (none)) else (none)) else (none)) else (none)) else (none)) else (none)) else (none)) else (none))) else (none)) = some r := H
           have A28 := Aside0.mk A280
           clear A280
           by_cases c29 : 1 + t200.size ≤ 9223372036854775807
           ·rw [if_pos c29] at H
            have c29b0 := eq_true c29
            have c29b1 : decide (1 + t200.size ≤ 9223372036854775807) = true := decide_eq_true c29
            try have c29b2 : (9223372036854775807 < 1 + t200.size) = False := eq_false (Nat.not_lt.2 c29)
            replace H := Option.bind_eq_some_iff.mp H
            obtain ⟨t201, A300, H⟩ := H
            replace H : (if x8_1.size + t201.size ≤ 9223372036854775807 then (if x10_3.size + (rdOf ByteArray.empty y196 (ji4)).size ≤ 9223372036854775807 then (if (x10_3 ++ (rdOf ByteArray.empty y196 (ji4))).size + ((⟨#[110]⟩ : ByteArray) ++ t200).size ≤ 9223372036854775807 then (if ((x10_3 ++ (rdOf ByteArray.empty y196 (ji4))) ++ ((⟨#[110]⟩ : ByteArray) ++ t200)).size + (rdOf ByteArray.empty y196 (ji4)).size ≤ 9223372036854775807 then (if (((x10_3 ++ (rdOf ByteArray.empty y196 (ji4))) ++ ((⟨#[110]⟩ : ByteArray) ++ t200)) ++ (rdOf ByteArray.empty y196 (ji4))).size + 1 ≤ 9223372036854775807 then (if ((((x10_3 ++ (rdOf ByteArray.empty y196 (ji4))) ++ ((⟨#[110]⟩ : ByteArray) ++ t200)) ++ (rdOf ByteArray.empty y196 (ji4))) ++ (⟨#[61]⟩ : ByteArray)).size + (rdOf ByteArray.empty y196 (ji4)).size ≤ 9223372036854775807 then (if (((((x10_3 ++ (rdOf ByteArray.empty y196 (ji4))) ++ ((⟨#[110]⟩ : ByteArray) ++ t200)) ++ (rdOf ByteArray.empty y196 (ji4))) ++ (⟨#[61]⟩ : ByteArray)) ++ (rdOf ByteArray.empty y196 (ji4))).size + 1 ≤ 9223372036854775807 then (if ((((((x10_3 ++ (rdOf ByteArray.empty y196 (ji4))) ++ ((⟨#[110]⟩ : ByteArray) ++ t200)) ++ (rdOf ByteArray.empty y196 (ji4))) ++ (⟨#[61]⟩ : ByteArray)) ++ (rdOf ByteArray.empty y196 (ji4))) ++ (⟨#[34]⟩ : ByteArray)).size + (x8_1 ++ t201).size ≤ 9223372036854775807 then (if (((((((x10_3 ++ (rdOf ByteArray.empty y196 (ji4))) ++ ((⟨#[110]⟩ : ByteArray) ++ t200)) ++ (rdOf ByteArray.empty y196 (ji4))) ++ (⟨#[61]⟩ : ByteArray)) ++ (rdOf ByteArray.empty y196 (ji4))) ++ (⟨#[34]⟩ : ByteArray)) ++ (x8_1 ++ t201)).size + 1 ≤ 9223372036854775807 then (if x11_3.length < 4398046511104 then (newellaw02_TokenAttrs.l1 k3 (wrap64 (Int.tmod (IntKind.u64.wrap (a0)) 12)) (rdOf ByteArray.empty y196 (ji4)) x8_1 ((((((((x10_3 ++ (rdOf ByteArray.empty y196 (ji4))) ++ ((⟨#[110]⟩ : ByteArray) ++ t200)) ++ (rdOf ByteArray.empty y196 (ji4))) ++ (⟨#[61]⟩ : ByteArray)) ++ (rdOf ByteArray.empty y196 (ji4))) ++ (⟨#[34]⟩ : ByteArray)) ++ (x8_1 ++ t201)) ++ (⟨#[34]⟩ : ByteArray)) (x11_3 ++ [(⟨(⟨#[110]⟩ : ByteArray) ++ t200, x8_1 ++ t201⟩ : S39)]) (wrap64 (x12_3 + 1))) else (none)) else (none)) else (none)) else (none)) else (none)) else (none)) else (none)) else (none)) else (none)) else (none)) = some r := H
            have A30 := Aside0.mk A300
            clear A300
            by_cases c31 : x8_1.size + t201.size ≤ 9223372036854775807
            ·rw [if_pos c31] at H
             have c31b0 := eq_true c31
             have c31b1 : decide (x8_1.size + t201.size ≤ 9223372036854775807) = true := decide_eq_true c31
             try have c31b2 : (9223372036854775807 < x8_1.size + t201.size) = False := eq_false (Nat.not_lt.2 c31)
             by_cases c32 : x10_3.size + (rdOf ByteArray.empty y196 (ji4)).size ≤ 9223372036854775807
             ·rw [if_pos c32] at H
              have c32b0 := eq_true c32
              have c32b1 : decide (x10_3.size + (rdOf ByteArray.empty y196 (ji4)).size ≤ 9223372036854775807) = true := decide_eq_true c32
              try have c32b2 : (9223372036854775807 < x10_3.size + (rdOf ByteArray.empty y196 (ji4)).size) = False := eq_false (Nat.not_lt.2 c32)
              by_cases c33 : (x10_3 ++ (rdOf ByteArray.empty y196 (ji4))).size + ((⟨#[110]⟩ : ByteArray) ++ t200).size ≤ 9223372036854775807
              ·rw [if_pos c33] at H
               have c33b0 := eq_true c33
               have c33b1 : decide ((x10_3 ++ (rdOf ByteArray.empty y196 (ji4))).size + ((⟨#[110]⟩ : ByteArray) ++ t200).size ≤ 9223372036854775807) = true := decide_eq_true c33
               try have c33b2 : (9223372036854775807 < (x10_3 ++ (rdOf ByteArray.empty y196 (ji4))).size + ((⟨#[110]⟩ : ByteArray) ++ t200).size) = False := eq_false (Nat.not_lt.2 c33)
               have c33n : (x10_3.size + (rdOf ByteArray.empty y196 (ji4)).size) + (1 + t200.size) ≤ 9223372036854775807 := by have z_ := c33; simp only [ByteArray.size_append] at z_; exact z_
               have c33m : (9223372036854775807 < (x10_3.size + (rdOf ByteArray.empty y196 (ji4)).size) + (1 + t200.size)) = False := eq_false (Nat.not_lt.2 c33n)
               clear c33 c33b0 c33b1
               try clear c33b2
               by_cases c34 : ((x10_3 ++ (rdOf ByteArray.empty y196 (ji4))) ++ ((⟨#[110]⟩ : ByteArray) ++ t200)).size + (rdOf ByteArray.empty y196 (ji4)).size ≤ 9223372036854775807
               ·rw [if_pos c34] at H
                have c34b0 := eq_true c34
                have c34b1 : decide (((x10_3 ++ (rdOf ByteArray.empty y196 (ji4))) ++ ((⟨#[110]⟩ : ByteArray) ++ t200)).size + (rdOf ByteArray.empty y196 (ji4)).size ≤ 9223372036854775807) = true := decide_eq_true c34
                try have c34b2 : (9223372036854775807 < ((x10_3 ++ (rdOf ByteArray.empty y196 (ji4))) ++ ((⟨#[110]⟩ : ByteArray) ++ t200)).size + (rdOf ByteArray.empty y196 (ji4)).size) = False := eq_false (Nat.not_lt.2 c34)
                have c34n : ((x10_3.size + (rdOf ByteArray.empty y196 (ji4)).size) + (1 + t200.size)) + (rdOf ByteArray.empty y196 (ji4)).size ≤ 9223372036854775807 := by have z_ := c34; simp only [ByteArray.size_append] at z_; exact z_
                have c34m : (9223372036854775807 < ((x10_3.size + (rdOf ByteArray.empty y196 (ji4)).size) + (1 + t200.size)) + (rdOf ByteArray.empty y196 (ji4)).size) = False := eq_false (Nat.not_lt.2 c34n)
                clear c34 c34b0 c34b1
                try clear c34b2
                by_cases c35 : (((x10_3 ++ (rdOf ByteArray.empty y196 (ji4))) ++ ((⟨#[110]⟩ : ByteArray) ++ t200)) ++ (rdOf ByteArray.empty y196 (ji4))).size + 1 ≤ 9223372036854775807
                ·rw [if_pos c35] at H
                 have c35b0 := eq_true c35
                 have c35b1 : decide ((((x10_3 ++ (rdOf ByteArray.empty y196 (ji4))) ++ ((⟨#[110]⟩ : ByteArray) ++ t200)) ++ (rdOf ByteArray.empty y196 (ji4))).size + 1 ≤ 9223372036854775807) = true := decide_eq_true c35
                 try have c35b2 : (9223372036854775807 < (((x10_3 ++ (rdOf ByteArray.empty y196 (ji4))) ++ ((⟨#[110]⟩ : ByteArray) ++ t200)) ++ (rdOf ByteArray.empty y196 (ji4))).size + 1) = False := eq_false (Nat.not_lt.2 c35)
                 have c35n : (((x10_3.size + (rdOf ByteArray.empty y196 (ji4)).size) + (1 + t200.size)) + (rdOf ByteArray.empty y196 (ji4)).size) + 1 ≤ 9223372036854775807 := by have z_ := c35; simp only [ByteArray.size_append] at z_; exact z_
                 have c35m : (9223372036854775807 < (((x10_3.size + (rdOf ByteArray.empty y196 (ji4)).size) + (1 + t200.size)) + (rdOf ByteArray.empty y196 (ji4)).size) + 1) = False := eq_false (Nat.not_lt.2 c35n)
                 clear c35 c35b0 c35b1
                 try clear c35b2
                 by_cases c36 : ((((x10_3 ++ (rdOf ByteArray.empty y196 (ji4))) ++ ((⟨#[110]⟩ : ByteArray) ++ t200)) ++ (rdOf ByteArray.empty y196 (ji4))) ++ (⟨#[61]⟩ : ByteArray)).size + (rdOf ByteArray.empty y196 (ji4)).size ≤ 9223372036854775807
                 ·rw [if_pos c36] at H
                  have c36b0 := eq_true c36
                  have c36b1 : decide (((((x10_3 ++ (rdOf ByteArray.empty y196 (ji4))) ++ ((⟨#[110]⟩ : ByteArray) ++ t200)) ++ (rdOf ByteArray.empty y196 (ji4))) ++ (⟨#[61]⟩ : ByteArray)).size + (rdOf ByteArray.empty y196 (ji4)).size ≤ 9223372036854775807) = true := decide_eq_true c36
                  try have c36b2 : (9223372036854775807 < ((((x10_3 ++ (rdOf ByteArray.empty y196 (ji4))) ++ ((⟨#[110]⟩ : ByteArray) ++ t200)) ++ (rdOf ByteArray.empty y196 (ji4))) ++ (⟨#[61]⟩ : ByteArray)).size + (rdOf ByteArray.empty y196 (ji4)).size) = False := eq_false (Nat.not_lt.2 c36)
                  have c36n : ((((x10_3.size + (rdOf ByteArray.empty y196 (ji4)).size) + (1 + t200.size)) + (rdOf ByteArray.empty y196 (ji4)).size) + 1) + (rdOf ByteArray.empty y196 (ji4)).size ≤ 9223372036854775807 := by have z_ := c36; simp only [ByteArray.size_append] at z_; exact z_
                  have c36m : (9223372036854775807 < ((((x10_3.size + (rdOf ByteArray.empty y196 (ji4)).size) + (1 + t200.size)) + (rdOf ByteArray.empty y196 (ji4)).size) + 1) + (rdOf ByteArray.empty y196 (ji4)).size) = False := eq_false (Nat.not_lt.2 c36n)
                  clear c36 c36b0 c36b1
                  try clear c36b2
                  by_cases c37 : (((((x10_3 ++ (rdOf ByteArray.empty y196 (ji4))) ++ ((⟨#[110]⟩ : ByteArray) ++ t200)) ++ (rdOf ByteArray.empty y196 (ji4))) ++ (⟨#[61]⟩ : ByteArray)) ++ (rdOf ByteArray.empty y196 (ji4))).size + 1 ≤ 9223372036854775807
                  ·rw [if_pos c37] at H
                   have c37b0 := eq_true c37
                   have c37b1 : decide ((((((x10_3 ++ (rdOf ByteArray.empty y196 (ji4))) ++ ((⟨#[110]⟩ : ByteArray) ++ t200)) ++ (rdOf ByteArray.empty y196 (ji4))) ++ (⟨#[61]⟩ : ByteArray)) ++ (rdOf ByteArray.empty y196 (ji4))).size + 1 ≤ 9223372036854775807) = true := decide_eq_true c37
                   try have c37b2 : (9223372036854775807 < (((((x10_3 ++ (rdOf ByteArray.empty y196 (ji4))) ++ ((⟨#[110]⟩ : ByteArray) ++ t200)) ++ (rdOf ByteArray.empty y196 (ji4))) ++ (⟨#[61]⟩ : ByteArray)) ++ (rdOf ByteArray.empty y196 (ji4))).size + 1) = False := eq_false (Nat.not_lt.2 c37)
                   have c37n : (((((x10_3.size + (rdOf ByteArray.empty y196 (ji4)).size) + (1 + t200.size)) + (rdOf ByteArray.empty y196 (ji4)).size) + 1) + (rdOf ByteArray.empty y196 (ji4)).size) + 1 ≤ 9223372036854775807 := by have z_ := c37; simp only [ByteArray.size_append] at z_; exact z_
                   have c37m : (9223372036854775807 < (((((x10_3.size + (rdOf ByteArray.empty y196 (ji4)).size) + (1 + t200.size)) + (rdOf ByteArray.empty y196 (ji4)).size) + 1) + (rdOf ByteArray.empty y196 (ji4)).size) + 1) = False := eq_false (Nat.not_lt.2 c37n)
                   clear c37 c37b0 c37b1
                   try clear c37b2
                   by_cases c38 : ((((((x10_3 ++ (rdOf ByteArray.empty y196 (ji4))) ++ ((⟨#[110]⟩ : ByteArray) ++ t200)) ++ (rdOf ByteArray.empty y196 (ji4))) ++ (⟨#[61]⟩ : ByteArray)) ++ (rdOf ByteArray.empty y196 (ji4))) ++ (⟨#[34]⟩ : ByteArray)).size + (x8_1 ++ t201).size ≤ 9223372036854775807
                   ·rw [if_pos c38] at H
                    have c38b0 := eq_true c38
                    have c38b1 : decide (((((((x10_3 ++ (rdOf ByteArray.empty y196 (ji4))) ++ ((⟨#[110]⟩ : ByteArray) ++ t200)) ++ (rdOf ByteArray.empty y196 (ji4))) ++ (⟨#[61]⟩ : ByteArray)) ++ (rdOf ByteArray.empty y196 (ji4))) ++ (⟨#[34]⟩ : ByteArray)).size + (x8_1 ++ t201).size ≤ 9223372036854775807) = true := decide_eq_true c38
                    try have c38b2 : (9223372036854775807 < ((((((x10_3 ++ (rdOf ByteArray.empty y196 (ji4))) ++ ((⟨#[110]⟩ : ByteArray) ++ t200)) ++ (rdOf ByteArray.empty y196 (ji4))) ++ (⟨#[61]⟩ : ByteArray)) ++ (rdOf ByteArray.empty y196 (ji4))) ++ (⟨#[34]⟩ : ByteArray)).size + (x8_1 ++ t201).size) = False := eq_false (Nat.not_lt.2 c38)
                    have c38n : ((((((x10_3.size + (rdOf ByteArray.empty y196 (ji4)).size) + (1 + t200.size)) + (rdOf ByteArray.empty y196 (ji4)).size) + 1) + (rdOf ByteArray.empty y196 (ji4)).size) + 1) + (x8_1.size + t201.size) ≤ 9223372036854775807 := by have z_ := c38; simp only [ByteArray.size_append] at z_; exact z_
                    have c38m : (9223372036854775807 < ((((((x10_3.size + (rdOf ByteArray.empty y196 (ji4)).size) + (1 + t200.size)) + (rdOf ByteArray.empty y196 (ji4)).size) + 1) + (rdOf ByteArray.empty y196 (ji4)).size) + 1) + (x8_1.size + t201.size)) = False := eq_false (Nat.not_lt.2 c38n)
                    clear c38 c38b0 c38b1
                    try clear c38b2
                    by_cases c39 : (((((((x10_3 ++ (rdOf ByteArray.empty y196 (ji4))) ++ ((⟨#[110]⟩ : ByteArray) ++ t200)) ++ (rdOf ByteArray.empty y196 (ji4))) ++ (⟨#[61]⟩ : ByteArray)) ++ (rdOf ByteArray.empty y196 (ji4))) ++ (⟨#[34]⟩ : ByteArray)) ++ (x8_1 ++ t201)).size + 1 ≤ 9223372036854775807
                    ·rw [if_pos c39] at H
                     have c39b0 := eq_true c39
                     have c39b1 : decide ((((((((x10_3 ++ (rdOf ByteArray.empty y196 (ji4))) ++ ((⟨#[110]⟩ : ByteArray) ++ t200)) ++ (rdOf ByteArray.empty y196 (ji4))) ++ (⟨#[61]⟩ : ByteArray)) ++ (rdOf ByteArray.empty y196 (ji4))) ++ (⟨#[34]⟩ : ByteArray)) ++ (x8_1 ++ t201)).size + 1 ≤ 9223372036854775807) = true := decide_eq_true c39
                     try have c39b2 : (9223372036854775807 < (((((((x10_3 ++ (rdOf ByteArray.empty y196 (ji4))) ++ ((⟨#[110]⟩ : ByteArray) ++ t200)) ++ (rdOf ByteArray.empty y196 (ji4))) ++ (⟨#[61]⟩ : ByteArray)) ++ (rdOf ByteArray.empty y196 (ji4))) ++ (⟨#[34]⟩ : ByteArray)) ++ (x8_1 ++ t201)).size + 1) = False := eq_false (Nat.not_lt.2 c39)
                     have c39n : (((((((x10_3.size + (rdOf ByteArray.empty y196 (ji4)).size) + (1 + t200.size)) + (rdOf ByteArray.empty y196 (ji4)).size) + 1) + (rdOf ByteArray.empty y196 (ji4)).size) + 1) + (x8_1.size + t201.size)) + 1 ≤ 9223372036854775807 := by have z_ := c39; simp only [ByteArray.size_append] at z_; exact z_
                     have c39m : (9223372036854775807 < (((((((x10_3.size + (rdOf ByteArray.empty y196 (ji4)).size) + (1 + t200.size)) + (rdOf ByteArray.empty y196 (ji4)).size) + 1) + (rdOf ByteArray.empty y196 (ji4)).size) + 1) + (x8_1.size + t201.size)) + 1) = False := eq_false (Nat.not_lt.2 c39n)
                     clear c39 c39b0 c39b1
                     try clear c39b2
                     by_cases c40 : x11_3.length < 4398046511104
                     ·rw [if_pos c40] at H
                      have LMc40 := Aside0.mk c40
                      clear c40
                      obtain ⟨y203, hy203⟩ : ∃ y_ : List (S39), y_ = (x11_3 ++ [(⟨(⟨#[110]⟩ : ByteArray) ++ t200, x8_1 ++ t201⟩ : S39)]) := ⟨_, rfl⟩
                      replace H : (newellaw02_TokenAttrs.l1 k3 (wrap64 (Int.tmod (IntKind.u64.wrap (a0)) 12)) (rdOf ByteArray.empty y196 (ji4)) x8_1 ((((((((x10_3 ++ (rdOf ByteArray.empty y196 (ji4))) ++ ((⟨#[110]⟩ : ByteArray) ++ t200)) ++ (rdOf ByteArray.empty y196 (ji4))) ++ (⟨#[61]⟩ : ByteArray)) ++ (rdOf ByteArray.empty y196 (ji4))) ++ (⟨#[34]⟩ : ByteArray)) ++ (x8_1 ++ t201)) ++ (⟨#[34]⟩ : ByteArray)) y203 (wrap64 (x12_3 + 1))) = some r := by first | (rw [hy203]; with_reducible exact H) | (have H2_ := (Option.bind_some _ _).symm.trans H; rw [hy203]; with_reducible exact H2_) | (have H2_ := (Option.bind_some _ _).symm.trans H; with_reducible exact H2_) | with_reducible exact H | (rw [hy203]; exact H) | exact H
                      have Ny203 := Aside0.mk hy203
                      clear hy203
                      have H' := Aside0.mk H
                      clear H
                      go_wp2_with (first | ((with_reducible refine gate_callee (f := 20) rfl ?_); refine goesL_ (some 74) rfl rfl Try.func20 (by kernel_rfl) rfl #[.int .i64 x12_3] rfl (by (try simp only [List.map_toArray, List.map_cons, List.map_nil]); first | done | rfl | (simp only [List.length_drop, List.length_take]; rfl)) ?_; (with_reducible refine (newelhelp_Digits.calls k3 x12_3 t200 _ ?side1 A28.out).mono ?_); (case side1 => exact Glob.step HG.out (by repeat (first | (with_reducible first | exact HB.out | apply below_alloc | apply pw_below_drewN | apply below_drew1) | exact HB.out))); rintro e w41 ⟨rfl, hb⟩; refine ⟨_, rfl, ?_⟩; have n0_ := Aside0.mk (Kd.R_below (by (with_reducible repeat (first | apply Kd.R_alloc | apply Kd.R_drewN | apply Kd.R_drew)); exact HO_11.out) hb); have n1_ := Aside0.mk (below_step (by repeat (first | (with_reducible first | exact HB.out | apply below_alloc | apply pw_below_drewN | apply below_drew1) | exact HB.out)) hb); clear HO_11; clear HB; have HO_11 := n0_; have HB := n1_; clear n0_ n1_; (try clear hb); (try clear hb2); (try clear hk); (try clear hi); clear A28) | ((with_reducible refine gate_callee (f := 20) rfl ?_); refine goesL_ (some 78) rfl rfl Try.func20 (by kernel_rfl) rfl #[.int .i64 x12_3] rfl (by (try simp only [List.map_toArray, List.map_cons, List.map_nil]); first | done | rfl | (simp only [List.length_drop, List.length_take]; rfl)) ?_; (with_reducible refine (newelhelp_Digits.calls k3 x12_3 t201 _ ?side1 A30.out).mono ?_); (case side1 => exact Glob.step HG.out (by repeat (first | (with_reducible first | exact HB.out | apply below_alloc | apply pw_below_drewN | apply below_drew1) | exact HB.out))); rintro e w42 ⟨rfl, hb⟩; refine ⟨_, rfl, ?_⟩; have n0_ := Aside0.mk (Kd.R_below (by (with_reducible repeat (first | apply Kd.R_alloc | apply Kd.R_drewN | apply Kd.R_drew)); exact HO_11.out) hb); have n1_ := Aside0.mk (below_step (by repeat (first | (with_reducible first | exact HB.out | apply below_alloc | apply pw_below_drewN | apply below_drew1) | exact HB.out)) hb); clear HO_11; clear HB; have HO_11 := n0_; have HB := n1_; clear n0_ n1_; (try clear hb); (try clear hb2); (try clear hk); (try clear hi)) | ((with_reducible refine gate_dst (N := 13) rfl ?_); (try (refine gate_guard (by rfl) ?_; dsimp only)); refine box_event ?hg (N := 13) ?hd (cs := #[.string (⟨#[]⟩ : ByteArray), .string (⟨#[]⟩ : ByteArray)]) (t := 39) ?hr ?_; (case hd => rfl); (case hg => rfl); (case hr => first | (go_simp; done) | (go_simp; rfl)); intro gb202 hg w43 hbox hb; have n0_ := Aside0.mk (Kd.R_below (Kd.R_elderB (by (with_reducible repeat (first | apply Kd.R_alloc | apply Kd.R_drewN | apply Kd.R_drew)); exact HO_11.out) gb202 (Nat.le_of_eq hg.symm)) hb); have n1_ := Aside0.mk (below_step (by repeat (first | (with_reducible first | exact HB.out | apply below_alloc | apply pw_below_drewN | apply below_drew1) | exact HB.out)) hb); have n2_ := Aside0.mk (hbox); have n3_ := Aside0.mk ((by rw [hg]; exact (below_size (by repeat (first | (with_reducible first | exact HB.out | apply below_alloc | apply pw_below_drewN | apply below_drew1) | exact HB.out))) : w.heap.size ≤ gb202)); have n4_ := Aside0.mk ((by rw [hg]; exact (below_size (by repeat (first | (with_reducible first | exact HB.out | apply below_alloc | apply pw_below_drewN | apply below_drew1) | exact HB.out))) : w.heap.size ≤ gb202)); clear HO_11; clear HB; have HO_11 := n0_; have HB := n1_; have BK202 := n2_; have GW202 := n3_; have GE202 := n4_; clear n0_ n1_ n2_ n3_ n4_; clear hb hbox hg; have hcz44_0 : w43.cell? ⟨gb202, 0, none⟩ = some (.string (⟨#[]⟩ : ByteArray)) := (blk_cell BK202.out 0).trans rfl; have hcz44_1 : w43.cell? ⟨gb202, 1, none⟩ = some (.string (⟨#[]⟩ : ByteArray)) := (blk_cell BK202.out 1).trans rfl; have hfz44_0 := blk_frozen BK202.out 0; have hfz44_1 := blk_frozen BK202.out 1) | ((with_reducible refine gate_builtin (b := .append) (xs := #[.tmp 97, .tmp 99]) rfl ?_); (try (refine gate_guard (by rfl) ?_; dsimp only)); at_builtin; refine Kd.R_append k39 (w0 := w) w.heap.size rfl (.tmp 97) (.tmp 99) 30 39 (.agg #[(.string ⟨#[]⟩), (.string ⟨#[]⟩)]) 32 rfl Try.underlying30 info39 rfl (by decide) (by omega) u11 x11_3 (⟨(⟨#[110]⟩ : ByteArray) ++ t200, x8_1 ++ t201⟩ : S39) [.string ((⟨#[110]⟩ : ByteArray) ++ t200), .string (x8_1 ++ t201)] (fun k_ => k_ ≠ gb202) (fun _ => False) rfl (by first | (go_simp; done) | (go_simp; rfl)) ?aP (fun _ hk => hk.elim) ?aF ?aO ?aB ?aS ?aL ?_; (case aP => exact k39_mkM _ _ _ (⟨(⟨#[110]⟩ : ByteArray) ++ t200, x8_1 ++ t201⟩ : S39)); (case aB => exact (by repeat (first | (with_reducible first | exact HB.out | apply below_alloc | apply pw_below_drewN | apply below_drew1 | refine below_set ?_ GE202.out) | exact HB.out))); (case aF => exact (fun k_ hk => Kd.freshB (g := gb202) (o := .cells #[.string ((⟨#[110]⟩ : ByteArray) ++ t200), .string (x8_1 ++ t201)] 39 (0, 0)) (by (with_reducible repeat (first | refine blk_drewN ?_ _ | refine blk_drew ?_ | refine blk_alloc ?_ _)); refine blk_put (cs := #[.string ((⟨#[110]⟩ : ByteArray) ++ t200), .string (⟨#[]⟩ : ByteArray)]) ?_ 1 _ rfl; (with_reducible repeat (first | refine blk_drewN ?_ _ | refine blk_drew ?_ | refine blk_alloc ?_ _)); refine blk_put (cs := #[.string (⟨#[]⟩ : ByteArray), .string (⟨#[]⟩ : ByteArray)]) ?_ 0 _ rfl; (with_reducible repeat (first | refine blk_drewN ?_ _ | refine blk_drew ?_ | refine blk_alloc ?_ _)); exact BK202.out) k_ hk)); (case aO => exact (by (with_reducible repeat (first | apply Kd.R_alloc | apply Kd.R_drewN | apply Kd.R_drew)); exact Kd.R_mono (Kd.R_far (p := ⟨gb202, 1, none⟩) (Kd.R_far (p := ⟨gb202, 0, none⟩) (Kd.R_mono HO_11.out (fun k_ hk => (⟨hk, hk.2⟩ : _ ∧ k_ ≠ gb202))) (fun _ hk => hk.2) (.string ((⟨#[110]⟩ : ByteArray) ++ t200))) (fun _ hk => hk.2) (.string (x8_1 ++ t201))) (fun _ hk => hk.1.2))); (case aS => exact (below_size (by repeat (first | (with_reducible first | exact HB.out | apply below_alloc | apply pw_below_drewN | apply below_drew1 | refine below_set ?_ GE202.out) | exact HB.out)))); (case aL => have := LMc40.out; omega); intro v204 w45 ho hb hg hat; rw [← Ny203.out] at ho; have n0_ := Aside0.mk (blk_grown (g := gb202) (o := .cells #[.string ((⟨#[110]⟩ : ByteArray) ++ t200), .string (x8_1 ++ t201)] 39 (0, 0)) (by (with_reducible repeat (first | refine blk_drewN ?_ _ | refine blk_drew ?_ | refine blk_alloc ?_ _)); refine blk_put (cs := #[.string ((⟨#[110]⟩ : ByteArray) ++ t200), .string (⟨#[]⟩ : ByteArray)]) ?_ 1 _ rfl; (with_reducible repeat (first | refine blk_drewN ?_ _ | refine blk_drew ?_ | refine blk_alloc ?_ _)); refine blk_put (cs := #[.string (⟨#[]⟩ : ByteArray), .string (⟨#[]⟩ : ByteArray)]) ?_ 0 _ rfl; (with_reducible repeat (first | refine blk_drewN ?_ _ | refine blk_drew ?_ | refine blk_alloc ?_ _)); exact BK202.out) hg (Kd.R_away HO_11.out (fun _ hk => hk.2))); have n1_ := Aside0.mk (hb); have n2_ := Aside0.mk (ho); clear BK202; clear HB; clear HO_11; have BK202 := n0_; have HB := n1_; have HO205 := n2_; clear n0_ n1_ n2_; clear ho hb hg hat))
                      go_roundg k3
                      case measure => have := HK1.out; have := HJ9.out; have := HK3.out; omega
                      case rel => exact ⟨((((((((x10_3 ++ (rdOf ByteArray.empty y196 (ji4))) ++ ((⟨#[110]⟩ : ByteArray) ++ t200)) ++ (rdOf ByteArray.empty y196 (ji4))) ++ (⟨#[61]⟩ : ByteArray)) ++ (rdOf ByteArray.empty y196 (ji4))) ++ (⟨#[34]⟩ : ByteArray)) ++ (x8_1 ++ t201)) ++ (⟨#[34]⟩ : ByteArray)), (y203), (wrap64 (x12_3 + 1)), (by first | rfl | (simp; done) | (simp only [← hji4] <;> (first | rfl | simp)) | (simp [*]; done)), (by first | rfl | (simp; done) | (simp [*]; done) | (simp; exact isEmpty_bne _)), H', ⟨by have := HK1.out; have := HJ9.out; have := HK3.out; omega⟩, ⟨by (with_reducible repeat (first | apply Kd.R_alloc | apply Kd.R_drewN | apply Kd.R_drew)); exact Kd.R_mono HO205.out (fun _ hk => trivial)⟩, ⟨by repeat (first | (with_reducible first | exact HB.out | apply below_alloc | apply pw_below_drewN | apply below_drew1 | refine below_set ?_ GE202.out) | exact HB.out)⟩⟩
                     ·rw [if_neg c40] at H
                      exact absurd H (by simp)
                    ·rw [if_neg c39] at H
                     exact absurd H (by simp)
                   ·rw [if_neg c38] at H
                    exact absurd H (by simp)
                  ·rw [if_neg c37] at H
                   exact absurd H (by simp)
                 ·rw [if_neg c36] at H
                  exact absurd H (by simp)
                ·rw [if_neg c35] at H
                 exact absurd H (by simp)
               ·rw [if_neg c34] at H
                exact absurd H (by simp)
              ·rw [if_neg c33] at H
               exact absurd H (by simp)
             ·rw [if_neg c32] at H
              exact absurd H (by simp)
            ·rw [if_neg c31] at H
             exact absurd H (by simp)
           ·rw [if_neg c29] at H
            exact absurd H (by simp)
          ·rw [if_neg c27] at H
           have c27b0 : decide (x12_3 < (wrap64 (Int.tmod (IntKind.u64.wrap (a0)) 12))) = false := decide_eq_false c27
           clear c27
           by_cases c46 : x10_3.size + (rdOf ByteArray.empty y196 (ji4)).size ≤ 9223372036854775807
           ·rw [if_pos c46] at H
            have c46b0 := eq_true c46
            have c46b1 : decide (x10_3.size + (rdOf ByteArray.empty y196 (ji4)).size ≤ 9223372036854775807) = true := decide_eq_true c46
            try have c46b2 : (9223372036854775807 < x10_3.size + (rdOf ByteArray.empty y196 (ji4)).size) = False := eq_false (Nat.not_lt.2 c46)
            by_cases c47 : (x10_3 ++ (rdOf ByteArray.empty y196 (ji4))).size + 2 ≤ 9223372036854775807
            ·rw [if_pos c47] at H
             have c47b0 := eq_true c47
             have c47b1 : decide ((x10_3 ++ (rdOf ByteArray.empty y196 (ji4))).size + 2 ≤ 9223372036854775807) = true := decide_eq_true c47
             try have c47b2 : (9223372036854775807 < (x10_3 ++ (rdOf ByteArray.empty y196 (ji4))).size + 2) = False := eq_false (Nat.not_lt.2 c47)
             have c47n : (x10_3.size + (rdOf ByteArray.empty y196 (ji4)).size) + 2 ≤ 9223372036854775807 := by have z_ := c47; simp only [ByteArray.size_append] at z_; exact z_
             have c47m : (9223372036854775807 < (x10_3.size + (rdOf ByteArray.empty y196 (ji4)).size) + 2) = False := eq_false (Nat.not_lt.2 c47n)
             clear c47 c47b0 c47b1
             try clear c47b2
             replace H := Option.bind_eq_some_iff.mp H
             obtain ⟨⟨t206, t207⟩, A480, H⟩ := H
             replace H : (if (x10_3 ++ (rdOf ByteArray.empty y196 (ji4))).size + 13 ≤ 9223372036854775807 then ((token_Split.f ((x10_3 ++ (rdOf ByteArray.empty y196 (ji4))) ++ (⟨#[110, 48, 61, 39, 39, 32, 110, 48, 61, 39, 39, 47, 62]⟩ : ByteArray))).bind fun bt210 => ((newellaw02_awake.f).bind fun t214 => (if t214 = true then (if t207 = 0 then (if (t206.length : Int) = 1 then (if 0 < (t206.length : Int) then (if (rd_T32 t206 0).f4 = true then ((api_Attr_21.f k3 ((rd_T32 t206 0).f3) x11_3).bind fun t217 => (if t217 = true then (some (bt210.2 == 5)) else (some false))) else (some false)) else (none)) else (some false)) else (some false)) else (some false)))) else (none)) = some r := H
             have A48 := Aside0.mk A480
             clear A480
             by_cases c49 : (x10_3 ++ (rdOf ByteArray.empty y196 (ji4))).size + 13 ≤ 9223372036854775807
             ·rw [if_pos c49] at H
              have c49b0 := eq_true c49
              have c49b1 : decide ((x10_3 ++ (rdOf ByteArray.empty y196 (ji4))).size + 13 ≤ 9223372036854775807) = true := decide_eq_true c49
              try have c49b2 : (9223372036854775807 < (x10_3 ++ (rdOf ByteArray.empty y196 (ji4))).size + 13) = False := eq_false (Nat.not_lt.2 c49)
              have c49n : (x10_3.size + (rdOf ByteArray.empty y196 (ji4)).size) + 13 ≤ 9223372036854775807 := by have z_ := c49; simp only [ByteArray.size_append] at z_; exact z_
              have c49m : (9223372036854775807 < (x10_3.size + (rdOf ByteArray.empty y196 (ji4)).size) + 13) = False := eq_false (Nat.not_lt.2 c49n)
              clear c49 c49b0 c49b1
              try clear c49b2
              replace H := Option.bind_eq_some_iff.mp H
              obtain ⟨⟨t210, t211⟩, A500, H⟩ := H
              replace H : ((newellaw02_awake.f).bind fun t214 => (if t214 = true then (if t207 = 0 then (if (t206.length : Int) = 1 then (if 0 < (t206.length : Int) then (if (rd_T32 t206 0).f4 = true then ((api_Attr_21.f k3 ((rd_T32 t206 0).f3) x11_3).bind fun t217 => (if t217 = true then (some (t211 == 5)) else (some false))) else (some false)) else (none)) else (some false)) else (some false)) else (some false))) = some r := H
              have A50 := Aside0.mk A500
              clear A500
              replace H := Option.bind_eq_some_iff.mp H
              obtain ⟨t214, A510, H⟩ := H
              replace H : (if t214 = true then (if t207 = 0 then (if (t206.length : Int) = 1 then (if 0 < (t206.length : Int) then (if (rd_T32 t206 0).f4 = true then ((api_Attr_21.f k3 ((rd_T32 t206 0).f3) x11_3).bind fun t217 => (if t217 = true then (some (t211 == 5)) else (some false))) else (some false)) else (none)) else (some false)) else (some false)) else (some false)) = some r := H
              have A51 := Aside0.mk A510
              clear A510
              by_cases c52 : t214 = true
              ·subst c52
               have H1 : (if t207 = 0 then (if (t206.length : Int) = 1 then (if 0 < (t206.length : Int) then (if (rd_T32 t206 0).f4 = true then ((api_Attr_21.f k3 ((rd_T32 t206 0).f3) x11_3).bind fun t217 => (if t217 = true then (some (t211 == 5)) else (some false))) else (some false)) else (none)) else (some false)) else (some false)) = some r := by rw [if_pos rfl] at H; exact H
               clear H
               have H := H1
               clear H1
               by_cases c53 : t207 = 0
               ·rw [if_pos c53] at H
                have c53b0 : (t207 == 0) = true := beq_iff_eq.mpr c53
                have c53b1 : (t207 != 0) = false := bne_eq_false_iff_eq.mpr c53
                clear c53
                by_cases c54 : (t206.length : Int) = 1
                ·rw [if_pos c54] at H
                 have c54b0 : ((t206.length : Int) == 1) = true := beq_iff_eq.mpr c54
                 have c54b1 : ((t206.length : Int) != 1) = false := bne_eq_false_iff_eq.mpr c54
                 clear c54
                 by_cases c55 : 0 < (t206.length : Int)
                 ·rw [if_pos c55] at H
                  have c55b0 : decide (0 < (t206.length : Int)) = true := decide_eq_true c55
                  have c55b1 : decide (0 < t206.length) = true := decide_eq_true (by omega)
                  clear c55
                  obtain ⟨bq56, hbq56⟩ : ∃ b_ : Bool, b_ = ((rd_T32 t206 0).f4) := ⟨_, rfl⟩
                  replace H : (if bq56 = true then ((api_Attr_21.f k3 ((rd_T32 t206 0).f3) x11_3).bind fun t217 => (if t217 = true then (some (t211 == 5)) else (some false))) else (some false)) = some r := by rw [← hbq56] at H; exact H
                  have Nbq56 := Aside0.mk hbq56
                  clear hbq56
                  by_cases c57 : bq56 = true
                  ·subst c57
                   have H1 : ((api_Attr_21.f k3 ((rd_T32 t206 0).f3) x11_3).bind fun t217 => (if t217 = true then (some (t211 == 5)) else (some false))) = some r := by rw [if_pos rfl] at H; exact H
                   clear H
                   have H := H1
                   clear H1
                   replace H := Option.bind_eq_some_iff.mp H
                   obtain ⟨t217, A580, H⟩ := H
                   replace H : (if t217 = true then (some (t211 == 5)) else (some false)) = some r := H
                   have A58 := Aside0.mk A580
                   clear A580
                   by_cases c59 : t217 = true
                   ·subst c59
                    have H1 : (some (t211 == 5)) = some r := by rw [if_pos rfl] at H; exact H
                    clear H
                    have H := H1
                    clear H1
                    obtain rfl := Option.some.inj H
                    go_wp2_with (first | ((with_reducible refine gate_callee (f := 12) rfl ?_); refine goesL_ (some 106) rfl rfl Try.func12 (by kernel_rfl) rfl #[.string ((x10_3 ++ (rdOf ByteArray.empty y196 (ji4))) ++ (⟨#[47, 62]⟩ : ByteArray))] rfl (by (try simp only [List.map_toArray, List.map_cons, List.map_nil]); first | done | (simp only [hji4]; rfl) | rfl | (simp only [List.length_drop, List.length_take]; rfl)) ?_; (with_reducible refine (token_Split.calls ((x10_3 ++ (rdOf ByteArray.empty y196 (ji4))) ++ (⟨#[47, 62]⟩ : ByteArray)) t206 t207 _ ?side1 A48.out).mono ?_); (case side1 => exact Glob.step HG.out (by repeat (first | (with_reducible first | exact HB.out | apply below_alloc | apply pw_below_drewN | apply below_drew1) | exact HB.out))); rintro e w60 ⟨v208, rfl, ho0, hb⟩; refine ⟨_, rfl, ?_⟩; have n0_ := Aside0.mk (Kd.R_below (by (with_reducible repeat (first | apply Kd.R_alloc | apply Kd.R_drewN | apply Kd.R_drew)); exact HO_11.out) hb); have n1_ := Aside0.mk (Kd.S_lower (Kd.S_new' ho0 (Kd.R_lt (by (with_reducible repeat (first | apply Kd.R_alloc | apply Kd.R_drewN | apply Kd.R_drew)); exact HO_11.out))) (below_size (by repeat (first | (with_reducible first | exact HB.out | apply below_alloc | apply pw_below_drewN | apply below_drew1) | exact HB.out)))); have n2_ := Aside0.mk (below_step (by repeat (first | (with_reducible first | exact HB.out | apply below_alloc | apply pw_below_drewN | apply below_drew1) | exact HB.out)) hb); clear HO_11; clear HB; have HO_11 := n0_; have HO209 := n1_; have HB := n2_; clear n0_ n1_ n2_; (try clear hb); (try clear hb2); (try clear hk); (try clear hi); (try clear ho0)) | ((with_reducible refine gate_callee (f := 12) rfl ?_); refine goesL_ (some 114) rfl rfl Try.func12 (by kernel_rfl) rfl #[.string ((x10_3 ++ (rdOf ByteArray.empty y196 (ji4))) ++ (⟨#[110, 48, 61, 39, 39, 32, 110, 48, 61, 39, 39, 47, 62]⟩ : ByteArray))] rfl (by (try simp only [List.map_toArray, List.map_cons, List.map_nil]); first | done | (simp only [hji4]; rfl) | rfl | (simp only [List.length_drop, List.length_take]; rfl)) ?_; (with_reducible refine (token_Split.calls ((x10_3 ++ (rdOf ByteArray.empty y196 (ji4))) ++ (⟨#[110, 48, 61, 39, 39, 32, 110, 48, 61, 39, 39, 47, 62]⟩ : ByteArray)) t210 t211 _ ?side1 A50.out).mono ?_); (case side1 => exact Glob.step HG.out (by repeat (first | (with_reducible first | exact HB.out | apply below_alloc | apply pw_below_drewN | apply below_drew1) | exact HB.out))); rintro e w61 ⟨v212, rfl, ho0, hb⟩; refine ⟨_, rfl, ?_⟩; have n0_ := Aside0.mk (Kd.R_below (by (with_reducible repeat (first | apply Kd.R_alloc | apply Kd.R_drewN | apply Kd.R_drew)); exact HO_11.out) hb); have n1_ := Aside0.mk (Kd.S_elder' (by (with_reducible repeat (first | apply Kd.S_alloc | apply Kd.S_drewN | apply Kd.S_drew)); exact HO209.out) (Kd.S_base ho0) hb); have n2_ := Aside0.mk (Kd.S_lower (Kd.S_new' (Kd.S_new' ho0 (Kd.R_lt (by (with_reducible repeat (first | apply Kd.R_alloc | apply Kd.R_drewN | apply Kd.R_drew)); exact HO_11.out))) (Kd.S_lt (by (with_reducible repeat (first | apply Kd.S_alloc | apply Kd.S_drewN | apply Kd.S_drew)); exact HO209.out))) (below_size (by repeat (first | (with_reducible first | exact HB.out | apply below_alloc | apply pw_below_drewN | apply below_drew1) | exact HB.out)))); have n3_ := Aside0.mk (below_step (by repeat (first | (with_reducible first | exact HB.out | apply below_alloc | apply pw_below_drewN | apply below_drew1) | exact HB.out)) hb); clear HO_11; clear HO209; clear HB; have HO_11 := n0_; have HO209 := n1_; have HO213 := n2_; have HB := n3_; clear n0_ n1_ n2_ n3_; (try clear hb); (try clear hb2); (try clear hk); (try clear hi); (try clear ho0)) | ((with_reducible refine gate_callee (f := 11) rfl ?_); refine goesL_ (some 117) rfl rfl Try.func11 (by kernel_rfl) rfl #[] rfl (by (try simp only [List.map_toArray, List.map_cons, List.map_nil]); first | done | rfl | (simp only [List.length_drop, List.length_take]; rfl)) ?_; (with_reducible refine (newellaw02_awake.calls  true _ ?side1 A51.out).mono ?_); (case side1 => exact Glob.step HG.out (by repeat (first | (with_reducible first | exact HB.out | apply below_alloc | apply pw_below_drewN | apply below_drew1) | exact HB.out))); rintro e w62 ⟨rfl, hb⟩; refine ⟨_, rfl, ?_⟩; have n0_ := Aside0.mk (Kd.R_below (by (with_reducible repeat (first | apply Kd.R_alloc | apply Kd.R_drewN | apply Kd.R_drew)); exact HO_11.out) hb); have n1_ := Aside0.mk (Kd.S_below (by (with_reducible repeat (first | apply Kd.S_alloc | apply Kd.S_drewN | apply Kd.S_drew)); exact HO209.out) hb); have n2_ := Aside0.mk (Kd.S_below (by (with_reducible repeat (first | apply Kd.S_alloc | apply Kd.S_drewN | apply Kd.S_drew)); exact HO213.out) hb); have n3_ := Aside0.mk (below_step (by repeat (first | (with_reducible first | exact HB.out | apply below_alloc | apply pw_below_drewN | apply below_drew1) | exact HB.out)) hb); clear HO_11; clear HO209; clear HO213; clear HB; have HO_11 := n0_; have HO209 := n1_; have HO213 := n2_; have HB := n3_; clear n0_ n1_ n2_ n3_; (try clear hb); (try clear hb2); (try clear hk); (try clear hi); obtain ⟨Ao63, co63, eo63⟩ := Kd.S_slice HO209.out; subst eo63; have p215 : 0 ≤ (0 : Int) := (by omega); have q215 : 0 < (t206.length : Int) := of_decide_eq_true (by first | (with_reducible assumption) | assumption); obtain ⟨ad215, A215_3, c215_3, e215, hx215_0, hx215_1, hx215_2, hx215_3, hx215_4, hl215_3, hi215_3⟩ := at_T32 (Kd.S_reads' HO209.out).2.2 0 p215 q215; (try rw [← Nbq56.out] at hx215_4); cases e215; obtain ⟨ce215, hce215, hMe215, hcc215⟩ := Kd.S_get HO209.out z32 0 p215 (by first | exact q215 | exact of_decide_eq_true (by first | (with_reducible assumption) | assumption) | (have e_ := (Kd.S_reads' HO209.out).1; omega)); obtain ⟨ve215_3, rfl, ge215_3⟩ := k32_openM hMe215; have hv215_3 := hcc215 3 _ rfl; rw [add_field _ _ 3 (by omega)] at hv215_3; replace hv215_3 := Option.some.inj (hv215_3.symm.trans hx215_3); rw [hv215_3] at ge215_3; have HL215_3 := Aside0.mk (show Kd.R k39 39 _ _ _ _ ((rd_T32 t206 0).f3) from ge215_3); clear hv215_3 ge215_3; clear hcc215 hce215; have qi215 : (0 < t206.length) = True := eq_true (by omega); (try rw [show ((0 : Int)).toNat = 0 from rfl] at hx215_0); (try rw [show 0 * 5 = 0 from rfl] at hx215_0); (try rw [Addr.add_zero'] at hx215_0); (try rw [show ((0 : Int)).toNat = 0 from rfl] at hx215_1); (try rw [show 0 * 5 = 0 from rfl] at hx215_1); (try rw [Addr.add_zero'] at hx215_1); (try rw [show ((0 : Int)).toNat = 0 from rfl] at hx215_2); (try rw [show 0 * 5 = 0 from rfl] at hx215_2); (try rw [Addr.add_zero'] at hx215_2); (try rw [show ((0 : Int)).toNat = 0 from rfl] at hx215_3); (try rw [show 0 * 5 = 0 from rfl] at hx215_3); (try rw [Addr.add_zero'] at hx215_3); (try rw [show ((0 : Int)).toNat = 0 from rfl] at hx215_4); (try rw [show 0 * 5 = 0 from rfl] at hx215_4); (try rw [Addr.add_zero'] at hx215_4); have HR215_3 := Aside0.mk hi215_3; have HC215_3 := Aside0.mk hl215_3; clear hi215_3 hl215_3; replace p215 := eq_true p215; replace q215 := eq_true q215; have p216 : 0 ≤ (0 : Int) := (by omega); have q216 : 0 < (t206.length : Int) := of_decide_eq_true (by first | (with_reducible assumption) | assumption); obtain ⟨ad216, A216_3, c216_3, e216, hx216_0, hx216_1, hx216_2, hx216_3, hx216_4, hl216_3, hi216_3⟩ := at_T32 (Kd.S_reads' HO209.out).2.2 0 p216 q216; (try rw [← Nbq56.out] at hx216_4); obtain rfl : ad215 = ad216 := (by injection e216); obtain ⟨ce216, hce216, hMe216, hcc216⟩ := Kd.S_get HO209.out z32 0 p216 (by first | exact q216 | exact of_decide_eq_true (by first | (with_reducible assumption) | assumption) | (have e_ := (Kd.S_reads' HO209.out).1; omega)); obtain ⟨ve216_3, rfl, ge216_3⟩ := k32_openM hMe216; have hv216_3 := hcc216 3 _ rfl; rw [add_field _ _ 3 (by omega)] at hv216_3; replace hv216_3 := Option.some.inj (hv216_3.symm.trans hx216_3); rw [hv216_3] at ge216_3; have HL216_3 := Aside0.mk (show Kd.R k39 39 _ _ _ _ ((rd_T32 t206 0).f3) from ge216_3); clear hv216_3 ge216_3; clear hcc216 hce216; have qi216 : (0 < t206.length) = True := eq_true (by omega); (try rw [show ((0 : Int)).toNat = 0 from rfl] at hx216_0); (try rw [show 0 * 5 = 0 from rfl] at hx216_0); (try rw [Addr.add_zero'] at hx216_0); (try rw [show ((0 : Int)).toNat = 0 from rfl] at hx216_1); (try rw [show 0 * 5 = 0 from rfl] at hx216_1); (try rw [Addr.add_zero'] at hx216_1); (try rw [show ((0 : Int)).toNat = 0 from rfl] at hx216_2); (try rw [show 0 * 5 = 0 from rfl] at hx216_2); (try rw [Addr.add_zero'] at hx216_2); (try rw [show ((0 : Int)).toNat = 0 from rfl] at hx216_3); (try rw [show 0 * 5 = 0 from rfl] at hx216_3); (try rw [Addr.add_zero'] at hx216_3); (try rw [show ((0 : Int)).toNat = 0 from rfl] at hx216_4); (try rw [show 0 * 5 = 0 from rfl] at hx216_4); (try rw [Addr.add_zero'] at hx216_4); have HR216_3 := Aside0.mk hi216_3; have HC216_3 := Aside0.mk hl216_3; clear hi216_3 hl216_3; replace p216 := eq_true p216; replace q216 := eq_true q216; have ea_ := Option.some.inj (hx215_3.symm.trans hx216_3); injection ea_ with ea_ en_ ec_; subst ea_; subst ec_; clear en_; obtain ⟨Ao64, co64, eo64⟩ := Kd.R_slice HO_11.out; subst eo64) | (go_at_call 21; (with_reducible refine (api_Attr_21.calls k3 _ _ ((rd_T32 t206 0).f3) _ _ x11_3 true _ ?side1 ?side2 ?side3 ?side4 ?side5 A58.out).mono ?_); (case side1 => repeat (first | exact (by repeat (first | (with_reducible exact HR216_3.out) | (with_reducible refine Kd.C_alloc ?_ _) | (with_reducible refine Kd.C_drewN ?_ _) | (with_reducible refine Kd.C_drew ?_) | exact HR216_3.out)) | (with_reducible refine Kd.C_alloc ?_ _) | (with_reducible refine Kd.C_drewN ?_ _) | (with_reducible refine Kd.C_drew ?_))); (case side2 => exact HC216_3.out); (case side3 => repeat (first | exact (Kd.R_reads' HO_11.out).2.2 | (with_reducible refine Kd.C_alloc ?_ _) | (with_reducible refine Kd.C_drewN ?_ _) | (with_reducible refine Kd.C_drew ?_))); (case side4 => exact (Kd.R_reads' HO_11.out).2.1); (case side5 => exact Glob.step HG.out (by repeat (first | (with_reducible first | exact HB.out | apply below_alloc | apply pw_below_drewN | apply below_drew1) | exact HB.out))); rintro e w65 ⟨rfl, hb⟩; have n0_ := Aside0.mk (Kd.R_below (by (with_reducible repeat (first | apply Kd.R_alloc | apply Kd.R_drewN | apply Kd.R_drew)); exact HO_11.out) hb); have n1_ := Aside0.mk (Kd.S_below (by (with_reducible repeat (first | apply Kd.S_alloc | apply Kd.S_drewN | apply Kd.S_drew)); exact HO209.out) hb); have n2_ := Aside0.mk (Kd.S_below (by (with_reducible repeat (first | apply Kd.S_alloc | apply Kd.S_drewN | apply Kd.S_drew)); exact HO213.out) hb); have n3_ := Aside0.mk (Kd.R_below (by (with_reducible repeat (first | apply Kd.R_alloc | apply Kd.R_drewN | apply Kd.R_drew)); exact HL215_3.out) hb); have n4_ := Aside0.mk (Kd.R_below (by (with_reducible repeat (first | apply Kd.R_alloc | apply Kd.R_drewN | apply Kd.R_drew)); exact HL216_3.out) hb); have n5_ := Aside0.mk (Kd.C_below (by repeat (first | (with_reducible exact HR215_3.out) | (with_reducible refine Kd.C_alloc ?_ _) | (with_reducible refine Kd.C_drewN ?_ _) | (with_reducible refine Kd.C_drew ?_) | exact HR215_3.out)) hb); have n6_ := Aside0.mk (Kd.C_below (by repeat (first | (with_reducible exact HR216_3.out) | (with_reducible refine Kd.C_alloc ?_ _) | (with_reducible refine Kd.C_drewN ?_ _) | (with_reducible refine Kd.C_drew ?_) | exact HR216_3.out)) hb); have n7_ := Aside0.mk (below_step (by repeat (first | (with_reducible first | exact HB.out | apply below_alloc | apply pw_below_drewN | apply below_drew1) | exact HB.out)) hb); clear HO_11; clear HO209; clear HO213; clear HL215_3; clear HL216_3; clear HR215_3; clear HR216_3; clear HB; have HO_11 := n0_; have HO209 := n1_; have HO213 := n2_; have HL215_3 := n3_; have HL216_3 := n4_; have HR215_3 := n5_; have HR216_3 := n6_; have HB := n7_; clear n0_ n1_ n2_ n3_ n4_ n5_ n6_ n7_; (try clear hb); (try clear hb2); (try clear hk); (try clear hi)))
                    go_ret
                    exact ⟨by first | rfl | (simp [errW_none, errW_some] <;> rfl) | (simp only [← hji4]; first | rfl | (simp [errW_none, errW_some] <;> rfl)) | (simp [*, errW_none, errW_some] <;> rfl), by repeat (first | (with_reducible first | exact HB.out | apply below_alloc | apply pw_below_drewN | apply below_drew1) | exact HB.out)⟩
                   ·replace c59 := Bool.eq_false_iff.mpr c59
                    subst c59
                    have H1 : (some false) = some r := by rw [if_neg (show ¬ (false = true) by decide)] at H; exact H
                    clear H
                    have H := H1
                    clear H1
                    exfalso
                    obtain rfl := Option.some.inj H
                    exact absurd hr_ (by decide)
                  ·replace c57 := Bool.eq_false_iff.mpr c57
                   subst c57
                   have H1 : (some false) = some r := by rw [if_neg (show ¬ (false = true) by decide)] at H; exact H
                   clear H
                   have H := H1
                   clear H1
                   exfalso
                   obtain rfl := Option.some.inj H
                   exact absurd hr_ (by decide)
                 ·rw [if_neg c55] at H
                  exact absurd H (by simp)
                ·rw [if_neg c54] at H
                 have c54b0 : ((t206.length : Int) == 1) = false := beq_eq_false_iff_ne.mpr c54
                 have c54b1 : ((t206.length : Int) != 1) = true := bne_iff_ne.mpr c54
                 exfalso
                 obtain rfl := Option.some.inj H
                 exact absurd hr_ (by decide)
               ·rw [if_neg c53] at H
                have c53b0 : (t207 == 0) = false := beq_eq_false_iff_ne.mpr c53
                have c53b1 : (t207 != 0) = true := bne_iff_ne.mpr c53
                exfalso
                obtain rfl := Option.some.inj H
                exact absurd hr_ (by decide)
              ·replace c52 := Bool.eq_false_iff.mpr c52
               subst c52
               have H1 : (some false) = some r := by rw [if_neg (show ¬ (false = true) by decide)] at H; exact H
               clear H
               have H := H1
               clear H1
               exfalso
               obtain rfl := Option.some.inj H
               exact absurd hr_ (by decide)
             ·rw [if_neg c49] at H
              exact absurd H (by simp)
            ·rw [if_neg c47] at H
             exact absurd H (by simp)
           ·rw [if_neg c46] at H
            exact absurd H (by simp)
  ·rw [if_neg c6] at H
   exact absurd H (by simp)
 ·rw [if_neg c5] at H
  exact absurd H (by simp)

end Go.Proofs.Ytomikblbfappnaa.Q

namespace Go.Proofs.Ytomikblbfappnaa.Q
open Go.RowKit Go.Proofs.YtomikblbfappnaaW.PrintWords Go.Proofs.YtomikblbfappnaaW.PrintLast Go.Proofs.YtomikblbfappnaaW.Own Go.Proofs.YtomikblbfappnaaW.PrintMore
set_option linter.unusedVariables false
set_option linter.unusedSimpArgs false
namespace Rd
open Go Go.RowKit
def Opens {α : Type} (t : TypeId) (d : Kd α) (wf : α → Prop) (bulk : α → Nat) : Prop :=
  Try.prog.cellsOf t = d.sz ∧ ∀ (H : Type) (enc : TypeId × Value → H) (W : World) (fuel : Nat) (cs : List Value) (dd : DataW H) (ps : List MemPlace),
    DataW.trod enc Try.prog W 0 (fun _ => true) true fuel t cs = some (dd, ps) → ∃ x, d.K W x cs ∧ wf x ∧ bulk x ≤ Rows.uptoBulk dd
def OpensF {β : Type} (fs : List Field) (off : Nat) (d : Kd β) (wf : β → Prop) (bulk : β → Nat) : Prop :=
  ∀ (H : Type) (enc : TypeId × Value → H) (W : World) (n : Nat) (cs : List Value) (xs : List (DataW H × List MemPlace)), xs.length = fs.length →
    (∀ (i : Nat) (f : Field), fs[i]? = some f → DataW.trod enc Try.prog W 0 (fun _ => true) true n f.type ((cs.drop f.offset).take (Try.prog.cellsOf f.type)) = xs[i]?) → cs.length = off + d.sz →
    ∃ x, d.K W x (cs.drop off) ∧ wf x ∧ bulk x ≤ Rows.uptoBulkAll (xs.map (·.1))
theorem OpensF.cons {α β : Type} {f : Field} {fs : List Field} {off off' : Nat} {a : Kd α} {b : Kd β} {wf : α → Prop} {bulk : α → Nat} {wf' : β → Prop} {bulk' : β → Nat} (ho : f.offset = off) (ho' : off' = off + a.sz) (h : Opens f.type a wf bulk) (hr : OpensF fs off' b wf' bulk') :
    OpensF (f :: fs) off (Kd.pair a b) (fun x => wf x.1 ∧ wf' x.2) (fun x => bulk x.1 + bulk' x.2) := by
  intro H enc W n cs xs hl ht hc
  subst ho'
  obtain ⟨hsz, hop⟩ := h
  obtain ⟨x0, xs', rfl⟩ : ∃ x0 xs', xs = x0 :: xs' := by
    match xs, hl with
    | x0 :: xs', _ => exact ⟨x0, xs', rfl⟩
  have h0 := ht 0 f rfl
  rw [ho, hsz] at h0
  obtain ⟨x, hk, hw, hb⟩ := hop H enc W n _ _ _ h0
  have hc' : cs.length = off + a.sz + b.sz := by
    have e : (Kd.pair a b).sz = a.sz + b.sz := rfl
    rw [e] at hc
    omega
  obtain ⟨y, hk', hw', hb'⟩ := hr H enc W n cs xs' (by simpa using hl) (fun i g hg => by have := ht (i + 1) g (by simpa using hg); simpa using this) hc'
  refine ⟨(x, y), ⟨(cs.drop off).take a.sz, cs.drop (off + a.sz), ?_, hk, hk'⟩, ⟨hw, hw'⟩, ?_⟩
  · rw [← List.drop_drop, List.take_append_drop]
  · simp only [List.map_cons, Rows.uptoBulkAll]
    omega
theorem glob {W : World} (h : W.ShapedOpen Try.prog) : Glob W :=
  cell_of_shapedOpen_int (g := 0) (t := 3) (zero := #[.int .i64 0]) (k := .i64) h (of_decide_eq_true (by kernel_rfl)) (by kernel_rfl) rfl (by kernel_rfl) (by kernel_rfl) Try.underlying3
end Rd
end Go.Proofs.Ytomikblbfappnaa.Q

-- Printed by this session's wip/np.py over the kit's print program. Not trusted: Lean checks it.
namespace Go.Proofs.Ytomikblbfappnaa.Q
open Go.RowKit Go.Proofs.YtomikblbfappnaaW.PrintWords Go.Proofs.YtomikblbfappnaaW.PrintLast Go.Proofs.YtomikblbfappnaaW.Own Go.Proofs.YtomikblbfappnaaW.PrintMore
set_option linter.unusedVariables false
set_option linter.unusedSimpArgs false

/-- The pure statement of newellaw02_TokenAttrs. -/
def newellaw02_TokenAttrs.Pure : Prop := ∀ (a0 : Int) (a1 : Int) (a2 : ByteArray), ((Lit.int .i64 a0).wf = true) → ((Lit.int .i64 a1).wf = true) → (a2.size ≤ 140737488351232) → ∃ k, newellaw02_TokenAttrs.f k a0 a1 a2 = some true
end Go.Proofs.Ytomikblbfappnaa.Q

namespace Go.Proofs.Ytomikblbfappnaa.Pure
open Go Go.RowKit Go.Proofs.Ytomikblbfappnaa.Q Go.Proofs.YtomikblbfappnaaW.PrintWords
theorem upto_split {c : UInt8} : ∀ {a b : List UInt8}, (∀ x ∈ a, x ≠ c) → Tk.upto [c] (a ++ c :: b) = some (a, b)
  | a, b, h => by
    have e : Lib.index (a ++ c :: b) [c] = (a.length : Int) := by
      refine Lib.index_first (by simp) ?_ ?_
      · unfold Lib.occAt
        rw [List.drop_left]
        simp [List.isPrefixOf]
      · intro j hj
        unfold Lib.occAt
        rw [List.drop_append_of_le_length (by omega), List.drop_eq_getElem_cons hj]
        simp only [List.cons_append, List.isPrefixOf, Bool.and_true]
        exact beq_eq_false_iff_ne.2 fun e => h _ (List.getElem_mem hj) e.symm
    unfold Tk.upto
    rw [e, if_pos (by omega), Int.toNat_natCast, List.take_left]
    congr 2
    rw [show a.length + [c].length = (a ++ [c]).length by simp, show a ++ c :: b = (a ++ [c]) ++ b by simp, List.drop_left]
theorem upto_no {c : UInt8} {a : List UInt8} (h : ∀ x ∈ a, x ≠ c) : Tk.upto [c] a = none := by
  have e : Lib.index a [c] = -1 := by
    refine Lib.index_none ?_
    intro j hj
    unfold Lib.occAt
    rcases Nat.lt_or_ge j a.length with hl | hl
    · rw [List.drop_eq_getElem_cons hl]
      simp only [List.isPrefixOf, Bool.and_true]
      exact beq_eq_false_iff_ne.2 fun e => h _ (List.getElem_mem hl) e.symm
    · rw [List.drop_eq_nil_of_le hl]; rfl
  unfold Tk.upto
  rw [e]; rfl
theorem part (c : UInt8) (l : List UInt8) : (∀ x ∈ l, x ≠ c) ∨ ∃ a b, l = a ++ c :: b ∧ ∀ x ∈ a, x ≠ c := by
  induction l with
  | nil => exact .inl fun x h => absurd h (by simp)
  | cons d l ih =>
    by_cases hd : d = c
    · exact .inr ⟨[], l, by rw [hd]; rfl, fun x h => absurd h (by simp)⟩
    · rcases ih with ih | ⟨a, b, e, ih⟩
      · refine .inl fun x hx => ?_
        rcases List.mem_cons.1 hx with rfl | hx
        · exact hd
        · exact ih x hx
      · refine .inr ⟨d :: a, b, by rw [e]; rfl, fun x hx => ?_⟩
        rcases List.mem_cons.1 hx with rfl | hx
        · exact hd
        · exact ih x hx
theorem ents_fuel : ∀ (n m : Nat) (l : List UInt8), l.length < n → l.length < m → Tk.ents n l = Tk.ents m l := by
  intro n
  induction n with
  | zero => intro m l h; omega
  | succ n ih =>
    intro m l h1 h2
    obtain ⟨m, rfl⟩ : ∃ k, m = k + 1 := ⟨m - 1, by omega⟩
    cases hu : Tk.upto [38] l with
    | none => rw [ents_none hu, ents_none hu]
    | some p =>
      obtain ⟨a, b⟩ := p
      have e1 := upto_sum hu
      cases hv : Tk.upto [59] b with
      | none => rw [ents_open hu hv, ents_open hu hv]
      | some q =>
        obtain ⟨x, r⟩ := q
        have e2 := upto_sum hv
        simp only [List.length_cons, List.length_nil] at e1 e2
        rw [ents_step hu hv, ents_step hu hv, ih m r (by omega) (by omega)]
theorem entities_fuel {n : Nat} {l : List UInt8} (h : l.length < n) : Tk.ents n l = Tk.entities l := ents_fuel _ _ _ h (Nat.lt_succ_self _)
theorem entities_plain (a t : List UInt8) (h : ∀ x ∈ a, x ≠ 38) : Tk.entities (a ++ t) = (Tk.entities t).map fun r => a ++ r := by
  rcases part 38 t with ht | ⟨p, q, rfl, hp⟩
  · have h1 : Tk.upto [38] (a ++ t) = none := upto_no fun x hx => by
      rcases List.mem_append.1 hx with hx | hx
      · exact h x hx
      · exact ht x hx
    unfold Tk.entities
    rw [ents_none h1, ents_none (upto_no ht)]
    rfl
  · have h1 : Tk.upto [38] (a ++ (p ++ 38 :: q)) = some (a ++ p, q) := by
      rw [← List.append_assoc]
      refine upto_split fun x hx => ?_
      rcases List.mem_append.1 hx with hx | hx
      · exact h x hx
      · exact hp x hx
    have h2 : Tk.upto [38] (p ++ 38 :: q) = some (p, q) := upto_split hp
    unfold Tk.entities
    cases hv : Tk.upto [59] q with
    | none => rw [ents_open h1 hv, ents_open h2 hv]; rfl
    | some s =>
      obtain ⟨x, r⟩ := s
      have e1 := upto_sum h1
      have e2 := upto_sum h2
      have e3 := upto_sum hv
      simp only [List.length_cons, List.length_nil] at e1 e2 e3
      rw [ents_step h1 hv, ents_step h2 hv, entities_fuel (by omega), entities_fuel (by omega)]
      cases Tk.entity x with
      | none => rfl
      | some c =>
        cases Tk.entities r with
        | none => rfl
        | some t => simp
end Go.Proofs.Ytomikblbfappnaa.Pure
