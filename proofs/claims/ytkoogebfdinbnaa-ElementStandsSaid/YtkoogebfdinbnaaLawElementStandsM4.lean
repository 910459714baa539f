/- Texts put together: what functions of the program compute, and plain words about them. -/
import Derived.Test.YtkoogebfdinbnaaLawElementStandsM1
import Derived.Test.YtkoogebfdinbnaaLawElementStandsM3
import Derived.Test.YtkoogebfdinbnaaLawElementStandsM2
import Derived.Test.YtkoogebfdinbnaaProg
import Derived.Test.YtkoogebfdinbnaaRows
import Derived.ChangeArms
import Derived.Deep.DeepHandedRow
import Derived.Shelf.Vars
import Derived.Below
import Derived.Deep.Draws
import Derived.Deep.AppendLies
import Derived.Maps.AppendAt
import Derived.OwnWalk
import Derived.Laws.BytesArg
import Derived.Laws.MakeOwn
import Derived.Laws.OwnMore
import Derived.Deep.OwnRows
import Derived.Tactics
import Derived.Lib.ConvBytes
import Derived.Laws.Slices
import Derived.WalkKit
import Derived.KernelRfl
import Derived.RowKit3
import Derived.Deep.LoopGhost
import Derived.Deep.QuietTactic
import Derived.BigQuiet
import Derived.WideLaws
import Derived.Deep.DeepCutAuto
import Derived.Deep.CutBlock
import Derived.Deep.RegionHeld3
import Derived.Laws.Rows
import Derived.Lib.AppendStr
import Derived.ArgAppend
import Derived.Laws.IdiomCopy
import Derived.OrdersHeld
import Derived.Laws.BitsLemmas
import Derived.RowKit
namespace Go.Proofs.Ytkoogebfdinbnaa.Q
open Go.RowKit Go.Proofs.YtkoogebfdinbnaaW.PrintWords Go.Proofs.YtkoogebfdinbnaaW.PrintLast Go.Proofs.YtkoogebfdinbnaaW.Own Go.Proofs.YtkoogebfdinbnaaW.PrintMore
attribute [local go_sem] max2_int min2_int max_two min_two max_three min_three max_four min_four   -- for this text's walks alone
set_option linter.unusedVariables false
set_option linter.unusedSimpArgs false
set_option maxHeartbeats 20000000
set_option maxRecDepth 100000
theorem tw_index : ∀ l : List UInt8, Lib.indexByte l 60 = if (l.takeWhile (· != 60)).length < l.length then ((l.takeWhile (· != 60)).length : Int) else -1
 | [] => rfl
 | c :: r => by
  have ih := tw_index r
  have hle := tw_le (p := fun x => x != 60) r
  by_cases hc : c = 60
  ·subst hc
   rw [Lib.indexByte, List.takeWhile_cons]
   simp
  have h1 : (c == 60) = false := by simpa using hc
  have h2 : (c != 60) = true := by simpa using hc
  rw [Lib.indexByte, h1, List.takeWhile_cons, h2]
  simp only [Bool.false_eq_true, if_false, if_true, List.length_cons]
  by_cases hl : (r.takeWhile (· != 60)).length < r.length
  ·rw [if_pos hl] at ih
   rw [ih, if_pos (show (r.takeWhile (· != 60)).length + 1 < r.length + 1 by omega), if_neg (by simp)]
   omega
  ·rw [if_neg hl] at ih
   rw [ih, if_neg (show ¬ (r.takeWhile (· != 60)).length + 1 < r.length + 1 by omega)]
   rfl
theorem tw_take {p : UInt8 → Bool} (l : List UInt8) : l.take (l.takeWhile p).length = l.takeWhile p := by
 conv => lhs; arg 2; rw [← List.takeWhile_append_dropWhile (p := p) (l := l)]
 exact List.take_left
theorem token_walk_text.y1 (B g : Nat) {ok : Nat → Prop} (l x : List UInt8) (L : List S40) (w : World) (h : WalkAt w B g ok (Tk.bs l) L) (hG : Glob w) (hl : l.length ≤ 100000) (hL : L.length ≤ 100000) (hok : ∀ k, w.heap.size ≤ k → ok k) (hf :  (l.takeWhile (· != 60)).length < l.length) (hv : Tk.entities (l.takeWhile (· != 60)) = some x) :
 Calls Try.prog 40 #[.pointer (some ⟨g, 0, none⟩)] w fun e w' => e = .returned (.bool true) ∧ WalkAt w' B g ok (Tk.bs (l.drop (l.takeWhile (· != 60)).length)) (L ++ [Tk.tk 3 [] x [] false]) ∧ Below B w w' := by
 have hpos := h.pos
 have hsz := h.size
 have hgeB := h.ge
 have hle := tw_le (p := fun x => x != 60) l
 have htk := tw_take (p := fun x => x != 60) l
 have hix := tw_index l
 rw [if_pos hf] at hix
 obtain ⟨t, ht⟩ : ∃ t, l.takeWhile (· != 60) = t := ⟨_, rfl⟩
 rw [ht] at hle htk hix hv hf ⊢
 have hl0 := bs_size l
 have hdr := bs_drop l t.length
 have hta := bs_take l t.length
 rw [htk] at hta
 obtain ⟨s, hs⟩ : ∃ s, s = Tk.bs l := ⟨_, rfl⟩
 rw [← hs] at hdr hta h hl0
 have CI : ∀ W, Calls Try.prog 58 #[.string s, .int .u8 60] W fun e w' => e = .returned (.int .i64 (t.length : Int)) ∧ W = w' := by
  intro W
  refine (Try.strings_IndexByte s 60 W).mono ?_
  rintro e w' ⟨rfl, rfl⟩
  refine ⟨?_, rfl⟩
  rw [show Lib.indexByte s.data.toList ((60 : Int).toNat.toUInt8) = (t.length : Int) from by rw [hs]; exact hix]
 obtain ⟨z, hz⟩ : ∃ z : Int, z = (t.length : Int) := ⟨_, rfl⟩
 rw [← hz] at CI
 have z0 : decide (z < 0) = false := decide_eq_false (by omega)
 have z1 := eq_true (show 0 ≤ z by omega)
 have z2 := eq_true (show z ≤ (s.size : Int) by omega)
 have hzt : z.toNat = t.length := by omega
 have CE : ∀ W, Glob W → Calls Try.prog 59 #[.string (s.extract 0 z.toNat)] W fun e w' => e = .returned (.tuple #[.string (Tk.bs x), .int .i64 0]) ∧ Below W.heap.size W w' := by
  intro W hW
  rw [hzt, hta]
  exact ent_f (x := (x, 0)) (entsV_some hv) (by omega) W hW
 have hex : s.extract z.toNat s.size = Tk.bs (l.drop t.length) := by rw [hzt, hdr]
 have HEX := Lib.hid hex
 have HG := Aside0.mk hG
 have c0 := h.cell0
 have H0 := Aside0.mk h
 clear h hG hv hf ht htk hix hta hdr hs hex hle hl0 hzt hz
 go_enter Try.func40, Try.ntmps40
 go_wp2_with (go_at_call 58; (with_reducible refine (CI _).mono ?_))
 rintro e w1 ⟨rfl, rfl⟩
 go_wp2_with (go_at_call 59; (with_reducible refine (CE _ HG.out).mono ?_))
 rintro e w2 ⟨rfl, b1⟩
 have H1 := Aside0.mk (H0.out.below b1)
 have B1 := Aside0.mk (b1.mono hsz)
 have S1 := Aside0.mk b1.size
 clear b1 H0
 have c1 := H1.out.cell0
 have f1 := H1.out.frozen 0
 have H2 := Aside0.mk (H1.out.left (s.extract z.toNat s.size))
 have B2 := Aside0.mk (B1.out.setCell (p := ⟨g, 0, none⟩) hgeB (.string (s.extract z.toNat s.size)))
 have S2 : w.heap.size ≤ (w2.setCell ⟨g, 0, none⟩ (.string (s.extract z.toNat s.size))).heap.size := by simpa using S1.out
 have S3 := Aside0.mk S2
 clear S2
 go_wp2_with (go_at_call 52; refine (token_walk_put.calls B g (fun _ => False) _ L (Tk.tk 3 [] x [] false) (.slice none 0 0) _ (H2.out.more (fun k _ hk => ⟨hk, fun h => h⟩)) (Kd.R_nil _ _ _ _ _) (fun _ h => h.elim) (fun k hk => hok k (Nat.le_trans S3.out hk)) hL).mono ?_)
 rintro e w4 ⟨rfl, h4, b4⟩
 have H4 := Aside0.mk h4
 have B4 := Aside0.mk (B2.out.trans b4)
 clear h4 b4
 go_wp2
 go_ret
 refine ⟨rfl, ?_, B4.out⟩
 rw [← HEX.out]
 exact H4.out
theorem token_walk_text.n1 (B g : Nat) {ok : Nat → Prop} (l : List UInt8) (L : List S40) (w : World) (h : WalkAt w B g ok (Tk.bs l) L) (hG : Glob w) (hl : l.length ≤ 100000) (hf :  (l.takeWhile (· != 60)).length < l.length) (hv : Tk.entities (l.takeWhile (· != 60)) = none) :
 Calls Try.prog 40 #[.pointer (some ⟨g, 0, none⟩)] w fun e w' => e = .returned (.bool false) ∧ Below B w w' := by
 have hpos := h.pos
 have hsz := h.size
 have hgeB := h.ge
 have hle := tw_le (p := fun x => x != 60) l
 have htk := tw_take (p := fun x => x != 60) l
 have hix := tw_index l
 rw [if_pos hf] at hix
 obtain ⟨t, ht⟩ : ∃ t, l.takeWhile (· != 60) = t := ⟨_, rfl⟩
 rw [ht] at hle htk hix hv hf
 have hl0 := bs_size l
 have hdr := bs_drop l t.length
 have hta := bs_take l t.length
 rw [htk] at hta
 obtain ⟨s, hs⟩ : ∃ s, s = Tk.bs l := ⟨_, rfl⟩
 rw [← hs] at hdr hta h hl0
 have CI : ∀ W, Calls Try.prog 58 #[.string s, .int .u8 60] W fun e w' => e = .returned (.int .i64 (t.length : Int)) ∧ W = w' := by
  intro W
  refine (Try.strings_IndexByte s 60 W).mono ?_
  rintro e w' ⟨rfl, rfl⟩
  refine ⟨?_, rfl⟩
  rw [show Lib.indexByte s.data.toList ((60 : Int).toNat.toUInt8) = (t.length : Int) from by rw [hs]; exact hix]
 obtain ⟨z, hz⟩ : ∃ z : Int, z = (t.length : Int) := ⟨_, rfl⟩
 rw [← hz] at CI
 have z0 : decide (z < 0) = false := decide_eq_false (by omega)
 have z1 := eq_true (show 0 ≤ z by omega)
 have z2 := eq_true (show z ≤ (s.size : Int) by omega)
 have hzt : z.toNat = t.length := by omega
 have CE : ∀ W, Glob W → Calls Try.prog 59 #[.string (s.extract 0 z.toNat)] W fun e w' => e = .returned (.tuple #[.string (Tk.bs []), .int .i64 5]) ∧ Below W.heap.size W w' := by
  intro W hW
  rw [hzt, hta]
  exact ent_f (x := ([], 5)) (entsV_none hv) (by omega) W hW
 have hex : s.extract z.toNat s.size = Tk.bs (l.drop t.length) := by rw [hzt, hdr]
 have HEX := Lib.hid hex
 have HG := Aside0.mk hG
 have c0 := h.cell0
 have H0 := Aside0.mk h
 clear h hG hv hf ht htk hix hta hdr hs hex hle hl0 hzt hz
 go_enter Try.func40, Try.ntmps40
 go_wp2_with (go_at_call 58; (with_reducible refine (CI _).mono ?_))
 rintro e w1 ⟨rfl, rfl⟩
 go_wp2_with (go_at_call 59; (with_reducible refine (CE _ HG.out).mono ?_))
 rintro e w2 ⟨rfl, b1⟩
 have H1 := Aside0.mk (H0.out.below b1)
 have B1 := Aside0.mk (b1.mono hsz)
 have S1 := Aside0.mk b1.size
 clear b1 H0
 have c1 := H1.out.cell0
 have f1 := H1.out.frozen 0
 have B2 := Aside0.mk (B1.out.setCell (p := ⟨g, 0, none⟩) hgeB (.string (s.extract z.toNat s.size)))
 go_wp2
 go_ret
 exact ⟨rfl, B2.out⟩
theorem token_walk_text.y0 (B g : Nat) {ok : Nat → Prop} (l x : List UInt8) (L : List S40) (w : World) (h : WalkAt w B g ok (Tk.bs l) L) (hG : Glob w) (hl : l.length ≤ 100000) (hL : L.length ≤ 100000) (hok : ∀ k, w.heap.size ≤ k → ok k) (hf : ¬ (l.takeWhile (· != 60)).length < l.length) (hv : Tk.entities (l.takeWhile (· != 60)) = some x) :
 Calls Try.prog 40 #[.pointer (some ⟨g, 0, none⟩)] w fun e w' => e = .returned (.bool true) ∧ WalkAt w' B g ok (Tk.bs (l.drop (l.takeWhile (· != 60)).length)) (L ++ [Tk.tk 3 [] x [] false]) ∧ Below B w w' := by
 have hpos := h.pos
 have hsz := h.size
 have hgeB := h.ge
 have hle := tw_le (p := fun x => x != 60) l
 have htk := tw_take (p := fun x => x != 60) l
 have hix := tw_index l
 rw [if_neg hf] at hix
 obtain ⟨t, ht⟩ : ∃ t, l.takeWhile (· != 60) = t := ⟨_, rfl⟩
 rw [ht] at hle htk hv hf ⊢
 have hl0 := bs_size l
 have hdr := bs_drop l t.length
 have hta := bs_take l t.length
 rw [htk] at hta
 obtain ⟨s, hs⟩ : ∃ s, s = Tk.bs l := ⟨_, rfl⟩
 rw [← hs] at hdr hta h hl0
 have CI : ∀ W, Calls Try.prog 58 #[.string s, .int .u8 60] W fun e w' => e = .returned (.int .i64 (-1)) ∧ W = w' := by
  intro W
  refine (Try.strings_IndexByte s 60 W).mono ?_
  rintro e w' ⟨rfl, rfl⟩
  refine ⟨?_, rfl⟩
  rw [show Lib.indexByte s.data.toList ((60 : Int).toNat.toUInt8) = (-1) from by rw [hs]; exact hix]
 have hts : t.length = l.length := by omega
 have hss : t.length = s.size := by omega
 obtain ⟨z, hz⟩ : ∃ z : Int, z = (s.size : Int) := ⟨_, rfl⟩
 have z0 : decide (z < 0) = false := decide_eq_false (by omega)
 have z1 := eq_true (show 0 ≤ z by omega)
 have z2 := eq_true (show z ≤ (s.size : Int) by omega)
 have hzt : z.toNat = t.length := by omega
 have CE : ∀ W, Glob W → Calls Try.prog 59 #[.string (s.extract 0 z.toNat)] W fun e w' => e = .returned (.tuple #[.string (Tk.bs x), .int .i64 0]) ∧ Below W.heap.size W w' := by
  intro W hW
  rw [hzt, hta]
  exact ent_f (x := (x, 0)) (entsV_some hv) (by omega) W hW
 have hex : s.extract z.toNat s.size = Tk.bs (l.drop t.length) := by rw [hzt, hdr]
 have HEX := Lib.hid hex
 have HG := Aside0.mk hG
 have c0 := h.cell0
 have H0 := Aside0.mk h
 have hzs : (s.size : Int) = z := hz.symm
 have HZ := Lib.hid hzs
 clear h hG hv hf ht htk hix hta hdr hs hex hle hl0 hzt hz hzs hts hss
 go_enter Try.func40, Try.ntmps40
 go_wp2_with (go_at_call 58; (with_reducible refine (CI _).mono ?_))
 rintro e w1 ⟨rfl, rfl⟩
 have hmz := HZ.out
 go_wp2_with (go_at_call 59; (with_reducible refine (CE _ HG.out).mono ?_))
 rintro e w2 ⟨rfl, b1⟩
 have H1 := Aside0.mk (H0.out.below b1)
 have B1 := Aside0.mk (b1.mono hsz)
 have S1 := Aside0.mk b1.size
 clear b1 H0
 have c1 := H1.out.cell0
 have f1 := H1.out.frozen 0
 have H2 := Aside0.mk (H1.out.left (s.extract z.toNat s.size))
 have B2 := Aside0.mk (B1.out.setCell (p := ⟨g, 0, none⟩) hgeB (.string (s.extract z.toNat s.size)))
 have S2 : w.heap.size ≤ (w2.setCell ⟨g, 0, none⟩ (.string (s.extract z.toNat s.size))).heap.size := by simpa using S1.out
 have S3 := Aside0.mk S2
 clear S2
 go_wp2_with (go_at_call 52; refine (token_walk_put.calls B g (fun _ => False) _ L (Tk.tk 3 [] x [] false) (.slice none 0 0) _ (H2.out.more (fun k _ hk => ⟨hk, fun h => h⟩)) (Kd.R_nil _ _ _ _ _) (fun _ h => h.elim) (fun k hk => hok k (Nat.le_trans S3.out hk)) hL).mono ?_)
 rintro e w4 ⟨rfl, h4, b4⟩
 have H4 := Aside0.mk h4
 have B4 := Aside0.mk (B2.out.trans b4)
 clear h4 b4
 go_wp2
 go_ret
 refine ⟨rfl, ?_, B4.out⟩
 rw [← HEX.out]
 exact H4.out
theorem token_walk_text.n0 (B g : Nat) {ok : Nat → Prop} (l : List UInt8) (L : List S40) (w : World) (h : WalkAt w B g ok (Tk.bs l) L) (hG : Glob w) (hl : l.length ≤ 100000) (hf : ¬ (l.takeWhile (· != 60)).length < l.length) (hv : Tk.entities (l.takeWhile (· != 60)) = none) :
 Calls Try.prog 40 #[.pointer (some ⟨g, 0, none⟩)] w fun e w' => e = .returned (.bool false) ∧ Below B w w' := by
 have hpos := h.pos
 have hsz := h.size
 have hgeB := h.ge
 have hle := tw_le (p := fun x => x != 60) l
 have htk := tw_take (p := fun x => x != 60) l
 have hix := tw_index l
 rw [if_neg hf] at hix
 obtain ⟨t, ht⟩ : ∃ t, l.takeWhile (· != 60) = t := ⟨_, rfl⟩
 rw [ht] at hle htk hv hf
 have hl0 := bs_size l
 have hdr := bs_drop l t.length
 have hta := bs_take l t.length
 rw [htk] at hta
 obtain ⟨s, hs⟩ : ∃ s, s = Tk.bs l := ⟨_, rfl⟩
 rw [← hs] at hdr hta h hl0
 have CI : ∀ W, Calls Try.prog 58 #[.string s, .int .u8 60] W fun e w' => e = .returned (.int .i64 (-1)) ∧ W = w' := by
  intro W
  refine (Try.strings_IndexByte s 60 W).mono ?_
  rintro e w' ⟨rfl, rfl⟩
  refine ⟨?_, rfl⟩
  rw [show Lib.indexByte s.data.toList ((60 : Int).toNat.toUInt8) = (-1) from by rw [hs]; exact hix]
 have hts : t.length = l.length := by omega
 have hss : t.length = s.size := by omega
 obtain ⟨z, hz⟩ : ∃ z : Int, z = (s.size : Int) := ⟨_, rfl⟩
 have z0 : decide (z < 0) = false := decide_eq_false (by omega)
 have z1 := eq_true (show 0 ≤ z by omega)
 have z2 := eq_true (show z ≤ (s.size : Int) by omega)
 have hzt : z.toNat = t.length := by omega
 have CE : ∀ W, Glob W → Calls Try.prog 59 #[.string (s.extract 0 z.toNat)] W fun e w' => e = .returned (.tuple #[.string (Tk.bs []), .int .i64 5]) ∧ Below W.heap.size W w' := by
  intro W hW
  rw [hzt, hta]
  exact ent_f (x := ([], 5)) (entsV_none hv) (by omega) W hW
 have hex : s.extract z.toNat s.size = Tk.bs (l.drop t.length) := by rw [hzt, hdr]
 have HEX := Lib.hid hex
 have HG := Aside0.mk hG
 have c0 := h.cell0
 have H0 := Aside0.mk h
 have hzs : (s.size : Int) = z := hz.symm
 have HZ := Lib.hid hzs
 clear h hG hv hf ht htk hix hta hdr hs hex hle hl0 hzt hz hzs hts hss
 go_enter Try.func40, Try.ntmps40
 go_wp2_with (go_at_call 58; (with_reducible refine (CI _).mono ?_))
 rintro e w1 ⟨rfl, rfl⟩
 have hmz := HZ.out
 go_wp2_with (go_at_call 59; (with_reducible refine (CE _ HG.out).mono ?_))
 rintro e w2 ⟨rfl, b1⟩
 have H1 := Aside0.mk (H0.out.below b1)
 have B1 := Aside0.mk (b1.mono hsz)
 have S1 := Aside0.mk b1.size
 clear b1 H0
 have c1 := H1.out.cell0
 have f1 := H1.out.frozen 0
 have B2 := Aside0.mk (B1.out.setCell (p := ⟨g, 0, none⟩) hgeB (.string (s.extract z.toNat s.size)))
 go_wp2
 go_ret
 exact ⟨rfl, B2.out⟩
theorem token_walk_text.all (B g : Nat) {ok : Nat → Prop} (l : List UInt8) (res : Option (S40 × List UInt8)) (L : List S40) (w : World) (h : WalkAt w B g ok (Tk.bs l) L) (hG : Glob w) (hl : l.length ≤ 100000) (hL : L.length ≤ 100000) (hok : ∀ k, w.heap.size ≤ k → ok k) (hx : Tk.text l = res) :
 Calls Try.prog 40 #[.pointer (some ⟨g, 0, none⟩)] w fun e w' => (∀ t r, res = some (t, r) → e = .returned (.bool true) ∧ WalkAt w' B g ok (Tk.bs r) (L ++ [t])) ∧ (res = none → e = .returned (.bool false)) ∧ Below B w w' := by
 unfold Tk.text at hx
 dsimp only at hx
 cases hv : Tk.entities (l.takeWhile (· != 60)) with
 | none =>
  rw [hv] at hx
  subst hx
  by_cases hf : (l.takeWhile (· != 60)).length < l.length
  ·refine (token_walk_text.n1 B g l L w h hG hl hf hv).mono ?_
   rintro e w' ⟨rfl, b⟩
   exact ⟨(fun t r h => by cases h), fun _ => rfl, b⟩
  ·refine (token_walk_text.n0 B g l L w h hG hl hf hv).mono ?_
   rintro e w' ⟨rfl, b⟩
   exact ⟨(fun t r h => by cases h), fun _ => rfl, b⟩
 | some x =>
  rw [hv] at hx
  subst hx
  by_cases hf : (l.takeWhile (· != 60)).length < l.length
  ·refine (token_walk_text.y1 B g l x L w h hG hl hL hok hf hv).mono ?_
   rintro e w' ⟨rfl, h1, b⟩
   refine ⟨fun t r h => ?_, (fun h => by cases h), b⟩
   obtain ⟨rfl, rfl⟩ := Prod.mk.inj (Option.some.inj h)
   exact ⟨rfl, h1⟩
  ·refine (token_walk_text.y0 B g l x L w h hG hl hL hok hf hv).mono ?_
   rintro e w' ⟨rfl, h1, b⟩
   refine ⟨fun t r h => ?_, (fun h => by cases h), b⟩
   obtain ⟨rfl, rfl⟩ := Prod.mk.inj (Option.some.inj h)
   exact ⟨rfl, h1⟩
theorem behind_le {x l r : List UInt8} (h : Tk.behind x l = some r) : r.length ≤ l.length := behind_len h
theorem token_walk_next.w0 (B g : Nat) {ok : Nat → Prop} (fst : Bool) (l : List UInt8) (res : Option (S40 × List UInt8)) (q : List UInt8) (L : List S40) (w : World) (h : WalkAt w B g ok (Tk.bs l) L) (hG : Glob w) (hl : l.length ≤ 100000) (hL : L.length ≤ 100000) (hok : ∀ k, w.heap.size ≤ k → ok k) (h0 : Tk.behind [60, 33, 45, 45] l = some q) (hx : Tk.comment q = res) :
 Calls Try.prog 24 #[.pointer (some ⟨g, 0, none⟩), .bool fst] w fun e w' => (∀ t r, res = some (t, r) → e = .returned (.bool true) ∧ WalkAt w' B g ok (Tk.bs r) (L ++ [t])) ∧ (res = none → e = .returned (.bool false)) ∧ Below B w w' := by
 have hpos := h.pos
 have HG := Aside0.mk hG
 have HX := Aside0.mk hx
 have H := Aside0.mk h
 have E0 := Aside0.mk h0
 have hlq : q.length ≤ 100000 := Nat.le_trans (behind_le h0) hl
 clear h hG hx h0
 have B0 := Aside0.mk (Below.refl B w)
 have S0 := Aside0.mk (Nat.le_refl w.heap.size)
 go_enter Try.func24, Try.ntmps24
 go_wp2_with (go_at_call 34; refine (token_walk_eat.yesK B g _ [60, 33, 45, 45] q L _ H.out E0.out).mono ?_)
 rintro e w0 ⟨rfl, h1, b1, k1⟩
 have Hn := Aside0.mk h1
 have HGn := Aside0.mk (HG.out.below b1 hpos)
 have Bn := Aside0.mk (B0.out.trans b1)
 have Sn := Aside0.mk (Nat.le_trans S0.out k1.1)
 clear h1 b1 k1 H HG B0 S0
 have H := Hn
 have HG := HGn
 have B0 := Bn
 have S0 := Sn
 clear Hn HGn Bn Sn
 have CF : Calls Try.prog 35 #[.pointer (some ⟨g, 0, none⟩)] w0 fun e w' => (∀ t r, res = some (t, r) → e = .returned (.bool true) ∧ WalkAt w' B g ok (Tk.bs r) (L ++ [t])) ∧ (res = none → e = .returned (.bool false)) ∧ Below B w0 w' := by
  cases hr : res with
  | none =>
   refine (token_walk_comment.no B g q L _ H.out HG.out (by omega) (HX.out.trans hr)).mono ?_
   rintro e w' ⟨rfl, b⟩
   exact ⟨(fun t r h => by cases h), fun _ => rfl, b⟩
  | some p =>
   obtain ⟨t0, r0⟩ := p
   refine (token_walk_comment.yes B g q r0 t0 L _ H.out HG.out (by omega) hL (fun k hk => hok k (Nat.le_trans S0.out hk)) (HX.out.trans hr)).mono ?_
   rintro e w' ⟨rfl, h1, b⟩
   refine ⟨fun t r h => ?_, (fun h => by cases h), b⟩
   obtain ⟨rfl, rfl⟩ := Prod.mk.inj (Option.some.inj h)
   exact ⟨rfl, h1⟩
 have CF1 := Aside0.mk CF
 clear CF
 go_wp2_with (go_at_call 35; refine CF1.out.mono ?_)
 rintro e wz ⟨hy, hn, bz⟩
 have BZ := Aside0.mk (B0.out.trans bz)
 clear bz
 cases hr : res with
 | none =>
  obtain rfl := hn hr
  clear hy hn
  go_wp2
  go_ret
  exact ⟨(fun t r h => by rw [hr] at h; cases h), fun _ => rfl, BZ.out⟩
 | some p =>
  obtain ⟨t0, r0⟩ := p
  obtain ⟨rfl, h1⟩ := hy t0 r0 hr
  have H1 := Aside0.mk h1
  clear hy hn h1
  go_wp2
  go_ret
  refine ⟨fun t r h => ?_, (fun h => by rw [hr] at h; cases h), BZ.out⟩
  rw [hr] at h
  obtain ⟨rfl, rfl⟩ := Prod.mk.inj (Option.some.inj h)
  exact ⟨rfl, H1.out⟩
theorem token_walk_next.w1 (B g : Nat) {ok : Nat → Prop} (fst : Bool) (l : List UInt8) (res : Option (S40 × List UInt8)) (q : List UInt8) (L : List S40) (w : World) (h : WalkAt w B g ok (Tk.bs l) L) (hG : Glob w) (hl : l.length ≤ 100000) (hL : L.length ≤ 100000) (hok : ∀ k, w.heap.size ≤ k → ok k) (h0 : Tk.behind [60, 33, 45, 45] l = none) (h1 : Tk.behind [60, 33, 91, 67, 68, 65, 84, 65, 91] l = some q) (hx : Tk.data q = res) :
 Calls Try.prog 24 #[.pointer (some ⟨g, 0, none⟩), .bool fst] w fun e w' => (∀ t r, res = some (t, r) → e = .returned (.bool true) ∧ WalkAt w' B g ok (Tk.bs r) (L ++ [t])) ∧ (res = none → e = .returned (.bool false)) ∧ Below B w w' := by
 have hpos := h.pos
 have HG := Aside0.mk hG
 have HX := Aside0.mk hx
 have H := Aside0.mk h
 have E0 := Aside0.mk h0
 have E1 := Aside0.mk h1
 have hlq : q.length ≤ 100000 := Nat.le_trans (behind_le h1) hl
 clear h hG hx h0 h1
 have B0 := Aside0.mk (Below.refl B w)
 have S0 := Aside0.mk (Nat.le_refl w.heap.size)
 go_enter Try.func24, Try.ntmps24
 go_wp2_with (go_at_call 34; refine (token_walk_eat.noK B g _ [60, 33, 45, 45] L _ H.out E0.out).mono ?_)
 rintro e w0 ⟨rfl, h1, b1, k1⟩
 have Hn := Aside0.mk h1
 have HGn := Aside0.mk (HG.out.below b1 hpos)
 have Bn := Aside0.mk (B0.out.trans b1)
 have Sn := Aside0.mk (Nat.le_trans S0.out k1.1)
 clear h1 b1 k1 H HG B0 S0
 have H := Hn
 have HG := HGn
 have B0 := Bn
 have S0 := Sn
 clear Hn HGn Bn Sn
 go_wp2_with (go_at_call 34; refine (token_walk_eat.yesK B g _ [60, 33, 91, 67, 68, 65, 84, 65, 91] q L _ H.out E1.out).mono ?_)
 rintro e w1 ⟨rfl, h1, b1, k1⟩
 have Hn := Aside0.mk h1
 have HGn := Aside0.mk (HG.out.below b1 hpos)
 have Bn := Aside0.mk (B0.out.trans b1)
 have Sn := Aside0.mk (Nat.le_trans S0.out k1.1)
 clear h1 b1 k1 H HG B0 S0
 have H := Hn
 have HG := HGn
 have B0 := Bn
 have S0 := Sn
 clear Hn HGn Bn Sn
 have CF : Calls Try.prog 36 #[.pointer (some ⟨g, 0, none⟩)] w1 fun e w' => (∀ t r, res = some (t, r) → e = .returned (.bool true) ∧ WalkAt w' B g ok (Tk.bs r) (L ++ [t])) ∧ (res = none → e = .returned (.bool false)) ∧ Below B w1 w' := by
  cases hr : res with
  | none =>
   refine (token_walk_data.no B g q L _ H.out HG.out (by omega) (HX.out.trans hr)).mono ?_
   rintro e w' ⟨rfl, b⟩
   exact ⟨(fun t r h => by cases h), fun _ => rfl, b⟩
  | some p =>
   obtain ⟨t0, r0⟩ := p
   refine (token_walk_data.yes B g q r0 t0 L _ H.out HG.out (by omega) hL (fun k hk => hok k (Nat.le_trans S0.out hk)) (HX.out.trans hr)).mono ?_
   rintro e w' ⟨rfl, h1, b⟩
   refine ⟨fun t r h => ?_, (fun h => by cases h), b⟩
   obtain ⟨rfl, rfl⟩ := Prod.mk.inj (Option.some.inj h)
   exact ⟨rfl, h1⟩
 have CF1 := Aside0.mk CF
 clear CF
 go_wp2_with (go_at_call 36; refine CF1.out.mono ?_)
 rintro e wz ⟨hy, hn, bz⟩
 have BZ := Aside0.mk (B0.out.trans bz)
 clear bz
 cases hr : res with
 | none =>
  obtain rfl := hn hr
  clear hy hn
  go_wp2
  go_ret
  exact ⟨(fun t r h => by rw [hr] at h; cases h), fun _ => rfl, BZ.out⟩
 | some p =>
  obtain ⟨t0, r0⟩ := p
  obtain ⟨rfl, h1⟩ := hy t0 r0 hr
  have H1 := Aside0.mk h1
  clear hy hn h1
  go_wp2
  go_ret
  refine ⟨fun t r h => ?_, (fun h => by rw [hr] at h; cases h), BZ.out⟩
  rw [hr] at h
  obtain ⟨rfl, rfl⟩ := Prod.mk.inj (Option.some.inj h)
  exact ⟨rfl, H1.out⟩
theorem token_walk_next.w2 (B g : Nat) {ok : Nat → Prop} (fst : Bool) (l : List UInt8) (res : Option (S40 × List UInt8)) (q : List UInt8) (L : List S40) (w : World) (h : WalkAt w B g ok (Tk.bs l) L) (hG : Glob w) (hl : l.length ≤ 100000) (hL : L.length ≤ 100000) (hok : ∀ k, w.heap.size ≤ k → ok k) (h0 : Tk.behind [60, 33, 45, 45] l = none) (h1 : Tk.behind [60, 33, 91, 67, 68, 65, 84, 65, 91] l = none) (h2 : Tk.behind [60, 63] l = some q) (hx : Tk.prolog fst q = res) :
 Calls Try.prog 24 #[.pointer (some ⟨g, 0, none⟩), .bool fst] w fun e w' => (∀ t r, res = some (t, r) → e = .returned (.bool true) ∧ WalkAt w' B g ok (Tk.bs r) (L ++ [t])) ∧ (res = none → e = .returned (.bool false)) ∧ Below B w w' := by
 have hpos := h.pos
 have HG := Aside0.mk hG
 have HX := Aside0.mk hx
 have H := Aside0.mk h
 have E0 := Aside0.mk h0
 have E1 := Aside0.mk h1
 have E2 := Aside0.mk h2
 have hlq : q.length ≤ 100000 := Nat.le_trans (behind_le h2) hl
 clear h hG hx h0 h1 h2
 have B0 := Aside0.mk (Below.refl B w)
 have S0 := Aside0.mk (Nat.le_refl w.heap.size)
 go_enter Try.func24, Try.ntmps24
 go_wp2_with (go_at_call 34; refine (token_walk_eat.noK B g _ [60, 33, 45, 45] L _ H.out E0.out).mono ?_)
 rintro e w0 ⟨rfl, h1, b1, k1⟩
 have Hn := Aside0.mk h1
 have HGn := Aside0.mk (HG.out.below b1 hpos)
 have Bn := Aside0.mk (B0.out.trans b1)
 have Sn := Aside0.mk (Nat.le_trans S0.out k1.1)
 clear h1 b1 k1 H HG B0 S0
 have H := Hn
 have HG := HGn
 have B0 := Bn
 have S0 := Sn
 clear Hn HGn Bn Sn
 go_wp2_with (go_at_call 34; refine (token_walk_eat.noK B g _ [60, 33, 91, 67, 68, 65, 84, 65, 91] L _ H.out E1.out).mono ?_)
 rintro e w1 ⟨rfl, h1, b1, k1⟩
 have Hn := Aside0.mk h1
 have HGn := Aside0.mk (HG.out.below b1 hpos)
 have Bn := Aside0.mk (B0.out.trans b1)
 have Sn := Aside0.mk (Nat.le_trans S0.out k1.1)
 clear h1 b1 k1 H HG B0 S0
 have H := Hn
 have HG := HGn
 have B0 := Bn
 have S0 := Sn
 clear Hn HGn Bn Sn
 go_wp2_with (go_at_call 34; refine (token_walk_eat.yesK B g _ [60, 63] q L _ H.out E2.out).mono ?_)
 rintro e w2 ⟨rfl, h1, b1, k1⟩
 have Hn := Aside0.mk h1
 have HGn := Aside0.mk (HG.out.below b1 hpos)
 have Bn := Aside0.mk (B0.out.trans b1)
 have Sn := Aside0.mk (Nat.le_trans S0.out k1.1)
 clear h1 b1 k1 H HG B0 S0
 have H := Hn
 have HG := HGn
 have B0 := Bn
 have S0 := Sn
 clear Hn HGn Bn Sn
 have CF : Calls Try.prog 37 #[.pointer (some ⟨g, 0, none⟩), .bool fst] w2 fun e w' => (∀ t r, res = some (t, r) → e = .returned (.bool true) ∧ WalkAt w' B g ok (Tk.bs r) (L ++ [t])) ∧ (res = none → e = .returned (.bool false)) ∧ Below B w2 w' := by
  cases hr : res with
  | none =>
   refine (token_walk_prolog.no B g fst q L _ H.out HG.out (by omega) (HX.out.trans hr)).mono ?_
   rintro e w' ⟨rfl, b⟩
   exact ⟨(fun t r h => by cases h), fun _ => rfl, b⟩
  | some p =>
   obtain ⟨t0, r0⟩ := p
   refine (token_walk_prolog.yes B g fst q r0 t0 L _ H.out HG.out (by omega) hL (fun k hk => hok k (Nat.le_trans S0.out hk)) (HX.out.trans hr)).mono ?_
   rintro e w' ⟨rfl, h1, b⟩
   refine ⟨fun t r h => ?_, (fun h => by cases h), b⟩
   obtain ⟨rfl, rfl⟩ := Prod.mk.inj (Option.some.inj h)
   exact ⟨rfl, h1⟩
 have CF1 := Aside0.mk CF
 clear CF
 go_wp2_with (go_at_call 37; refine CF1.out.mono ?_)
 rintro e wz ⟨hy, hn, bz⟩
 have BZ := Aside0.mk (B0.out.trans bz)
 clear bz
 cases hr : res with
 | none =>
  obtain rfl := hn hr
  clear hy hn
  go_wp2
  go_ret
  exact ⟨(fun t r h => by rw [hr] at h; cases h), fun _ => rfl, BZ.out⟩
 | some p =>
  obtain ⟨t0, r0⟩ := p
  obtain ⟨rfl, h1⟩ := hy t0 r0 hr
  have H1 := Aside0.mk h1
  clear hy hn h1
  go_wp2
  go_ret
  refine ⟨fun t r h => ?_, (fun h => by rw [hr] at h; cases h), BZ.out⟩
  rw [hr] at h
  obtain ⟨rfl, rfl⟩ := Prod.mk.inj (Option.some.inj h)
  exact ⟨rfl, H1.out⟩
theorem token_walk_next.w3 (B g : Nat) {ok : Nat → Prop} (fst : Bool) (l : List UInt8) (res : Option (S40 × List UInt8)) (q : List UInt8) (L : List S40) (w : World) (h : WalkAt w B g ok (Tk.bs l) L) (hG : Glob w) (hl : l.length ≤ 100000) (hL : L.length ≤ 100000) (hok : ∀ k, w.heap.size ≤ k → ok k) (h0 : Tk.behind [60, 33, 45, 45] l = none) (h1 : Tk.behind [60, 33, 91, 67, 68, 65, 84, 65, 91] l = none) (h2 : Tk.behind [60, 63] l = none) (h3 : Tk.behind [60, 47] l = some q) (hx : Tk.close q = res) :
 Calls Try.prog 24 #[.pointer (some ⟨g, 0, none⟩), .bool fst] w fun e w' => (∀ t r, res = some (t, r) → e = .returned (.bool true) ∧ WalkAt w' B g ok (Tk.bs r) (L ++ [t])) ∧ (res = none → e = .returned (.bool false)) ∧ Below B w w' := by
 have hpos := h.pos
 have HG := Aside0.mk hG
 have HX := Aside0.mk hx
 have H := Aside0.mk h
 have E0 := Aside0.mk h0
 have E1 := Aside0.mk h1
 have E2 := Aside0.mk h2
 have E3 := Aside0.mk h3
 have hlq : q.length ≤ 100000 := Nat.le_trans (behind_le h3) hl
 clear h hG hx h0 h1 h2 h3
 have B0 := Aside0.mk (Below.refl B w)
 have S0 := Aside0.mk (Nat.le_refl w.heap.size)
 go_enter Try.func24, Try.ntmps24
 go_wp2_with (go_at_call 34; refine (token_walk_eat.noK B g _ [60, 33, 45, 45] L _ H.out E0.out).mono ?_)
 rintro e w0 ⟨rfl, h1, b1, k1⟩
 have Hn := Aside0.mk h1
 have HGn := Aside0.mk (HG.out.below b1 hpos)
 have Bn := Aside0.mk (B0.out.trans b1)
 have Sn := Aside0.mk (Nat.le_trans S0.out k1.1)
 clear h1 b1 k1 H HG B0 S0
 have H := Hn
 have HG := HGn
 have B0 := Bn
 have S0 := Sn
 clear Hn HGn Bn Sn
 go_wp2_with (go_at_call 34; refine (token_walk_eat.noK B g _ [60, 33, 91, 67, 68, 65, 84, 65, 91] L _ H.out E1.out).mono ?_)
 rintro e w1 ⟨rfl, h1, b1, k1⟩
 have Hn := Aside0.mk h1
 have HGn := Aside0.mk (HG.out.below b1 hpos)
 have Bn := Aside0.mk (B0.out.trans b1)
 have Sn := Aside0.mk (Nat.le_trans S0.out k1.1)
 clear h1 b1 k1 H HG B0 S0
 have H := Hn
 have HG := HGn
 have B0 := Bn
 have S0 := Sn
 clear Hn HGn Bn Sn
 go_wp2_with (go_at_call 34; refine (token_walk_eat.noK B g _ [60, 63] L _ H.out E2.out).mono ?_)
 rintro e w2 ⟨rfl, h1, b1, k1⟩
 have Hn := Aside0.mk h1
 have HGn := Aside0.mk (HG.out.below b1 hpos)
 have Bn := Aside0.mk (B0.out.trans b1)
 have Sn := Aside0.mk (Nat.le_trans S0.out k1.1)
 clear h1 b1 k1 H HG B0 S0
 have H := Hn
 have HG := HGn
 have B0 := Bn
 have S0 := Sn
 clear Hn HGn Bn Sn
 go_wp2_with (go_at_call 34; refine (token_walk_eat.yesK B g _ [60, 47] q L _ H.out E3.out).mono ?_)
 rintro e w3 ⟨rfl, h1, b1, k1⟩
 have Hn := Aside0.mk h1
 have HGn := Aside0.mk (HG.out.below b1 hpos)
 have Bn := Aside0.mk (B0.out.trans b1)
 have Sn := Aside0.mk (Nat.le_trans S0.out k1.1)
 clear h1 b1 k1 H HG B0 S0
 have H := Hn
 have HG := HGn
 have B0 := Bn
 have S0 := Sn
 clear Hn HGn Bn Sn
 have CF : Calls Try.prog 38 #[.pointer (some ⟨g, 0, none⟩)] w3 fun e w' => (∀ t r, res = some (t, r) → e = .returned (.bool true) ∧ WalkAt w' B g ok (Tk.bs r) (L ++ [t])) ∧ (res = none → e = .returned (.bool false)) ∧ Below B w3 w' := by
  cases hr : res with
  | none =>
   refine (token_walk_end.no B g q L _ H.out HG.out (by omega) (HX.out.trans hr)).mono ?_
   rintro e w' ⟨rfl, b⟩
   exact ⟨(fun t r h => by cases h), fun _ => rfl, b⟩
  | some p =>
   obtain ⟨t0, r0⟩ := p
   refine (token_walk_end.yes B g q r0 t0 L _ H.out HG.out (by omega) hL (fun k hk => hok k (Nat.le_trans S0.out hk)) (HX.out.trans hr)).mono ?_
   rintro e w' ⟨rfl, h1, b⟩
   refine ⟨fun t r h => ?_, (fun h => by cases h), b⟩
   obtain ⟨rfl, rfl⟩ := Prod.mk.inj (Option.some.inj h)
   exact ⟨rfl, h1⟩
 have CF1 := Aside0.mk CF
 clear CF
 go_wp2_with (go_at_call 38; refine CF1.out.mono ?_)
 rintro e wz ⟨hy, hn, bz⟩
 have BZ := Aside0.mk (B0.out.trans bz)
 clear bz
 cases hr : res with
 | none =>
  obtain rfl := hn hr
  clear hy hn
  go_wp2
  go_ret
  exact ⟨(fun t r h => by rw [hr] at h; cases h), fun _ => rfl, BZ.out⟩
 | some p =>
  obtain ⟨t0, r0⟩ := p
  obtain ⟨rfl, h1⟩ := hy t0 r0 hr
  have H1 := Aside0.mk h1
  clear hy hn h1
  go_wp2
  go_ret
  refine ⟨fun t r h => ?_, (fun h => by rw [hr] at h; cases h), BZ.out⟩
  rw [hr] at h
  obtain ⟨rfl, rfl⟩ := Prod.mk.inj (Option.some.inj h)
  exact ⟨rfl, H1.out⟩
theorem token_walk_next.w4 (B g : Nat) {ok : Nat → Prop} (fst : Bool) (l : List UInt8) (res : Option (S40 × List UInt8)) (q : List UInt8) (L : List S40) (w : World) (h : WalkAt w B g ok (Tk.bs l) L) (hG : Glob w) (hl : l.length ≤ 100000) (hL : L.length ≤ 100000) (hok : ∀ k, w.heap.size ≤ k → ok k) (h0 : Tk.behind [60, 33, 45, 45] l = none) (h1 : Tk.behind [60, 33, 91, 67, 68, 65, 84, 65, 91] l = none) (h2 : Tk.behind [60, 63] l = none) (h3 : Tk.behind [60, 47] l = none) (h4 : Tk.behind [60] l = some q) (hx : Tk.opening q = res) :
 Calls Try.prog 24 #[.pointer (some ⟨g, 0, none⟩), .bool fst] w fun e w' => (∀ t r, res = some (t, r) → e = .returned (.bool true) ∧ WalkAt w' B g ok (Tk.bs r) (L ++ [t])) ∧ (res = none → e = .returned (.bool false)) ∧ Below B w w' := by
 have hpos := h.pos
 have HG := Aside0.mk hG
 have HX := Aside0.mk hx
 have H := Aside0.mk h
 have E0 := Aside0.mk h0
 have E1 := Aside0.mk h1
 have E2 := Aside0.mk h2
 have E3 := Aside0.mk h3
 have E4 := Aside0.mk h4
 have hlq : q.length ≤ 100000 := Nat.le_trans (behind_le h4) hl
 clear h hG hx h0 h1 h2 h3 h4
 have B0 := Aside0.mk (Below.refl B w)
 have S0 := Aside0.mk (Nat.le_refl w.heap.size)
 go_enter Try.func24, Try.ntmps24
 go_wp2_with (go_at_call 34; refine (token_walk_eat.noK B g _ [60, 33, 45, 45] L _ H.out E0.out).mono ?_)
 rintro e w0 ⟨rfl, h1, b1, k1⟩
 have Hn := Aside0.mk h1
 have HGn := Aside0.mk (HG.out.below b1 hpos)
 have Bn := Aside0.mk (B0.out.trans b1)
 have Sn := Aside0.mk (Nat.le_trans S0.out k1.1)
 clear h1 b1 k1 H HG B0 S0
 have H := Hn
 have HG := HGn
 have B0 := Bn
 have S0 := Sn
 clear Hn HGn Bn Sn
 go_wp2_with (go_at_call 34; refine (token_walk_eat.noK B g _ [60, 33, 91, 67, 68, 65, 84, 65, 91] L _ H.out E1.out).mono ?_)
 rintro e w1 ⟨rfl, h1, b1, k1⟩
 have Hn := Aside0.mk h1
 have HGn := Aside0.mk (HG.out.below b1 hpos)
 have Bn := Aside0.mk (B0.out.trans b1)
 have Sn := Aside0.mk (Nat.le_trans S0.out k1.1)
 clear h1 b1 k1 H HG B0 S0
 have H := Hn
 have HG := HGn
 have B0 := Bn
 have S0 := Sn
 clear Hn HGn Bn Sn
 go_wp2_with (go_at_call 34; refine (token_walk_eat.noK B g _ [60, 63] L _ H.out E2.out).mono ?_)
 rintro e w2 ⟨rfl, h1, b1, k1⟩
 have Hn := Aside0.mk h1
 have HGn := Aside0.mk (HG.out.below b1 hpos)
 have Bn := Aside0.mk (B0.out.trans b1)
 have Sn := Aside0.mk (Nat.le_trans S0.out k1.1)
 clear h1 b1 k1 H HG B0 S0
 have H := Hn
 have HG := HGn
 have B0 := Bn
 have S0 := Sn
 clear Hn HGn Bn Sn
 go_wp2_with (go_at_call 34; refine (token_walk_eat.noK B g _ [60, 47] L _ H.out E3.out).mono ?_)
 rintro e w3 ⟨rfl, h1, b1, k1⟩
 have Hn := Aside0.mk h1
 have HGn := Aside0.mk (HG.out.below b1 hpos)
 have Bn := Aside0.mk (B0.out.trans b1)
 have Sn := Aside0.mk (Nat.le_trans S0.out k1.1)
 clear h1 b1 k1 H HG B0 S0
 have H := Hn
 have HG := HGn
 have B0 := Bn
 have S0 := Sn
 clear Hn HGn Bn Sn
 go_wp2_with (go_at_call 34; refine (token_walk_eat.yesK B g _ [60] q L _ H.out E4.out).mono ?_)
 rintro e w4 ⟨rfl, h1, b1, k1⟩
 have Hn := Aside0.mk h1
 have HGn := Aside0.mk (HG.out.below b1 hpos)
 have Bn := Aside0.mk (B0.out.trans b1)
 have Sn := Aside0.mk (Nat.le_trans S0.out k1.1)
 clear h1 b1 k1 H HG B0 S0
 have H := Hn
 have HG := HGn
 have B0 := Bn
 have S0 := Sn
 clear Hn HGn Bn Sn
 go_wp2_with (go_at_call 39; refine (token_walk_begin.all B g q res L _ H.out HG.out hlq hL (fun k hk => hok k (Nat.le_trans S0.out hk)) HX.out).mono ?_)
 rintro e wz ⟨hy, hn, bz⟩
 have BZ := Aside0.mk (B0.out.trans bz)
 clear bz
 cases hr : res with
 | none =>
  obtain rfl := hn hr
  clear hy hn
  go_wp2
  go_ret
  exact ⟨(fun t r h => by rw [hr] at h; cases h), fun _ => rfl, BZ.out⟩
 | some p =>
  obtain ⟨t0, r0⟩ := p
  obtain ⟨rfl, h1⟩ := hy t0 r0 hr
  have H1 := Aside0.mk h1
  clear hy hn h1
  go_wp2
  go_ret
  refine ⟨fun t r h => ?_, (fun h => by rw [hr] at h; cases h), BZ.out⟩
  rw [hr] at h
  obtain ⟨rfl, rfl⟩ := Prod.mk.inj (Option.some.inj h)
  exact ⟨rfl, H1.out⟩
theorem token_walk_next.w5 (B g : Nat) {ok : Nat → Prop} (fst : Bool) (l : List UInt8) (res : Option (S40 × List UInt8)) (L : List S40) (w : World) (h : WalkAt w B g ok (Tk.bs l) L) (hG : Glob w) (hl : l.length ≤ 100000) (hL : L.length ≤ 100000) (hok : ∀ k, w.heap.size ≤ k → ok k) (h0 : Tk.behind [60, 33, 45, 45] l = none) (h1 : Tk.behind [60, 33, 91, 67, 68, 65, 84, 65, 91] l = none) (h2 : Tk.behind [60, 63] l = none) (h3 : Tk.behind [60, 47] l = none) (h4 : Tk.behind [60] l = none) (hx : Tk.text l = res) :
 Calls Try.prog 24 #[.pointer (some ⟨g, 0, none⟩), .bool fst] w fun e w' => (∀ t r, res = some (t, r) → e = .returned (.bool true) ∧ WalkAt w' B g ok (Tk.bs r) (L ++ [t])) ∧ (res = none → e = .returned (.bool false)) ∧ Below B w w' := by
 have hpos := h.pos
 have HG := Aside0.mk hG
 have HX := Aside0.mk hx
 have H := Aside0.mk h
 have E0 := Aside0.mk h0
 have E1 := Aside0.mk h1
 have E2 := Aside0.mk h2
 have E3 := Aside0.mk h3
 have E4 := Aside0.mk h4
 clear h hG hx h0 h1 h2 h3 h4
 have B0 := Aside0.mk (Below.refl B w)
 have S0 := Aside0.mk (Nat.le_refl w.heap.size)
 go_enter Try.func24, Try.ntmps24
 go_wp2_with (go_at_call 34; refine (token_walk_eat.noK B g _ [60, 33, 45, 45] L _ H.out E0.out).mono ?_)
 rintro e w0 ⟨rfl, h1, b1, k1⟩
 have Hn := Aside0.mk h1
 have HGn := Aside0.mk (HG.out.below b1 hpos)
 have Bn := Aside0.mk (B0.out.trans b1)
 have Sn := Aside0.mk (Nat.le_trans S0.out k1.1)
 clear h1 b1 k1 H HG B0 S0
 have H := Hn
 have HG := HGn
 have B0 := Bn
 have S0 := Sn
 clear Hn HGn Bn Sn
 go_wp2_with (go_at_call 34; refine (token_walk_eat.noK B g _ [60, 33, 91, 67, 68, 65, 84, 65, 91] L _ H.out E1.out).mono ?_)
 rintro e w1 ⟨rfl, h1, b1, k1⟩
 have Hn := Aside0.mk h1
 have HGn := Aside0.mk (HG.out.below b1 hpos)
 have Bn := Aside0.mk (B0.out.trans b1)
 have Sn := Aside0.mk (Nat.le_trans S0.out k1.1)
 clear h1 b1 k1 H HG B0 S0
 have H := Hn
 have HG := HGn
 have B0 := Bn
 have S0 := Sn
 clear Hn HGn Bn Sn
 go_wp2_with (go_at_call 34; refine (token_walk_eat.noK B g _ [60, 63] L _ H.out E2.out).mono ?_)
 rintro e w2 ⟨rfl, h1, b1, k1⟩
 have Hn := Aside0.mk h1
 have HGn := Aside0.mk (HG.out.below b1 hpos)
 have Bn := Aside0.mk (B0.out.trans b1)
 have Sn := Aside0.mk (Nat.le_trans S0.out k1.1)
 clear h1 b1 k1 H HG B0 S0
 have H := Hn
 have HG := HGn
 have B0 := Bn
 have S0 := Sn
 clear Hn HGn Bn Sn
 go_wp2_with (go_at_call 34; refine (token_walk_eat.noK B g _ [60, 47] L _ H.out E3.out).mono ?_)
 rintro e w3 ⟨rfl, h1, b1, k1⟩
 have Hn := Aside0.mk h1
 have HGn := Aside0.mk (HG.out.below b1 hpos)
 have Bn := Aside0.mk (B0.out.trans b1)
 have Sn := Aside0.mk (Nat.le_trans S0.out k1.1)
 clear h1 b1 k1 H HG B0 S0
 have H := Hn
 have HG := HGn
 have B0 := Bn
 have S0 := Sn
 clear Hn HGn Bn Sn
 go_wp2_with (go_at_call 34; refine (token_walk_eat.noK B g _ [60] L _ H.out E4.out).mono ?_)
 rintro e w4 ⟨rfl, h1, b1, k1⟩
 have Hn := Aside0.mk h1
 have HGn := Aside0.mk (HG.out.below b1 hpos)
 have Bn := Aside0.mk (B0.out.trans b1)
 have Sn := Aside0.mk (Nat.le_trans S0.out k1.1)
 clear h1 b1 k1 H HG B0 S0
 have H := Hn
 have HG := HGn
 have B0 := Bn
 have S0 := Sn
 clear Hn HGn Bn Sn
 go_wp2_with (go_at_call 40; refine (token_walk_text.all B g l res L _ H.out HG.out hl hL (fun k hk => hok k (Nat.le_trans S0.out hk)) HX.out).mono ?_)
 rintro e wz ⟨hy, hn, bz⟩
 have BZ := Aside0.mk (B0.out.trans bz)
 clear bz
 cases hr : res with
 | none =>
  obtain rfl := hn hr
  clear hy hn
  go_wp2
  go_ret
  exact ⟨(fun t r h => by rw [hr] at h; cases h), fun _ => rfl, BZ.out⟩
 | some p =>
  obtain ⟨t0, r0⟩ := p
  obtain ⟨rfl, h1⟩ := hy t0 r0 hr
  have H1 := Aside0.mk h1
  clear hy hn h1
  go_wp2
  go_ret
  refine ⟨fun t r h => ?_, (fun h => by rw [hr] at h; cases h), BZ.out⟩
  rw [hr] at h
  obtain ⟨rfl, rfl⟩ := Prod.mk.inj (Option.some.inj h)
  exact ⟨rfl, H1.out⟩
theorem token_walk_next.all (B g : Nat) {ok : Nat → Prop} (fst : Bool) (l : List UInt8) (res : Option (S40 × List UInt8)) (L : List S40) (w : World) (h : WalkAt w B g ok (Tk.bs l) L) (hG : Glob w) (hl : l.length ≤ 100000) (hL : L.length ≤ 100000) (hok : ∀ k, w.heap.size ≤ k → ok k) (hx : Tk.next fst l = res) :
 Calls Try.prog 24 #[.pointer (some ⟨g, 0, none⟩), .bool fst] w fun e w' => (∀ t r, res = some (t, r) → e = .returned (.bool true) ∧ WalkAt w' B g ok (Tk.bs r) (L ++ [t])) ∧ (res = none → e = .returned (.bool false)) ∧ Below B w w' := by
 unfold Tk.next at hx
 cases h0 : Tk.behind [60, 33, 45, 45] l with
 | some q => rw [h0] at hx; exact token_walk_next.w0 B g fst l res q L w h hG hl hL hok h0 hx
 | none =>
  rw [h0] at hx
  dsimp only at hx
  cases h1 : Tk.behind [60, 33, 91, 67, 68, 65, 84, 65, 91] l with
  | some q => rw [h1] at hx; exact token_walk_next.w1 B g fst l res q L w h hG hl hL hok h0 h1 hx
  | none =>
   rw [h1] at hx
   dsimp only at hx
   cases h2 : Tk.behind [60, 63] l with
   | some q => rw [h2] at hx; exact token_walk_next.w2 B g fst l res q L w h hG hl hL hok h0 h1 h2 hx
   | none =>
    rw [h2] at hx
    dsimp only at hx
    cases h3 : Tk.behind [60, 47] l with
    | some q => rw [h3] at hx; exact token_walk_next.w3 B g fst l res q L w h hG hl hL hok h0 h1 h2 h3 hx
    | none =>
     rw [h3] at hx
     dsimp only at hx
     cases h4 : Tk.behind [60] l with
     | some q => rw [h4] at hx; exact token_walk_next.w4 B g fst l res q L w h hG hl hL hok h0 h1 h2 h3 h4 hx
     | none =>
      rw [h4] at hx
      dsimp only at hx
      exact token_walk_next.w5 B g fst l res L w h hG hl hL hok h0 h1 h2 h3 h4 hx
theorem allowed_f (c : UInt8) : chars_Allowed.f (c.toNat : Int) = some (Tk.allowed c) := Tk.bytes_all (by kernel_rfl) c
def badB (c : UInt8) : Bool := !Tk.allowed c
theorem token_Split.clo (c : UInt8) (x : Int) (hx : x = (c.toNat : Int)) (w : World) (hG : Glob w) :
 Calls Try.prog 22 #[.int .u8 x] w fun e w' => e = .returned (.bool (badB c)) ∧ Below w.heap.size w w' := by
 have hf := allowed_f c
 rw [← hx] at hf
 obtain ⟨b, hb⟩ : ∃ b, Tk.allowed c = b := ⟨_, rfl⟩
 have hbb : badB c = !b := by unfold badB; rw [hb]
 rw [hb] at hf
 rw [hbb]
 have HF := Aside0.mk hf
 have HG := Aside0.mk hG
 clear hf hG hb hbb hx
 go_enter Try.func22, Try.ntmps22
 go_wp2_with (first | (go_at_call 23; (with_reducible refine (chars_Allowed.calls x b _ HG.out HF.out).mono ?_); rintro e w1 ⟨rfl, ⟨nd, rfl⟩⟩))
 go_ret
 exact ⟨rfl, pw_below_drewN (Below.refl _ _) nd⟩
theorem bytes_rd (l : List UInt8) (i : Nat) (h : i < l.length) : rd (bytesOf (Tk.bs l)) (i : Int) = (l[i].toNat : Int) := by rw [rd_bytesOf, bs_bt l i h]
theorem token_Split.ix (A0 : Option Addr) (c0 : Nat) (l : List UInt8) (w : World) (hr0 : Kd.C (Kd.int .u8) w A0 l.length (bytesOf (Tk.bs l))) (hlen : l.length ≤ 1000000) (hG : Glob w) :
 Calls Try.prog 32 #[.slice A0 l.length c0, .func (.func 22) #[] #[]] w fun e w' => (∃ r : Int, e = .returned (.int .i64 r) ∧ decide (0 ≤ r) = l.any badB) ∧ Below w.heap.size w w' := by
 have HR0 := Aside0.mk hr0
 have HG := Aside0.mk hG
 clear hr0 hG
 go_enter Try.func32, Try.ntmps32
 go_wp2
 go_loopg [8] (l.length + 1) (fun gk v8 w' => ∃ (i : Nat) (x : Int), i ≤ l.length ∧ i + gk = l.length + 1 ∧ v8 = .int .i64 x ∧ Aside0 (x = (i : Int)) ∧ Aside0 ((l.take i).any badB = false) ∧ Aside0 (Below w.heap.size w w'))
 case atStart => exact ⟨0, 0, by omega, by omega, by first | rfl | (simp; done), ⟨rfl⟩, ⟨by rw [List.take_zero]; rfl⟩, ⟨Below.refl _ _⟩⟩
 obtain ⟨i, x, hi, hgk, rfl, HX, HA, HB⟩ := hrel
 have hxi := HX.out
 by_cases hlt : i < l.length
 rotate_left
 ·obtain rfl : i = l.length := by omega
  have d1 : decide (x < (l.length : Int)) = false := decide_eq_false (by omega)
  have hall : l.any badB = false := by have := HA.out; rwa [List.take_length] at this
  have HALL := Lib.hid hall
  clear hall hxi
  go_wp2
  go_ret
  exact ⟨⟨_, rfl, by rw [HALL.out]; rfl⟩, HB.out⟩
 obtain ⟨g1, rfl⟩ : ∃ g1, gk = g1 + 1 := ⟨gk - 1, by omega⟩
 have d1 : decide (x < (l.length : Int)) = true := decide_eq_true (by omega)
 obtain ⟨ad, e_, hx0⟩ := Kd.at_int HR0.out x (by omega) (by omega)
 cases e_
 obtain ⟨y, hy⟩ : ∃ y, rd (bytesOf (Tk.bs l)) x = y := ⟨_, rfl⟩
 have hyc : y = (l[i].toNat : Int) := by rw [← hy, hxi, bytes_rd l i hlt]
 rw [hy] at hx0
 replace hx0 := (HB.out.cell (World.block_lt_of_cell? w _ hx0)).trans hx0
 have p_ := eq_true (show 0 ≤ x by omega)
 have q_ := eq_true (show x < (l.length : Int) by omega)
 have hat := any_take badB l i hlt
 rw [HA.out, Bool.false_or] at hat
 have C2 := token_Split.clo l[i] y hyc wr (HG.out.step HB.out)
 cases hps : badB l[i] with
 | true =>
  rw [hps] at C2
  have hall : l.any badB = true := any_hit hlt hps
  have HALL := Lib.hid hall
  have HX0 : decide (0 ≤ x) = true := decide_eq_true (by omega)
  have HXX := Lib.hid HX0
  have C3 := Aside0.mk C2
  clear hps hall hat hxi C2 HX0 hy hyc
  go_wp2_with (first | (go_at_call 22; (with_reducible refine (C3.out).mono ?_); rintro e w4 ⟨rfl, hb⟩; have B4 := Aside0.mk hb; clear hb))
  go_ret
  exact ⟨⟨_, rfl, by rw [HALL.out, HXX.out]⟩, below_step HB.out B4.out⟩
 | false =>
  rw [hps] at C2 hat
  have HAT := Aside0.mk hat
  have C3 := Aside0.mk C2
  have hw1 : wrap64 (x + 1) = ((i + 1 : Nat) : Int) := by unfold wrap64; omega
  have HW1 := Aside0.mk hw1
  clear hps hat hxi C2 hw1 hy hyc
  go_wp2_with (first | (go_at_call 22; (with_reducible refine (C3.out).mono ?_); rintro e w4 ⟨rfl, hb⟩; have B4 := Aside0.mk hb; clear hb))
  go_roundg g1
  case measure => omega
  case rel => exact ⟨i + 1, _, by omega, by omega, by first | rfl | (simp; done), HW1, HAT, ⟨below_step HB.out B4.out⟩⟩
theorem token_Split.has (A0 : Option Addr) (c0 : Nat) (l : List UInt8) (w : World) (hr0 : Kd.C (Kd.int .u8) w A0 l.length (bytesOf (Tk.bs l))) (hlen : l.length ≤ 1000000) (hG : Glob w) :
 Calls Try.prog 21 #[.slice A0 l.length c0, .func (.func 22) #[] #[]] w fun e w' => e = .returned (.bool (l.any badB)) ∧ Below w.heap.size w w' := by
 have C1 := Aside0.mk (token_Split.ix A0 c0 l w hr0 hlen hG)
 obtain ⟨b, hb⟩ : ∃ b, b = l.any badB := ⟨_, rfl⟩
 rw [← hb] at C1 ⊢
 clear hr0 hG hb
 go_enter Try.func21, Try.ntmps21
 go_wp2_with (first | (go_at_call 32; (with_reducible refine C1.out.mono ?_); rintro e w4 ⟨⟨r, rfl, hr⟩, hb⟩; have HB := Aside0.mk hb; have HR := Lib.hid hr; clear hb hr))
 go_ret
 refine ⟨?_, HB.out⟩
 rw [← HR.out]
 first | rfl | (simp; done)
theorem attrs_len : ∀ (n : Nat) (nm : List UInt8) (ys : List S68) (l : List UInt8) (t : S40) (r : List UInt8), Tk.attrs n nm ys l = some (t, r) → r.length ≤ l.length
 | 0, _, _, _, _, _, h => by simp [Tk.attrs] at h
 | n + 1, nm, ys, l, t, r, h => by
  rw [Tk.attrs] at h
  (try dsimp only at h)
  have hs := skip_len l
  cases h1 : Tk.behind [62] (Tk.skip l) with
  | some q =>
   rw [h1] at h
   obtain ⟨_, rfl⟩ := Prod.mk.inj (Option.some.inj h)
   exact Nat.le_trans (behind_len h1) hs
  | none =>
   rw [h1] at h
   (try dsimp only at h)
   cases h2 : Tk.behind [47, 62] (Tk.skip l) with
   | some q =>
    rw [h2] at h
    obtain ⟨_, rfl⟩ := Prod.mk.inj (Option.some.inj h)
    exact Nat.le_trans (behind_len h2) hs
   | none =>
    rw [h2] at h
    (try dsimp only at h)
    split at h
    ·cases h
    ·obtain ⟨⟨x, q⟩, h3, h⟩ := Option.bind_eq_some_iff.1 h
     (try dsimp only at h)
     split at h
     ·cases h
     ·have := attrs_len n nm _ q t r h
      have := attr_len h3
      omega
theorem next_len {fst : Bool} {l r : List UInt8} {t : S40} (hl : l ≠ []) (h : Tk.next fst l = some (t, r)) : r.length < l.length := by
 unfold Tk.next at h
 cases h1 : Tk.behind [60, 33, 45, 45] l with
 | some q =>
  rw [h1] at h
  have e := behind_sum h1
  unfold Tk.comment at h
  obtain ⟨⟨a, b⟩, h2, h⟩ := Option.bind_eq_some_iff.1 h
  (try dsimp only at h)
  split at h
  ·cases h
  ·obtain ⟨_, rfl⟩ := Prod.mk.inj (Option.some.inj h)
   have := (upto_len h2).2
   simp only [List.length_cons, List.length_nil] at e
   (try dsimp only)
   omega
 | none =>
 rw [h1] at h
 (try dsimp only at h)
 cases h1 : Tk.behind [60, 33, 91, 67, 68, 65, 84, 65, 91] l with
 | some q =>
  rw [h1] at h
  have e := behind_sum h1
  obtain ⟨⟨a, b⟩, h2, h⟩ := Option.map_eq_some_iff.1 (show (Tk.upto [93, 93, 62] q).map _ = some (t, r) from h)
  obtain ⟨_, rfl⟩ := Prod.mk.inj h
  have := (upto_len h2).2
  simp only [List.length_cons, List.length_nil] at e
  (try dsimp only)
  omega
 | none =>
 rw [h1] at h
 (try dsimp only at h)
 cases h1 : Tk.behind [60, 63] l with
 | some q =>
  rw [h1] at h
  have e := behind_sum h1
  obtain ⟨⟨a, b⟩, h2, h⟩ := Option.bind_eq_some_iff.1 (show (Tk.upto [63, 62] q).bind _ = some (t, r) from h)
  (try dsimp only at h)
  split at h
  ·obtain ⟨_, rfl⟩ := Prod.mk.inj (Option.some.inj h)
   have := (upto_len h2).2
   simp only [List.length_cons, List.length_nil] at e
   (try dsimp only)
   omega
  ·cases h
 | none =>
 rw [h1] at h
 (try dsimp only at h)
 cases h1 : Tk.behind [60, 47] l with
 | some q =>
  rw [h1] at h
  have e := behind_sum h1
  (try dsimp only at h)
  unfold Tk.close at h
  split at h
  ·cases h
  ·obtain ⟨b, h2, h⟩ := Option.map_eq_some_iff.1 h
   obtain ⟨_, rfl⟩ := Prod.mk.inj h
   have e2 := behind_len h2
   have e3 := skip_len (q.drop (Tk.head q).length)
   rw [List.length_drop] at e3
   simp only [List.length_cons, List.length_nil] at e
   omega
 | none =>
 rw [h1] at h
 (try dsimp only at h)
 cases h1 : Tk.behind [60] l with
 | some q =>
  rw [h1] at h
  have e := behind_sum h1
  (try dsimp only at h)
  unfold Tk.opening at h
  split at h
  ·cases h
  ·have e2 := attrs_len _ _ _ _ _ _ h
   rw [List.length_drop] at e2
   simp only [List.length_cons, List.length_nil] at e
   omega
 | none =>
 rw [h1] at h
 (try dsimp only at h)
 unfold Tk.text at h
 (try dsimp only at h)
 obtain ⟨x, _, h⟩ := Option.map_eq_some_iff.1 h
 obtain ⟨_, rfl⟩ := Prod.mk.inj h
 cases l with
 | nil => exact absurd rfl hl
 | cons c q =>
  have hc : (c != 60) = true := by
   by_cases hc : c = 60
   ·subst hc; simp [Tk.behind, List.isPrefixOf] at h1
   ·simpa using hc
  rw [List.takeWhile_cons, if_pos hc, List.length_drop, List.length_cons, List.length_cons]
  omega
def token_Split.f (a0 : ByteArray) : Option (List S40 × Int) := if a0.size ≤ 9223372036854775807 then some (Tk.split a0.data.toList) else none
theorem token_Split.loop (l : List UInt8) (P : Option (List S40)) (hl : l.length ≤ 20000) (hbad : l.any badB = false) (hP : Tk.pieces (l.length + 1) true l = P) (w : World) (hG : Glob w) :
 Calls Try.prog 14 #[.string (Tk.bs l)] w fun e w' => (∀ t, P = some t → ∃ v0_ : Value, e = .returned (.tuple #[v0_, .int .i64 0]) ∧ Kd.S k40 40 w' w.heap.size (fun _ => True) v0_ t) ∧ (P = none → e = .returned (.tuple #[.slice none 0 0, .int .i64 5])) ∧ Below w.heap.size w w' := by
 have hsz := bs_size l
 have hpos := hG.lt
 obtain ⟨s, hs⟩ : ∃ s, s = Tk.bs l := ⟨_, rfl⟩
 have d1 : decide ((20000 : Int) < (s.size : Int)) = false := decide_eq_false (by rw [hs, hsz]; omega)
 have d1' : decide (20000 < s.size) = false := decide_eq_false (by rw [hs, hsz]; omega)
 have kb := fun W => print_bytes (P := Try.prog) 9 48 5 Try.underlying9 Try.underlying48 Try.underlying5 s W
 have hr : Kd.C (Kd.int .u8) (Lib.bytesWorld w 5 s) (some ⟨w.heap.size, 0, none⟩) s.size (bytesOf s) := Kd.C_of_reads (enc := Value.int .u8) (d := (0 : Int)) (h1 := fun _ => rfl) (bytes_reads w 5 s (by rw [hs, hsz]; omega))
 have hb : Below w.heap.size w (Lib.bytesWorld w 5 s) := bytes_below (Below.refl _ _) (Nat.le_refl _) _ _
 have hu := Try.underlying65
 have HSZ := Lib.hid (show s.size = l.length by rw [hs, hsz])
 have HS := Lib.hid hs
 have HBAD := Lib.hid hbad
 have HP := Lib.hid hP
 have HR := Aside0.mk hr
 have HBB := Aside0.mk hb
 have HG := Aside0.mk hG
 rw [← hs]
 clear hs hsz hr hb hG hbad hP
 go_enter Try.func14, Try.ntmps14
 go_wp2
 refine wp_scope_loop 0 (by rfl) ?_
 go_wp2_with (fail)
 have hC := HR.out
 rw [HSZ.out, HS.out] at hC
 rw [HSZ.out]
 refine (token_Split.has _ _ l _ (by rw [← HS.out] at hC ⊢; exact hC) (by omega) (HG.out.step HBB.out)).mono ?_
 rintro e wc ⟨rfl, b1⟩
 rw [HBAD.out]
 have HBC := Aside0.mk (HBB.out.trans (b1.mono HBB.out.size))
 clear b1 hC HBB HR kb d1 d1'
 go_wp2_with (fail)
 have hb0 : Below wc.heap.size wc (wc.alloc (.cells #[.string s, .slice none 0 0] 65)) := below_alloc (Below.refl _ _) _
 have X0 : (wc.alloc (.cells #[.string s, .slice none 0 0] 65)).heap[wc.heap.size]? = some (.cells #[.string s, .slice none 0 0] 65 (0, 0)) := heap_alloc_new wc _
 obtain ⟨g, hg⟩ : ∃ g, g = wc.heap.size := ⟨_, rfl⟩
 obtain ⟨B, hBe⟩ : ∃ B, B = w.heap.size := ⟨_, rfl⟩
 obtain ⟨wb, hwb⟩ : ∃ wb, wb = w := ⟨_, rfl⟩
 have hgB : B ≤ g := by have := HBC.out.size; omega
 have H2 := Aside0.mk (show WalkAt (wc.alloc (.cells #[.string s, .slice none 0 0] 65)) B g (fun _ => True) (Tk.bs l) [] from by rw [← HS.out]; exact ⟨_, by rw [hg]; exact X0, Kd.S_nil _ _ _ _ _, hgB, by omega⟩)
 have B2 := Aside0.mk (show Below B wb (wc.alloc (.cells #[.string s, .slice none 0 0] 65)) from by rw [hBe, hwb]; exact HBC.out.trans (hb0.mono HBC.out.size))
 have HGb := Aside0.mk (show Glob wb from by rw [hwb]; exact HG.out)
 have hposB : 0 < B := by omega
 rw [← hg]
 rw [← hBe, ← hwb]
 clear hb0 X0 HBC HG
 generalize wc.alloc _ = w0 at *
 have HBE := Lib.hid hBe
 have HWB := Lib.hid hwb
 clear hg hBe hwb
 refine wp_label ?_
 rename_i hlb
 refine hlb _ _ ?_
 refine wp_at_label ?_
 refine LoopAt.intro (fun aB_ kq_ a1 w1 => ∃ (u2 u3 u16 u17 u18 u19 u20 u21 u22 u23 u24 u25 u26 u27 u28 u29 u30 u31 u32 u33 u34 u35 : Value), (∃ (m : List UInt8) (L : List S40) (fst : Bool), m.length < kq_ ∧ Aside0 (fst = decide (m.length = l.length)) ∧ Aside0 (L.length + m.length ≤ l.length) ∧ Aside0 (P = (Tk.pieces kq_ fst m).map fun t => L ++ t) ∧ Aside0 (WalkAt w1 B g (fun _ => True) (Tk.bs m) L) ∧ Aside0 (Below B wb w1)) ∧ a1 = ((((((((((((((((((((((aB_.put (some 2) u2).put (some 3) u3).put (some 16) u16).put (some 17) u17).put (some 18) u18).put (some 19) u19).put (some 20) u20).put (some 21) u21).put (some 22) u22).put (some 23) u23).put (some 24) u24).put (some 25) u25).put (some 26) u26).put (some 27) u27).put (some 28) u28).put (some 29) u29).put (some 30) u30).put (some 31) u31).put (some 32) u32).put (some 33) u33).put (some 34) u34).put (some 35) u35)) (l.length + 1) ?_ ?_
 ·(repeat apply Exists.intro)
  (try simp only [Act.put, List.setIfInBounds_toArray, List.set_cons_zero, List.set_cons_succ])
  refine ⟨?_, rfl⟩
  exact ⟨l, [], true, Nat.lt_succ_self _, ⟨by simp⟩, ⟨by simp⟩, ⟨by rw [HP.out]; simp⟩, H2, B2⟩
 ·intro gk a1 wr hinv
  obtain ⟨u2, u3, u16, u17, u18, u19, u20, u21, u22, u23, u24, u25, u26, u27, u28, u29, u30, u31, u32, u33, u34, u35, hrel, ha⟩ := hinv
  subst ha
  (try simp only [Act.put, List.setIfInBounds_toArray, List.set_cons_zero, List.set_cons_succ])
  intro Js0 Ks0 hJs0 hKs0
  clear H2 B2 HP
  obtain ⟨m, L, fst, hmk, HFS, HLM, HP, H, HB⟩ := hrel
  obtain ⟨g1, rfl⟩ : ∃ g1, gk = g1 + 1 := ⟨gk - 1, by omega⟩
  have hlm := HLM.out
  have hsl := HSZ.out
  have hmz := bs_size m
  have c0 := H.out.cell0
  have HG1 := Aside0.mk (HGb.out.below HB.out (by show 0 < B; omega))
  by_cases hm : m = []
  ·have hPL : P = some L := by
    rw [HP.out, Tk.pieces, if_pos hm]; simp
   have HPL := Lib.hid hPL
   have e1 := bs_none hm
   have H0 := H.out
   obtain ⟨v, h1, h2, _⟩ := H0
   obtain ⟨A1, c1, rfl⟩ := Kd.S_slice h2
   have c1' := (blk_cell h1 1).trans rfl
   have H2 := Aside0.mk h2
   clear h1 h2 hPL hm HP hlm hsl hmz
   go_wp2_with (fail)
   (try simp only [Exit.inBlock, Exit.then, jump_ret])
   go_ret2
   have HBf := HB.out
   have H2f := H2.out
   rw [HBE.out, HWB.out] at HBf
   rw [HBE.out] at H2f
   refine ⟨fun t h => ?_, (fun h => by rw [HPL.out] at h; cases h), HBf⟩
   rw [HPL.out] at h
   obtain rfl := Option.some.inj h
   exact ⟨_, rfl, Kd.S_mono H2f (fun _ _ => trivial)⟩
  obtain ⟨e1, e2, e3, e4⟩ := bs_some hm
  have hP1 : P = ((Tk.next fst m).bind fun p => (Tk.pieces g1 false p.2).map fun t => p.1 :: t).map fun t => L ++ t := by
   rw [HP.out, Tk.pieces, if_neg hm]
  have hfs : ((((Tk.bs m).size : Nat) : Int) == ((s.size : Nat) : Int)) = fst := by
   rw [HFS.out, hmz, hsl]
   rw [Bool.eq_iff_iff, beq_iff_eq, decide_eq_true_eq]
   omega
  have hfs2 : ((Tk.bs m).size == s.size) = fst := by
   rw [HFS.out, hmz, hsl]
   rw [Bool.eq_iff_iff, beq_iff_eq, decide_eq_true_eq]
  have HP1 := Lib.hid hP1
  obtain ⟨res, hres⟩ : ∃ res, Tk.next fst m = res := ⟨_, rfl⟩
  have CN := Aside0.mk (token_walk_next.all B g fst m res L wr H.out HG1.out (by omega) (by omega) (fun _ _ => trivial) hres)
  have HRS := Lib.hid hres
  have HM := Lib.hid hm
  clear hP1 hres hm HP hsl hmz
  go_wp2_with (go_at_call 24; (with_reducible refine CN.out.mono ?_))
  rintro e wn ⟨hy, hn, bn⟩
  have B3 := Aside0.mk (HB.out.trans bn)
  clear bn CN
  cases hr : res with
  | none =>
   obtain rfl := hn hr
   have hPN : P = none := by rw [HP1.out, HRS.out, hr]; rfl
   have HPN := Lib.hid hPN
   clear hy hn hPN hr
   go_wp2_with (fail)
   (try simp only [Exit.inBlock, Exit.then, jump_ret])
   go_ret2
   have HBf := B3.out
   rw [HBE.out, HWB.out] at HBf
   exact ⟨(fun t h => by rw [HPN.out] at h; cases h), fun _ => rfl, HBf⟩
  | some p =>
   obtain ⟨t0, r0⟩ := p
   obtain ⟨rfl, h1⟩ := hy t0 r0 hr
   have H3 := Aside0.mk h1
   have hrl := next_len HM.out (HRS.out.trans hr)
   have hPN : P = (Tk.pieces g1 false r0).map fun t => (L ++ [t0]) ++ t := by
    rw [HP1.out, HRS.out, hr]
    cases hq : Tk.pieces g1 false r0 with
    | none => simp [hq]
    | some t => simp [hq]
   have HPN := Aside0.mk hPN
   clear hy hn h1 hPN hr hfs hfs2
   go_wp2_with (fail)
   refine wp_goto (And.intro rfl ?_)
   refine hKs0 _ _ ?_
   go_roundg g1
   case measure => omega
   case rel => exact ⟨r0, L ++ [t0], false, by omega, ⟨by rw [eq_comm, decide_eq_false_iff_not]; omega⟩, ⟨by rw [List.length_append, List.length_singleton]; omega⟩, HPN, H3, B3⟩
theorem token_Split.big (l : List UInt8) (hl : 20000 < l.length) (hl2 : l.length ≤ 9223372036854775807) (w : World) :
 Calls Try.prog 14 #[.string (Tk.bs l)] w fun e w' => e = .returned (.tuple #[.slice none 0 0, .int .i64 3]) ∧ w = w' := by
 have hsz := bs_size l
 obtain ⟨s, hs⟩ : ∃ s, s = Tk.bs l := ⟨_, rfl⟩
 rw [← hs] at hsz ⊢
 have d1 : decide ((20000 : Int) < (s.size : Int)) = true := decide_eq_true (by omega)
 have d1' : decide (20000 < s.size) = true := decide_eq_true (by omega)
 clear hs hsz
 go_enter Try.func14, Try.ntmps14
 go_wp2
 refine wp_scope_loop 0 (by rfl) ?_
 go_wp2_with (fail)
 (try simp only [Exit.inBlock, Exit.then, jump_ret])
 go_ret2
 exact ⟨rfl, rfl⟩
theorem token_Split.bad (l : List UInt8) (hl : l.length ≤ 20000) (hbad : l.any badB = true) (w : World) (hG : Glob w) :
 Calls Try.prog 14 #[.string (Tk.bs l)] w fun e w' => e = .returned (.tuple #[.slice none 0 0, .int .i64 4]) ∧ Below w.heap.size w w' := by
 have hsz := bs_size l
 obtain ⟨s, hs⟩ : ∃ s, s = Tk.bs l := ⟨_, rfl⟩
 have d1 : decide ((20000 : Int) < (s.size : Int)) = false := decide_eq_false (by rw [hs, hsz]; omega)
 have d1' : decide (20000 < s.size) = false := decide_eq_false (by rw [hs, hsz]; omega)
 have kb := fun W => print_bytes (P := Try.prog) 9 48 5 Try.underlying9 Try.underlying48 Try.underlying5 s W
 have hr : Kd.C (Kd.int .u8) (Lib.bytesWorld w 5 s) (some ⟨w.heap.size, 0, none⟩) s.size (bytesOf s) := Kd.C_of_reads (enc := Value.int .u8) (d := (0 : Int)) (h1 := fun _ => rfl) (bytes_reads w 5 s (by rw [hs, hsz]; omega))
 have hb : Below w.heap.size w (Lib.bytesWorld w 5 s) := bytes_below (Below.refl _ _) (Nat.le_refl _) _ _
 have HSZ := Lib.hid (show s.size = l.length by rw [hs, hsz])
 have HS := Lib.hid hs
 have HBAD := Lib.hid hbad
 have HR := Aside0.mk hr
 have HBB := Aside0.mk hb
 have HG := Aside0.mk hG
 rw [← hs]
 clear hs hsz hr hb hG hbad
 go_enter Try.func14, Try.ntmps14
 go_wp2
 refine wp_scope_loop 0 (by rfl) ?_
 go_wp2_with (fail)
 have hC := HR.out
 rw [HSZ.out, HS.out] at hC
 rw [HSZ.out]
 refine (token_Split.has _ _ l _ (by rw [← HS.out] at hC ⊢; exact hC) (by omega) (HG.out.step HBB.out)).mono ?_
 rintro e wc ⟨rfl, b1⟩
 rw [HBAD.out]
 have HBC := Aside0.mk (HBB.out.trans (b1.mono HBB.out.size))
 clear b1 hC HBB HR kb d1 d1'
 go_wp2_with (fail)
 (try simp only [Exit.inBlock, Exit.then, jump_ret])
 go_ret2
 exact ⟨rfl, HBC.out⟩
theorem badB_eq (l : List UInt8) : l.any badB = l.any (fun c => !Tk.allowed c) := rfl
theorem token_Split.calls (a0 : ByteArray) (r1 : List S40) (r2 : Int) (w : World) (hG : Glob w) (h : token_Split.f a0 = some (r1, r2)) :
 Calls Try.prog 14 #[.string a0] w fun e w' => ∃ v0_ : Value, e = .returned (.tuple #[v0_, .int .i64 r2]) ∧ Kd.S k40 40 w' w.heap.size (fun _ => True) v0_ r1 ∧ Below w.heap.size w w' := by
 unfold token_Split.f at h
 have hl2 : a0.size ≤ 9223372036854775807 := by
  refine Classical.byContradiction fun hc => ?_
  rw [if_neg hc] at h
  cases h
 rw [if_pos hl2] at h
 have hx := Option.some.inj h
 rw [Lib.size_eq] at hl2
 have ha : a0 = Tk.bs a0.data.toList := (bs_data a0).symm
 rw [ha]
 rw [ha] at hx
 generalize a0.data.toList = l at *
 clear ha h
 have hx : Tk.split l = (r1, r2) := hx
 unfold Tk.split at hx
 by_cases hl : 20000 < l.length
 ·rw [if_pos hl] at hx
  obtain ⟨rfl, rfl⟩ := Prod.mk.inj hx
  refine (token_Split.big l hl hl2 w).mono ?_
  rintro e w' ⟨rfl, rfl⟩
  exact ⟨_, rfl, Kd.S_nil _ _ _ _ _, Below.refl _ _⟩
 rw [if_neg hl] at hx
 by_cases hb : l.any badB = true
 ·rw [if_pos (by rw [← badB_eq]; exact hb)] at hx
  obtain ⟨rfl, rfl⟩ := Prod.mk.inj hx
  refine (token_Split.bad l (by omega) hb w hG).mono ?_
  rintro e w' ⟨rfl, b⟩
  exact ⟨_, rfl, Kd.S_nil _ _ _ _ _, b⟩
 rw [if_neg (by rw [← badB_eq]; exact hb)] at hx
 refine (token_Split.loop l _ (by omega) (Bool.eq_false_iff.2 hb) rfl w hG).mono ?_
 rintro e w' ⟨hy, hn, b⟩
 cases hp : Tk.pieces (l.length + 1) true l with
 | none =>
  rw [hp] at hx
  obtain ⟨rfl, rfl⟩ := Prod.mk.inj hx
  exact ⟨_, hn hp, Kd.S_nil _ _ _ _ _, b⟩
 | some t =>
  rw [hp] at hx
  obtain ⟨rfl, rfl⟩ := Prod.mk.inj hx
  obtain ⟨v, he, hr⟩ := hy t hp
  exact ⟨v, he, hr, b⟩
def element_Parse.f (a0 : ByteArray) : Option ((List (S29)) × Int) := (token_Split.f a0).bind fun bt114 => (if bt114.2 = 0 then ((element_Tree.f bt114.1).bind fun bt118 => (some (bt118.1, bt118.2))) else (some (([] : List (S29)), bt114.2)))
theorem element_Parse.calls (a0 : ByteArray) (r1 : List (S29)) (r2 : Int) (w : World) (hG : Glob w) (h : element_Parse.f a0 = some (r1, r2)) :
 Calls Try.prog 9 #[.string a0] w fun e w' => ∃ v0_ : Value, e = .returned (.tuple #[v0_, .int .i64 r2]) ∧ Kd.S k29 29 w' w.heap.size (fun _ => True) v0_ r1 ∧ Below w.heap.size w w' := by
 have HG := Aside0.mk hG
 clear hG
 have HB := Aside0.mk (Below.refl w.heap.size w)
 have H : ((token_Split.f a0).bind fun bt114 => (if bt114.2 = 0 then ((element_Tree.f bt114.1).bind fun bt118 => (some (bt118.1, bt118.2))) else (some (([] : List (S29)), bt114.2)))) = some (r1, r2) := h
 clear h
 replace H := bi H
 obtain ⟨⟨t114, t115⟩, A20, H⟩ := H
 try dsimp only at H
 have A2 := Aside0.mk A20
 clear A20
 by_cases c3 : t115 = 0
 rotate_left
 ·rw [if_neg c3] at H
  obtain ⟨c3b0, c3b1⟩ := eqF c3
  simp only [Option.some.injEq, Prod.mk.injEq] at H
  obtain ⟨rfl, rfl⟩ := H
  go_enter Try.func9, Try.ntmps9
  go_wp2_with (first | (refine gl (some 8) Try.func14 #[.string a0] ?_; (with_reducible refine (token_Split.calls a0 t114 t115 _ (gS HG) A2.out).mono ?_); rintro e w8 ⟨v116, rfl, ho0, hb⟩; refine ⟨_, rfl, ?_⟩; have HO117 := Aside0.mk (Kd.S_lower ho0 (below_size bE)); replace HB := sB hb; (try clear hb); (try clear ho0)))
  go_ret2
  exact ⟨_, by first | rfl | (simp [errW_none, errW_some] <;> rfl) | (simp [*, errW_none, errW_some] <;> rfl), by first | exact Kd.S_nil _ _ _ _ _ | exact Kd.N_nil _ _ _ _ _ | exact Kd.V_nil _ _ _ _ _ | exact Kd.Q_nil _ _ _ _ _ | exact Kd.R_nil _ _ _ _ _, bE⟩
 rw [if_pos c3] at H
 obtain ⟨c3b0, c3b1⟩ := eqT c3
 clear c3
 replace H := bi H
 obtain ⟨⟨t118, t119⟩, A40, H⟩ := H
 try dsimp only at H
 have A4 := Aside0.mk A40
 clear A40
 simp only [Option.some.injEq, Prod.mk.injEq] at H
 obtain ⟨rfl, rfl⟩ := H
 go_enter Try.func9, Try.ntmps9
 go_wp2_with (first | (refine gl (some 8) Try.func14 #[.string a0] ?_; (with_reducible refine (token_Split.calls a0 t114 t115 _ (gS HG) A2.out).mono ?_); rintro e w5 ⟨v116, rfl, ho0, hb⟩; refine ⟨_, rfl, ?_⟩; have HO117 := Aside0.mk (Kd.S_lower ho0 (below_size bE)); replace HB := sB hb; (try clear hb); (try clear ho0); obtain ⟨Ao6, co6, eo6⟩ := Kd.S_slice HO117.out; subst eo6) | (refine gl (some 15) Try.func13 #[.slice Ao6 t114.length co6] ?_; (with_reducible refine (element_Tree.calls _ _ t114 t118 t119 _ ?side1 ?side2 (gS HG) A4.out).mono ?_); (case side1 => repeat (first | exact (Kd.S_reads' HO117.out).2.2 | (with_reducible refine Kd.C_alloc ?_ _) | (with_reducible refine Kd.C_drewN ?_ _) | (with_reducible refine Kd.C_drew ?_))); (case side2 => exact (Kd.S_reads' HO117.out).2.1); rintro e w7 ⟨v120, rfl, ho0, hb⟩; refine ⟨_, rfl, ?_⟩; replace HO117 := Aside0.mk (Kd.S_below (by (with_reducible repeat (first | apply Kd.S_alloc | apply Kd.S_drewN | apply Kd.S_drew)); exact HO117.out) hb); have HO121 := Aside0.mk (Kd.S_lower ho0 (below_size bE)); replace HB := sB hb; (try clear hb); (try clear ho0)))
 go_ret2
 exact ⟨_, by first | rfl | (simp [errW_none, errW_some] <;> rfl) | (simp [*, errW_none, errW_some] <;> rfl), by (with_reducible repeat (first | apply Kd.S_alloc | apply Kd.S_drewN | apply Kd.S_drew)); exact HO121.out, bE⟩
def newellaw03_awake.f (k : Nat)  : Option (Bool) := (element_Parse.f (⟨#[60, 97, 62, 120, 60, 47, 97, 62]⟩ : ByteArray)).bind fun bt127 => (if bt127.2 = 0 then (if (bt127.1.length : Int) = 2 then (if 1 < (bt127.1.length : Int) then (if ((rd_T29 bt127.1 1).f2).toList = ([120] : List UInt8) then ((element_Inner.f k bt127.1 0).bind fun t132 => (some (t132.toList == ([120] : List UInt8)))) else (some false)) else (none)) else (some false)) else (some false))
theorem newellaw03_awake.mono : ∀ k, LeO (newellaw03_awake.f k ) (newellaw03_awake.f (k + 1) ) := by
 intro  k
 unfold newellaw03_awake.f
 have m0 := @element_Inner.mono
 exact mo
theorem newellaw03_awake.calls (k : Nat)  (r : Bool) (w : World) (hG : Glob w) (h : newellaw03_awake.f k  = some r) :
 Calls Try.prog 8 #[] w fun e w' => e = .returned (.bool r) ∧ Below w.heap.size w w' := by
 have HG := Aside0.mk hG
 clear hG
 have HB := Aside0.mk (Below.refl w.heap.size w)
 have H : ((element_Parse.f (⟨#[60, 97, 62, 120, 60, 47, 97, 62]⟩ : ByteArray)).bind fun bt127 => (if bt127.2 = 0 then (if (bt127.1.length : Int) = 2 then (if 1 < (bt127.1.length : Int) then (if ((rd_T29 bt127.1 1).f2).toList = ([120] : List UInt8) then ((element_Inner.f k bt127.1 0).bind fun t132 => (some (t132.toList == ([120] : List UInt8)))) else (some false)) else (none)) else (some false)) else (some false))) = some r := h
 clear h
 replace H := bi H
 obtain ⟨⟨t127, t128⟩, A10, H⟩ := H
 try dsimp only at H
 have A1 := Aside0.mk A10
 clear A10
 by_cases c2 : t128 = 0
 rotate_left
 ·rw [if_neg c2] at H
  obtain ⟨c2b0, c2b1⟩ := eqF c2
  obtain rfl := Option.some.inj H
  go_enter Try.func8, Try.ntmps8
  go_wp2_with (first | (refine gl (some 4) Try.func9 #[.string (⟨#[60, 97, 62, 120, 60, 47, 97, 62]⟩ : ByteArray)] ?_; (with_reducible refine (element_Parse.calls (⟨#[60, 97, 62, 120, 60, 47, 97, 62]⟩ : ByteArray) t127 t128 _ (gS HG) A1.out).mono ?_); rintro e w14 ⟨v129, rfl, ho0, hb⟩; refine ⟨_, rfl, ?_⟩; have HO130 := Aside0.mk (Kd.S_lower ho0 (below_size bE)); replace HB := sB hb; (try clear hb); (try clear ho0)))
  go_ret
  exact ⟨eA, bE⟩
 rw [if_pos c2] at H
 obtain ⟨c2b0, c2b1⟩ := eqT c2
 clear c2
 by_cases c3 : (t127.length : Int) = 2
 rotate_left
 ·rw [if_neg c3] at H
  obtain ⟨c3b0, c3b1⟩ := eqF c3
  obtain rfl := Option.some.inj H
  go_enter Try.func8, Try.ntmps8
  go_wp2_with (first | (refine gl (some 4) Try.func9 #[.string (⟨#[60, 97, 62, 120, 60, 47, 97, 62]⟩ : ByteArray)] ?_; (with_reducible refine (element_Parse.calls (⟨#[60, 97, 62, 120, 60, 47, 97, 62]⟩ : ByteArray) t127 t128 _ (gS HG) A1.out).mono ?_); rintro e w12 ⟨v129, rfl, ho0, hb⟩; refine ⟨_, rfl, ?_⟩; have HO130 := Aside0.mk (Kd.S_lower ho0 (below_size bE)); replace HB := sB hb; (try clear hb); (try clear ho0); obtain ⟨Ao13, co13, eo13⟩ := Kd.S_slice HO130.out; subst eo13))
  go_ret
  exact ⟨eA, bE⟩
 rw [if_pos c3] at H
 obtain ⟨c3b0, c3b1⟩ := eqT c3
 clear c3
 by_cases c4 : 1 < (t127.length : Int)
 rotate_left
 ·rw [if_neg c4] at H
  exact absurd H (by simp)
 rw [if_pos c4] at H
 have c4b0 := dT c4
 have c4b1 : decide (1 < t127.length) = true := decide_eq_true (by omega)
 clear c4
 by_cases c5 : ((rd_T29 t127 1).f2).toList = ([120] : List UInt8)
 rotate_left
 ·rw [if_neg c5] at H
  obtain ⟨c5b0, c5b1⟩ := eqF c5
  obtain rfl := Option.some.inj H
  go_enter Try.func8, Try.ntmps8
  go_wp2_with (first | (refine gl (some 4) Try.func9 #[.string (⟨#[60, 97, 62, 120, 60, 47, 97, 62]⟩ : ByteArray)] ?_; (with_reducible refine (element_Parse.calls (⟨#[60, 97, 62, 120, 60, 47, 97, 62]⟩ : ByteArray) t127 t128 _ (gS HG) A1.out).mono ?_); rintro e w10 ⟨v129, rfl, ho0, hb⟩; refine ⟨_, rfl, ?_⟩; have HO130 := Aside0.mk (Kd.S_lower ho0 (below_size bE)); replace HB := sB hb; (try clear hb); (try clear ho0); obtain ⟨Ao11, co11, eo11⟩ := Kd.S_slice HO130.out; subst eo11; have p131 : 0 ≤ (1 : Int) := (by omega); have q131 : 1 < (t127.length : Int) := dA; obtain ⟨ad131, A131_3, c131_3, e131, hx131_0, hx131_1, hx131_2, hx131_3, hl131_3, hi131_3⟩ := at_T29 (Kd.S_reads' HO130.out).2.2 1 p131 q131; cases e131; obtain ⟨ce131, hce131, hMe131, hcc131⟩ := Kd.S_get HO130.out z29 1 p131 (by first | exact q131 | exact dA | (have e_ := (Kd.S_reads' HO130.out).1; omega)); obtain ⟨ve131_3, rfl, ge131_3⟩ := k29_openM hMe131; have hv131_3 := hcc131 3 _ rfl; rw [add_field _ _ 3 (by omega)] at hv131_3; replace hv131_3 := Option.some.inj (hv131_3.symm.trans hx131_3); rw [hv131_3] at ge131_3; have HL131_3 := Aside0.mk (show Kd.R k68 68 _ _ _ _ ((rd_T29 t127 1).f3) from ge131_3); clear hv131_3 ge131_3; clear hcc131 hce131; (try simp only [show (1 : Int).toNat = 1 from rfl, Nat.reduceMul, Nat.reduceEqDiff, Go.Addr.add, ↓reduceIte] at hx131_0); (try simp only [show (1 : Int).toNat = 1 from rfl, Nat.reduceMul, Nat.reduceEqDiff, Go.Addr.add, ↓reduceIte] at hx131_1); (try simp only [show (1 : Int).toNat = 1 from rfl, Nat.reduceMul, Nat.reduceEqDiff, Go.Addr.add, ↓reduceIte] at hx131_2); (try simp only [show (1 : Int).toNat = 1 from rfl, Nat.reduceMul, Nat.reduceEqDiff, Go.Addr.add, ↓reduceIte] at hx131_3); have qi131 : (1 < t127.length) = True := eq_true (by omega); (try rw [show ((1 : Int)).toNat = 1 from rfl] at hx131_0); (try rw [show 1 * 4 = 4 from rfl] at hx131_0); (try rw [show ((1 : Int)).toNat = 1 from rfl] at hx131_1); (try rw [show 1 * 4 = 4 from rfl] at hx131_1); (try rw [show ((1 : Int)).toNat = 1 from rfl] at hx131_2); (try rw [show 1 * 4 = 4 from rfl] at hx131_2); (try rw [show ((1 : Int)).toNat = 1 from rfl] at hx131_3); (try rw [show 1 * 4 = 4 from rfl] at hx131_3); have HR131_3 := Aside0.mk hi131_3; have HC131_3 := Aside0.mk hl131_3; clear hi131_3 hl131_3; replace p131 := eq_true p131; replace q131 := eq_true q131))
  go_ret
  exact ⟨eA, bE⟩
 rw [if_pos c5] at H
 obtain ⟨c5b0, c5b1⟩ := eqT c5
 clear c5
 replace H := bi H
 obtain ⟨t132, A60, H⟩ := H
 try dsimp only at H
 have A6 := Aside0.mk A60
 clear A60
 obtain rfl := Option.some.inj H
 go_enter Try.func8, Try.ntmps8
 go_wp2_with (first | (refine gl (some 4) Try.func9 #[.string (⟨#[60, 97, 62, 120, 60, 47, 97, 62]⟩ : ByteArray)] ?_; (with_reducible refine (element_Parse.calls (⟨#[60, 97, 62, 120, 60, 47, 97, 62]⟩ : ByteArray) t127 t128 _ (gS HG) A1.out).mono ?_); rintro e w7 ⟨v129, rfl, ho0, hb⟩; refine ⟨_, rfl, ?_⟩; have HO130 := Aside0.mk (Kd.S_lower ho0 (below_size bE)); replace HB := sB hb; (try clear hb); (try clear ho0); obtain ⟨Ao8, co8, eo8⟩ := Kd.S_slice HO130.out; subst eo8; have p131 : 0 ≤ (1 : Int) := (by omega); have q131 : 1 < (t127.length : Int) := dA; obtain ⟨ad131, A131_3, c131_3, e131, hx131_0, hx131_1, hx131_2, hx131_3, hl131_3, hi131_3⟩ := at_T29 (Kd.S_reads' HO130.out).2.2 1 p131 q131; cases e131; obtain ⟨ce131, hce131, hMe131, hcc131⟩ := Kd.S_get HO130.out z29 1 p131 (by first | exact q131 | exact dA | (have e_ := (Kd.S_reads' HO130.out).1; omega)); obtain ⟨ve131_3, rfl, ge131_3⟩ := k29_openM hMe131; have hv131_3 := hcc131 3 _ rfl; rw [add_field _ _ 3 (by omega)] at hv131_3; replace hv131_3 := Option.some.inj (hv131_3.symm.trans hx131_3); rw [hv131_3] at ge131_3; have HL131_3 := Aside0.mk (show Kd.R k68 68 _ _ _ _ ((rd_T29 t127 1).f3) from ge131_3); clear hv131_3 ge131_3; clear hcc131 hce131; (try simp only [show (1 : Int).toNat = 1 from rfl, Nat.reduceMul, Nat.reduceEqDiff, Go.Addr.add, ↓reduceIte] at hx131_0); (try simp only [show (1 : Int).toNat = 1 from rfl, Nat.reduceMul, Nat.reduceEqDiff, Go.Addr.add, ↓reduceIte] at hx131_1); (try simp only [show (1 : Int).toNat = 1 from rfl, Nat.reduceMul, Nat.reduceEqDiff, Go.Addr.add, ↓reduceIte] at hx131_2); (try simp only [show (1 : Int).toNat = 1 from rfl, Nat.reduceMul, Nat.reduceEqDiff, Go.Addr.add, ↓reduceIte] at hx131_3); have qi131 : (1 < t127.length) = True := eq_true (by omega); (try rw [show ((1 : Int)).toNat = 1 from rfl] at hx131_0); (try rw [show 1 * 4 = 4 from rfl] at hx131_0); (try rw [show ((1 : Int)).toNat = 1 from rfl] at hx131_1); (try rw [show 1 * 4 = 4 from rfl] at hx131_1); (try rw [show ((1 : Int)).toNat = 1 from rfl] at hx131_2); (try rw [show 1 * 4 = 4 from rfl] at hx131_2); (try rw [show ((1 : Int)).toNat = 1 from rfl] at hx131_3); (try rw [show 1 * 4 = 4 from rfl] at hx131_3); have HR131_3 := Aside0.mk hi131_3; have HC131_3 := Aside0.mk hl131_3; clear hi131_3 hl131_3; replace p131 := eq_true p131; replace q131 := eq_true q131) | (go_at_call 12; (with_reducible refine (element_Inner.calls k _ _ t127 0 t132 _ ?side1 ?side2 (gS HG) A6.out).mono ?_); (case side1 => repeat (first | exact (Kd.S_reads' HO130.out).2.2 | (with_reducible refine Kd.C_alloc ?_ _) | (with_reducible refine Kd.C_drewN ?_ _) | (with_reducible refine Kd.C_drew ?_))); (case side2 => exact (Kd.S_reads' HO130.out).2.1); rintro e w9 ⟨rfl, hb⟩; replace HO130 := Aside0.mk (Kd.S_below (by (with_reducible repeat (first | apply Kd.S_alloc | apply Kd.S_drewN | apply Kd.S_drew)); exact HO130.out) hb); replace HL131_3 := Aside0.mk (Kd.R_below (by (with_reducible repeat (first | apply Kd.R_alloc | apply Kd.R_drewN | apply Kd.R_drew)); exact HL131_3.out) hb); replace HR131_3 := Aside0.mk (Kd.C_below (by repeat (first | (with_reducible exact HR131_3.out) | (with_reducible refine Kd.C_alloc ?_ _) | (with_reducible refine Kd.C_drewN ?_ _) | (with_reducible refine Kd.C_drew ?_) | exact HR131_3.out)) hb); replace HB := sB hb; (try clear hb)))
 go_ret
 exact ⟨eA, bE⟩
def newellaw03_ElementStands.l0 : Nat → List (S29) → Int → Option (Bool)
 | 0, _, _ => none
 | k + 1, x3, x5 => if x5 < (x3.length : Int) then (if 0 ≤ x5 then (if ((((rd_T29 x3 x5).f0) == (-1)) != (x5 == 0)) = true then (some false) else (if ((rd_T29 x3 x5).f0) ≥ x5 then (some false) else (if ((rd_T29 x3 x5).f0) ≥ 0 then (if 0 ≤ ((rd_T29 x3 x5).f0) then (if ((rd_T29 x3 x5).f0) < (x3.length : Int) then (if ((rd_T29 x3 ((rd_T29 x3 x5).f0)).f1).toList = ([] : List UInt8) then (some false) else (if ((((rd_T29 x3 x5).f1).toList == ([] : List UInt8)) == (((rd_T29 x3 x5).f2).toList == ([] : List UInt8))) = true then (if ((rd_T29 x3 x5).f1).toList = ([] : List UInt8) then (some false) else (newellaw03_ElementStands.l0 k x3 (wrap64 (x5 + 1)))) else (newellaw03_ElementStands.l0 k x3 (wrap64 (x5 + 1))))) else (none)) else (none)) else (if ((((rd_T29 x3 x5).f1).toList == ([] : List UInt8)) == (((rd_T29 x3 x5).f2).toList == ([] : List UInt8))) = true then (if ((rd_T29 x3 x5).f1).toList = ([] : List UInt8) then (some false) else (newellaw03_ElementStands.l0 k x3 (wrap64 (x5 + 1)))) else (newellaw03_ElementStands.l0 k x3 (wrap64 (x5 + 1))))))) else (none)) else ((newellaw03_awake.f k).bind fun t176 => (if t176 = true then ((newelref01_Right.f k x3).bind fun t177 => (some t177)) else (some false)))
def newellaw03_ElementStands.f (k : Nat) (a0 : ByteArray) : Option (Bool) := if (a0.size : Int) > 3000 then ((newellaw03_awake.f k).bind fun t162 => (some t162)) else ((element_Parse.f a0).bind fun bt163 => (if bt163.2 = 0 then (newellaw03_ElementStands.l0 k bt163.1 0) else ((newellaw03_awake.f k).bind fun t167 => (if t167 = true then (some ((bt163.1.length : Int) == 0)) else (some false)))))
theorem newellaw03_ElementStands.calls (k : Nat) (a0 : ByteArray) (r : Bool) (w : World) (hG : Glob w) (h : newellaw03_ElementStands.f k a0 = some r) (hr_ : r = true) :
 Calls Try.prog 3 #[.string a0] w fun e w' => e = .returned (.bool r) ∧ Below w.heap.size w w' := by
 have HG := Aside0.mk hG
 clear hG
 have HB := Aside0.mk (Below.refl w.heap.size w)
 have H : (if (a0.size : Int) > 3000 then ((newellaw03_awake.f k).bind fun t162 => (some t162)) else ((element_Parse.f a0).bind fun bt163 => (if bt163.2 = 0 then (newellaw03_ElementStands.l0 k bt163.1 0) else ((newellaw03_awake.f k).bind fun t167 => (if t167 = true then (some ((bt163.1.length : Int) == 0)) else (some false)))))) = some r := h
 clear h
 by_cases c2 : (a0.size : Int) > 3000
 ·rw [if_pos c2] at H
  have c2b0 := dT c2
  have c2b1 : decide (3000 < a0.size) = true := decide_eq_true (by omega)
  clear c2
  replace H := bi H
  obtain ⟨t162, A30, H⟩ := H
  try dsimp only at H
  have A3 := Aside0.mk A30
  clear A30
  obtain rfl := Option.some.inj H
  go_enter Try.func3, Try.ntmps3
  go_wp2_with (first | (go_at_call 8; (with_reducible refine (newellaw03_awake.calls k  t162 _ (gS HG) A3.out).mono ?_); rintro e w4 ⟨rfl, hb⟩; replace HB := sB hb; (try clear hb)))
  repeat (go_quiet (first | (go_at_call 8; (with_reducible refine (newellaw03_awake.calls k  t162 _ ?side1 A3.out).mono ?_); (case side1 => exact Glob.step HG.out bE); rintro e w4 ⟨rfl, hb⟩; have n0_ := Aside0.mk (below_step bE hb); clear HB; have HB := n0_; clear n0_; (try clear hb); (try clear hb2); (try clear hk); (try clear hi))); try go_wp2_with (first | (go_at_call 8; (with_reducible refine (newellaw03_awake.calls k  t162 _ ?side1 A3.out).mono ?_); (case side1 => exact Glob.step HG.out bE); rintro e w4 ⟨rfl, hb⟩; have n0_ := Aside0.mk (below_step bE hb); clear HB; have HB := n0_; clear n0_; (try clear hb); (try clear hb2); (try clear hk); (try clear hi))))
  go_ret
  exact ⟨eA, bE⟩
 rw [if_neg c2] at H
 have c2b0 := dF c2
 have c2b1 : decide (3000 < a0.size) = false := decide_eq_false (by omega)
 clear c2
 replace H := bi H
 obtain ⟨⟨t163, t164⟩, A50, H⟩ := H
 try dsimp only at H
 have A5 := Aside0.mk A50
 clear A50
 by_cases c6 : t164 = 0
 rotate_left
 ·rw [if_neg c6] at H
  obtain ⟨c6b0, c6b1⟩ := eqF c6
  replace H := bi H
  obtain ⟨t167, A300, H⟩ := H
  try dsimp only at H
  have A30 := Aside0.mk A300
  clear A300
  by_cases c31 : t167 = true
  rotate_left
  ·replace c31 := Bool.eq_false_iff.mpr c31
   subst c31
   have H1 : (some false) = some r := by rw [if_neg (show ¬ (false = true) by decide)] at H; exact H
   clear H
   have H := H1
   clear H1
   exfalso
   obtain rfl := Option.some.inj H
   exact absurd hr_ (by decide)
  subst c31
  have H1 : (some ((t163.length : Int) == 0)) = some r := by rw [if_pos rfl] at H; exact H
  clear H
  have H := H1
  clear H1
  obtain rfl := Option.some.inj H
  go_enter Try.func3, Try.ntmps3
  go_wp2_with (first | (go_at_call 9; (with_reducible refine (element_Parse.calls a0 t163 t164 _ (gS HG) A5.out).mono ?_); rintro e w32 ⟨v165, rfl, ho0, hb⟩; have HO166 := Aside0.mk (Kd.S_lower ho0 (below_size bE)); replace HB := sB hb; (try clear hb); (try clear ho0)) | (go_at_call 8; (with_reducible refine (newellaw03_awake.calls k  true _ (gS HG) A30.out).mono ?_); rintro e w33 ⟨rfl, hb⟩; replace HO166 := Aside0.mk (Kd.S_below (by (with_reducible repeat (first | apply Kd.S_alloc | apply Kd.S_drewN | apply Kd.S_drew)); exact HO166.out) hb); replace HB := sB hb; (try clear hb); obtain ⟨Ao34, co34, eo34⟩ := Kd.S_slice HO166.out; subst eo34))
  repeat (go_quiet (first | (go_at_call 9; (with_reducible refine (element_Parse.calls a0 t163 t164 _ ?side1 A5.out).mono ?_); (case side1 => exact Glob.step HG.out bE); rintro e w32 ⟨v165, rfl, ho0, hb⟩; have n0_ := Aside0.mk (Kd.S_lower ho0 (below_size bE)); have n1_ := Aside0.mk (below_step bE hb); clear HB; have HO166 := n0_; have HB := n1_; clear n0_ n1_; (try clear hb); (try clear hb2); (try clear hk); (try clear hi); (try clear ho0)) | (go_at_call 8; (with_reducible refine (newellaw03_awake.calls k  true _ ?side1 A30.out).mono ?_); (case side1 => exact Glob.step HG.out bE); rintro e w33 ⟨rfl, hb⟩; have n0_ := Aside0.mk (Kd.S_below (by (with_reducible repeat (first | apply Kd.S_alloc | apply Kd.S_drewN | apply Kd.S_drew)); exact HO166.out) hb); have n1_ := Aside0.mk (below_step bE hb); clear HO166; clear HB; have HO166 := n0_; have HB := n1_; clear n0_ n1_; (try clear hb); (try clear hb2); (try clear hk); (try clear hi); obtain ⟨Ao34, co34, eo34⟩ := Kd.S_slice HO166.out; subst eo34)); try go_wp2_with (first | (go_at_call 9; (with_reducible refine (element_Parse.calls a0 t163 t164 _ ?side1 A5.out).mono ?_); (case side1 => exact Glob.step HG.out bE); rintro e w32 ⟨v165, rfl, ho0, hb⟩; have n0_ := Aside0.mk (Kd.S_lower ho0 (below_size bE)); have n1_ := Aside0.mk (below_step bE hb); clear HB; have HO166 := n0_; have HB := n1_; clear n0_ n1_; (try clear hb); (try clear hb2); (try clear hk); (try clear hi); (try clear ho0)) | (go_at_call 8; (with_reducible refine (newellaw03_awake.calls k  true _ ?side1 A30.out).mono ?_); (case side1 => exact Glob.step HG.out bE); rintro e w33 ⟨rfl, hb⟩; have n0_ := Aside0.mk (Kd.S_below (by (with_reducible repeat (first | apply Kd.S_alloc | apply Kd.S_drewN | apply Kd.S_drew)); exact HO166.out) hb); have n1_ := Aside0.mk (below_step bE hb); clear HO166; clear HB; have HO166 := n0_; have HB := n1_; clear n0_ n1_; (try clear hb); (try clear hb2); (try clear hk); (try clear hi); obtain ⟨Ao34, co34, eo34⟩ := Kd.S_slice HO166.out; subst eo34)))
  go_ret
  exact ⟨eA, bE⟩
 rw [if_pos c6] at H
 obtain ⟨c6b0, c6b1⟩ := eqT c6
 clear c6
 have H' := Aside0.mk H
 clear H
 go_enter Try.func3, Try.ntmps3
 go_wp2_with (first | (go_at_call 9; (with_reducible refine (element_Parse.calls a0 t163 t164 _ (gS HG) A5.out).mono ?_); rintro e w7 ⟨v165, rfl, ho0, hb⟩; have HO166 := Aside0.mk (Kd.S_lower ho0 (below_size bE)); replace HB := sB hb; (try clear hb); (try clear ho0)))
 repeat (go_quiet (first | (go_at_call 9; (with_reducible refine (element_Parse.calls a0 t163 t164 _ ?side1 A5.out).mono ?_); (case side1 => exact Glob.step HG.out bE); rintro e w7 ⟨v165, rfl, ho0, hb⟩; have n0_ := Aside0.mk (Kd.S_lower ho0 (below_size bE)); have n1_ := Aside0.mk (below_step bE hb); clear HB; have HO166 := n0_; have HB := n1_; clear n0_ n1_; (try clear hb); (try clear hb2); (try clear hk); (try clear hi); (try clear ho0))); try go_wp2_with (first | (go_at_call 9; (with_reducible refine (element_Parse.calls a0 t163 t164 _ ?side1 A5.out).mono ?_); (case side1 => exact Glob.step HG.out bE); rintro e w7 ⟨v165, rfl, ho0, hb⟩; have n0_ := Aside0.mk (Kd.S_lower ho0 (below_size bE)); have n1_ := Aside0.mk (below_step bE hb); clear HB; have HO166 := n0_; have HB := n1_; clear n0_ n1_; (try clear hb); (try clear hb2); (try clear hk); (try clear hi); (try clear ho0))))
 (try simp only [Act.put, List.setIfInBounds_toArray, List.set_cons_zero, List.set_cons_succ])
 go_loopg [5] k (fun kq v5 w' => ∃ (x5_1 : Int), v5 = .int .i64 x5_1 ∧ Aside0 (newellaw03_ElementStands.l0 kq t163 x5_1 = some r) ∧ Aside0 (kq ≤ k) ∧ Aside0 (Kd.S k29 29 w' w.heap.size (fun _ => True) v165 t163) ∧ Aside0 (Below w.heap.size w w'))
 case atStart => exact ⟨(0), cA, H', ⟨Nat.le_refl _⟩, ⟨by (with_reducible repeat (first | apply Kd.S_alloc | apply Kd.S_drewN | apply Kd.S_drew)); exact HO166.out⟩, ⟨bE⟩⟩
 clear H'
 try clear c2
 try clear c2b0
 try clear c2b1
 try clear p2
 try clear c3
 try clear c6
 try clear c6b0
 try clear c6b1
 obtain ⟨x5_1, rfl, HA, HK1, HO_3, HB⟩ := hrel
 cases gk with
 | zero => exact absurd HA.out (by simp [newellaw03_ElementStands.l0])
 | succ k1 =>
  have H := HA.out
  clear HA
  simp only [newellaw03_ElementStands.l0] at H
  by_cases c8 : x5_1 < (t163.length : Int)
  rotate_left
  ·rw [if_neg c8] at H
   have c8b0 := dF c8
   clear c8
   replace H := bi H
   obtain ⟨t176, A240, H⟩ := H
   try dsimp only at H
   have A24 := Aside0.mk A240
   clear A240
   by_cases c25 : t176 = true
   rotate_left
   ·replace c25 := Bool.eq_false_iff.mpr c25
    subst c25
    have H1 : (some false) = some r := by rw [if_neg (show ¬ (false = true) by decide)] at H; exact H
    clear H
    have H := H1
    clear H1
    exfalso
    obtain rfl := Option.some.inj H
    exact absurd hr_ (by decide)
   subst c25
   have H1 : ((newelref01_Right.f k1 t163).bind fun t177 => (some t177)) = some r := by rw [if_pos rfl] at H; exact H
   clear H
   have H := H1
   clear H1
   replace H := bi H
   obtain ⟨t177, A260, H⟩ := H
   try dsimp only at H
   have A26 := Aside0.mk A260
   clear A260
   obtain rfl := Option.some.inj H
   obtain ⟨Ao27, co27, eo27⟩ := Kd.S_slice HO_3.out
   subst eo27
   go_wp2_with (first | (go_at_call 8; (with_reducible refine (newellaw03_awake.calls k1  true _ (gS HG) A24.out).mono ?_); rintro e w28 ⟨rfl, hb⟩; replace HO_3 := Aside0.mk (Kd.S_below (by (with_reducible repeat (first | apply Kd.S_alloc | apply Kd.S_drewN | apply Kd.S_drew)); exact HO_3.out) hb); replace HB := sB hb; (try clear hb)) | (go_at_call 10; (with_reducible refine (newelref01_Right.calls k1 _ _ t163 t177 _ ?side1 ?side2 (gS HG) A26.out).mono ?_); (case side1 => repeat (first | exact (Kd.S_reads' HO_3.out).2.2 | (with_reducible refine Kd.C_alloc ?_ _) | (with_reducible refine Kd.C_drewN ?_ _) | (with_reducible refine Kd.C_drew ?_))); (case side2 => exact (Kd.S_reads' HO_3.out).2.1); rintro e w29 ⟨rfl, hb⟩; replace HO_3 := Aside0.mk (Kd.S_below (by (with_reducible repeat (first | apply Kd.S_alloc | apply Kd.S_drewN | apply Kd.S_drew)); exact HO_3.out) hb); replace HB := sB hb; (try clear hb)))
   repeat (go_quiet (first | (go_at_call 8; (with_reducible refine (newellaw03_awake.calls k1  true _ ?side1 A24.out).mono ?_); (case side1 => exact Glob.step HG.out bE); rintro e w28 ⟨rfl, hb⟩; have n0_ := Aside0.mk (Kd.S_below (by (with_reducible repeat (first | apply Kd.S_alloc | apply Kd.S_drewN | apply Kd.S_drew)); exact HO_3.out) hb); have n1_ := Aside0.mk (below_step bE hb); clear HO_3; clear HB; have HO_3 := n0_; have HB := n1_; clear n0_ n1_; (try clear hb); (try clear hb2); (try clear hk); (try clear hi)) | (go_at_call 10; (with_reducible refine (newelref01_Right.calls k1 _ _ t163 t177 _ ?side1 ?side2 ?side3 A26.out).mono ?_); (case side1 => repeat (first | exact (Kd.S_reads' HO_3.out).2.2 | (with_reducible refine Kd.C_alloc ?_ _) | (with_reducible refine Kd.C_drewN ?_ _) | (with_reducible refine Kd.C_drew ?_))); (case side2 => exact (Kd.S_reads' HO_3.out).2.1); (case side3 => exact Glob.step HG.out bE); rintro e w29 ⟨rfl, hb⟩; have n0_ := Aside0.mk (Kd.S_below (by (with_reducible repeat (first | apply Kd.S_alloc | apply Kd.S_drewN | apply Kd.S_drew)); exact HO_3.out) hb); have n1_ := Aside0.mk (below_step bE hb); clear HO_3; clear HB; have HO_3 := n0_; have HB := n1_; clear n0_ n1_; (try clear hb); (try clear hb2); (try clear hk); (try clear hi))); try go_wp2_with (first | (go_at_call 8; (with_reducible refine (newellaw03_awake.calls k1  true _ ?side1 A24.out).mono ?_); (case side1 => exact Glob.step HG.out bE); rintro e w28 ⟨rfl, hb⟩; have n0_ := Aside0.mk (Kd.S_below (by (with_reducible repeat (first | apply Kd.S_alloc | apply Kd.S_drewN | apply Kd.S_drew)); exact HO_3.out) hb); have n1_ := Aside0.mk (below_step bE hb); clear HO_3; clear HB; have HO_3 := n0_; have HB := n1_; clear n0_ n1_; (try clear hb); (try clear hb2); (try clear hk); (try clear hi)) | (go_at_call 10; (with_reducible refine (newelref01_Right.calls k1 _ _ t163 t177 _ ?side1 ?side2 ?side3 A26.out).mono ?_); (case side1 => repeat (first | exact (Kd.S_reads' HO_3.out).2.2 | (with_reducible refine Kd.C_alloc ?_ _) | (with_reducible refine Kd.C_drewN ?_ _) | (with_reducible refine Kd.C_drew ?_))); (case side2 => exact (Kd.S_reads' HO_3.out).2.1); (case side3 => exact Glob.step HG.out bE); rintro e w29 ⟨rfl, hb⟩; have n0_ := Aside0.mk (Kd.S_below (by (with_reducible repeat (first | apply Kd.S_alloc | apply Kd.S_drewN | apply Kd.S_drew)); exact HO_3.out) hb); have n1_ := Aside0.mk (below_step bE hb); clear HO_3; clear HB; have HO_3 := n0_; have HB := n1_; clear n0_ n1_; (try clear hb); (try clear hb2); (try clear hk); (try clear hi))))
   go_ret
   exact ⟨eA, bE⟩
  rw [if_pos c8] at H
  have c8b0 := dT c8
  clear c8
  by_cases c9 : 0 ≤ x5_1
  rotate_left
  ·rw [if_neg c9] at H
   exact absurd H (by simp)
  rw [if_pos c9] at H
  have c9b0 := dT c9
  clear c9
  by_cases c10 : ((((rd_T29 t163 x5_1).f0) == (-1)) != (x5_1 == 0)) = true
  ·rw [if_pos c10] at H
   have c10b0 : ((((rd_T29 t163 x5_1).f0) == (-1)) != (x5_1 == 0)) = true := c10
   (try (have c10b1 : decide ((((rd_T29 t163 x5_1).f0) == (-1)) = (x5_1 == 0)) = false := by simpa using c10))
   (try (have c10b2 : ((((rd_T29 t163 x5_1).f0) == (-1)) == (x5_1 == 0)) = false := by simpa using c10))
   (try (have c10b3 : ¬ ((((rd_T29 t163 x5_1).f0) == (-1)) = (x5_1 == 0)) := by simpa using c10))
   clear c10
   exfalso
   obtain rfl := Option.some.inj H
   exact absurd hr_ (by decide)
  rw [if_neg c10] at H
  have c10b0 : ((((rd_T29 t163 x5_1).f0) == (-1)) != (x5_1 == 0)) = false := by simpa using c10
  (try (have c10b1 : decide ((((rd_T29 t163 x5_1).f0) == (-1)) = (x5_1 == 0)) = true := by simpa using c10))
  (try (have c10b2 : ((((rd_T29 t163 x5_1).f0) == (-1)) == (x5_1 == 0)) = true := by simpa using c10))
  clear c10
  by_cases c11 : ((rd_T29 t163 x5_1).f0) ≥ x5_1
  ·rw [if_pos c11] at H
   have c11b0 := dT c11
   clear c11
   exfalso
   obtain rfl := Option.some.inj H
   exact absurd hr_ (by decide)
  rw [if_neg c11] at H
  have c11b0 := dF c11
  clear c11
  by_cases c12 : ((rd_T29 t163 x5_1).f0) ≥ 0
  rotate_left
  ·rw [if_neg c12] at H
   have c12b0 := dF c12
   clear c12
   by_cases c20 : ((((rd_T29 t163 x5_1).f1).toList == ([] : List UInt8)) == (((rd_T29 t163 x5_1).f2).toList == ([] : List UInt8))) = true
   rotate_left
   ·rw [if_neg c20] at H
    have c20b0 : ((((rd_T29 t163 x5_1).f1).toList == ([] : List UInt8)) == (((rd_T29 t163 x5_1).f2).toList == ([] : List UInt8))) = false := by simpa using c20
    (try (have c20b0e : ((((rd_T29 t163 x5_1).f1).toList).isEmpty == (((rd_T29 t163 x5_1).f2).toList).isEmpty) = false := by have z_ := c20b0; have en_ : ∀ l_ : List UInt8, (l_ == ([] : List UInt8)) = l_.isEmpty := (fun l_ => by cases l_ <;> rfl); simp only [en_] at z_; exact z_))
    (try (have c20b1 : decide ((((rd_T29 t163 x5_1).f1).toList == ([] : List UInt8)) = (((rd_T29 t163 x5_1).f2).toList == ([] : List UInt8))) = false := by simpa using c20))
    (try (have c20b2 : ((((rd_T29 t163 x5_1).f1).toList == ([] : List UInt8)) == (((rd_T29 t163 x5_1).f2).toList == ([] : List UInt8))) = false := by simpa using c20))
    (try (have c20b2e : ((((rd_T29 t163 x5_1).f1).toList).isEmpty == (((rd_T29 t163 x5_1).f2).toList).isEmpty) = false := by have z_ := c20b2; have en_ : ∀ l_ : List UInt8, (l_ == ([] : List UInt8)) = l_.isEmpty := (fun l_ => by cases l_ <;> rfl); simp only [en_] at z_; exact z_))
    (try (have c20b3 : ¬ ((((rd_T29 t163 x5_1).f1).toList == ([] : List UInt8)) = (((rd_T29 t163 x5_1).f2).toList == ([] : List UInt8))) := by simpa using c20))
    clear c20
    have H' := Aside0.mk H
    clear H
    obtain ⟨Ao23, co23, eo23⟩ := Kd.S_slice HO_3.out
    subst eo23
    have p168 : 0 ≤ (x5_1 : Int) := dA
    have q168 : x5_1 < (t163.length : Int) := dA
    obtain ⟨ad168, A168_3, c168_3, e168, hx168_0, hx168_1, hx168_2, hx168_3, hl168_3, hi168_3⟩ := at_T29 (Kd.S_reads' HO_3.out).2.2 x5_1 p168 q168
    cases e168
    obtain ⟨ce168, hce168, hMe168, hcc168⟩ := Kd.S_get HO_3.out z29 x5_1 p168 (by first | exact q168 | exact dA | (have e_ := (Kd.S_reads' HO_3.out).1; omega))
    obtain ⟨ve168_3, rfl, ge168_3⟩ := k29_openM hMe168
    have hv168_3 := hcc168 3 _ rfl
    rw [add_field _ _ 3 (by omega)] at hv168_3
    replace hv168_3 := Option.some.inj (hv168_3.symm.trans hx168_3)
    rw [hv168_3] at ge168_3
    have HL168_3 := Aside0.mk (show Kd.R k68 68 _ _ _ _ ((rd_T29 t163 x5_1).f3) from ge168_3)
    clear hv168_3 ge168_3
    clear hcc168 hce168
    have HR168_3 := Aside0.mk hi168_3
    have HC168_3 := Aside0.mk hl168_3
    clear hi168_3 hl168_3
    replace p168 := eq_true p168
    replace q168 := eq_true q168
    have p173 : 0 ≤ (x5_1 : Int) := dA
    have q173 : x5_1 < (t163.length : Int) := dA
    obtain ⟨ad173, A173_3, c173_3, e173, hx173_0, hx173_1, hx173_2, hx173_3, hl173_3, hi173_3⟩ := at_T29 (Kd.S_reads' HO_3.out).2.2 x5_1 p173 q173
    obtain rfl : ad168 = ad173 := (by injection e173)
    obtain ⟨ce173, hce173, hMe173, hcc173⟩ := Kd.S_get HO_3.out z29 x5_1 p173 (by first | exact q173 | exact dA | (have e_ := (Kd.S_reads' HO_3.out).1; omega))
    obtain ⟨ve173_3, rfl, ge173_3⟩ := k29_openM hMe173
    have hv173_3 := hcc173 3 _ rfl
    rw [add_field _ _ 3 (by omega)] at hv173_3
    replace hv173_3 := Option.some.inj (hv173_3.symm.trans hx173_3)
    rw [hv173_3] at ge173_3
    have HL173_3 := Aside0.mk (show Kd.R k68 68 _ _ _ _ ((rd_T29 t163 x5_1).f3) from ge173_3)
    clear hv173_3 ge173_3
    clear hcc173 hce173
    have HR173_3 := Aside0.mk hi173_3
    have HC173_3 := Aside0.mk hl173_3
    clear hi173_3 hl173_3
    replace p173 := eq_true p173
    replace q173 := eq_true q173
    have ea_ := Option.some.inj (hx168_3.symm.trans hx173_3)
    injection ea_ with ea_ en_ ec_
    subst ea_
    subst ec_
    clear en_
    have p174 : 0 ≤ (x5_1 : Int) := dA
    have q174 : x5_1 < (t163.length : Int) := dA
    obtain ⟨ad174, A174_3, c174_3, e174, hx174_0, hx174_1, hx174_2, hx174_3, hl174_3, hi174_3⟩ := at_T29 (Kd.S_reads' HO_3.out).2.2 x5_1 p174 q174
    obtain rfl : ad168 = ad174 := (by injection e174)
    obtain ⟨ce174, hce174, hMe174, hcc174⟩ := Kd.S_get HO_3.out z29 x5_1 p174 (by first | exact q174 | exact dA | (have e_ := (Kd.S_reads' HO_3.out).1; omega))
    obtain ⟨ve174_3, rfl, ge174_3⟩ := k29_openM hMe174
    have hv174_3 := hcc174 3 _ rfl
    rw [add_field _ _ 3 (by omega)] at hv174_3
    replace hv174_3 := Option.some.inj (hv174_3.symm.trans hx174_3)
    rw [hv174_3] at ge174_3
    have HL174_3 := Aside0.mk (show Kd.R k68 68 _ _ _ _ ((rd_T29 t163 x5_1).f3) from ge174_3)
    clear hv174_3 ge174_3
    clear hcc174 hce174
    have HR174_3 := Aside0.mk hi174_3
    have HC174_3 := Aside0.mk hl174_3
    clear hi174_3 hl174_3
    replace p174 := eq_true p174
    replace q174 := eq_true q174
    have ea_ := Option.some.inj (hx168_3.symm.trans hx174_3)
    injection ea_ with ea_ en_ ec_
    subst ea_
    subst ec_
    clear en_
    go_wp2
    repeat (go_quiet (fail); try go_wp2)
    go_roundg k1
    case measure => have := HK1.out; omega
    case rel => exact ⟨(wrap64 (x5_1 + 1)), cA, H', ⟨by have := HK1.out; omega⟩, ⟨by (with_reducible repeat (first | apply Kd.S_alloc | apply Kd.S_drewN | apply Kd.S_drew)); exact HO_3.out⟩, ⟨bE⟩⟩
   rw [if_pos c20] at H
   have c20b0 : ((((rd_T29 t163 x5_1).f1).toList == ([] : List UInt8)) == (((rd_T29 t163 x5_1).f2).toList == ([] : List UInt8))) = true := c20
   (try (have c20b0e : ((((rd_T29 t163 x5_1).f1).toList).isEmpty == (((rd_T29 t163 x5_1).f2).toList).isEmpty) = true := by have z_ := c20b0; have en_ : ∀ l_ : List UInt8, (l_ == ([] : List UInt8)) = l_.isEmpty := (fun l_ => by cases l_ <;> rfl); simp only [en_] at z_; exact z_))
   (try (have c20b1 : decide ((((rd_T29 t163 x5_1).f1).toList == ([] : List UInt8)) = (((rd_T29 t163 x5_1).f2).toList == ([] : List UInt8))) = true := by simpa using c20))
   (try (have c20b2 : ((((rd_T29 t163 x5_1).f1).toList == ([] : List UInt8)) == (((rd_T29 t163 x5_1).f2).toList == ([] : List UInt8))) = true := by simpa using c20))
   (try (have c20b2e : ((((rd_T29 t163 x5_1).f1).toList).isEmpty == (((rd_T29 t163 x5_1).f2).toList).isEmpty) = true := by have z_ := c20b2; have en_ : ∀ l_ : List UInt8, (l_ == ([] : List UInt8)) = l_.isEmpty := (fun l_ => by cases l_ <;> rfl); simp only [en_] at z_; exact z_))
   clear c20
   by_cases c21 : ((rd_T29 t163 x5_1).f1).toList = ([] : List UInt8)
   ·rw [if_pos c21] at H
    obtain ⟨c21b0, c21b1⟩ := eqT c21
    (try (have c21b2 : (((rd_T29 t163 x5_1).f1).toList).isEmpty = true := by simpa using c21))
    (try (have c21b2d : (((rd_T29 t163 x5_1).f2).toList).isEmpty = true := by have z_ := c20b0e; rw [c21b2] at z_; revert z_; cases (((rd_T29 t163 x5_1).f2).toList).isEmpty <;> simp))
    clear c21
    exfalso
    obtain rfl := Option.some.inj H
    exact absurd hr_ (by decide)
   rw [if_neg c21] at H
   obtain ⟨c21b0, c21b1⟩ := eqF c21
   (try (have c21b2 : (((rd_T29 t163 x5_1).f1).toList).isEmpty = false := by simpa using c21))
   (try (have c21b2d : (((rd_T29 t163 x5_1).f2).toList).isEmpty = false := by have z_ := c20b0e; rw [c21b2] at z_; revert z_; cases (((rd_T29 t163 x5_1).f2).toList).isEmpty <;> simp))
   have H' := Aside0.mk H
   clear H
   obtain ⟨Ao22, co22, eo22⟩ := Kd.S_slice HO_3.out
   subst eo22
   have p168 : 0 ≤ (x5_1 : Int) := dA
   have q168 : x5_1 < (t163.length : Int) := dA
   obtain ⟨ad168, A168_3, c168_3, e168, hx168_0, hx168_1, hx168_2, hx168_3, hl168_3, hi168_3⟩ := at_T29 (Kd.S_reads' HO_3.out).2.2 x5_1 p168 q168
   cases e168
   obtain ⟨ce168, hce168, hMe168, hcc168⟩ := Kd.S_get HO_3.out z29 x5_1 p168 (by first | exact q168 | exact dA | (have e_ := (Kd.S_reads' HO_3.out).1; omega))
   obtain ⟨ve168_3, rfl, ge168_3⟩ := k29_openM hMe168
   have hv168_3 := hcc168 3 _ rfl
   rw [add_field _ _ 3 (by omega)] at hv168_3
   replace hv168_3 := Option.some.inj (hv168_3.symm.trans hx168_3)
   rw [hv168_3] at ge168_3
   have HL168_3 := Aside0.mk (show Kd.R k68 68 _ _ _ _ ((rd_T29 t163 x5_1).f3) from ge168_3)
   clear hv168_3 ge168_3
   clear hcc168 hce168
   have HR168_3 := Aside0.mk hi168_3
   have HC168_3 := Aside0.mk hl168_3
   clear hi168_3 hl168_3
   replace p168 := eq_true p168
   replace q168 := eq_true q168
   have p173 : 0 ≤ (x5_1 : Int) := dA
   have q173 : x5_1 < (t163.length : Int) := dA
   obtain ⟨ad173, A173_3, c173_3, e173, hx173_0, hx173_1, hx173_2, hx173_3, hl173_3, hi173_3⟩ := at_T29 (Kd.S_reads' HO_3.out).2.2 x5_1 p173 q173
   obtain rfl : ad168 = ad173 := (by injection e173)
   obtain ⟨ce173, hce173, hMe173, hcc173⟩ := Kd.S_get HO_3.out z29 x5_1 p173 (by first | exact q173 | exact dA | (have e_ := (Kd.S_reads' HO_3.out).1; omega))
   obtain ⟨ve173_3, rfl, ge173_3⟩ := k29_openM hMe173
   have hv173_3 := hcc173 3 _ rfl
   rw [add_field _ _ 3 (by omega)] at hv173_3
   replace hv173_3 := Option.some.inj (hv173_3.symm.trans hx173_3)
   rw [hv173_3] at ge173_3
   have HL173_3 := Aside0.mk (show Kd.R k68 68 _ _ _ _ ((rd_T29 t163 x5_1).f3) from ge173_3)
   clear hv173_3 ge173_3
   clear hcc173 hce173
   have HR173_3 := Aside0.mk hi173_3
   have HC173_3 := Aside0.mk hl173_3
   clear hi173_3 hl173_3
   replace p173 := eq_true p173
   replace q173 := eq_true q173
   have ea_ := Option.some.inj (hx168_3.symm.trans hx173_3)
   injection ea_ with ea_ en_ ec_
   subst ea_
   subst ec_
   clear en_
   have p174 : 0 ≤ (x5_1 : Int) := dA
   have q174 : x5_1 < (t163.length : Int) := dA
   obtain ⟨ad174, A174_3, c174_3, e174, hx174_0, hx174_1, hx174_2, hx174_3, hl174_3, hi174_3⟩ := at_T29 (Kd.S_reads' HO_3.out).2.2 x5_1 p174 q174
   obtain rfl : ad168 = ad174 := (by injection e174)
   obtain ⟨ce174, hce174, hMe174, hcc174⟩ := Kd.S_get HO_3.out z29 x5_1 p174 (by first | exact q174 | exact dA | (have e_ := (Kd.S_reads' HO_3.out).1; omega))
   obtain ⟨ve174_3, rfl, ge174_3⟩ := k29_openM hMe174
   have hv174_3 := hcc174 3 _ rfl
   rw [add_field _ _ 3 (by omega)] at hv174_3
   replace hv174_3 := Option.some.inj (hv174_3.symm.trans hx174_3)
   rw [hv174_3] at ge174_3
   have HL174_3 := Aside0.mk (show Kd.R k68 68 _ _ _ _ ((rd_T29 t163 x5_1).f3) from ge174_3)
   clear hv174_3 ge174_3
   clear hcc174 hce174
   have HR174_3 := Aside0.mk hi174_3
   have HC174_3 := Aside0.mk hl174_3
   clear hi174_3 hl174_3
   replace p174 := eq_true p174
   replace q174 := eq_true q174
   have ea_ := Option.some.inj (hx168_3.symm.trans hx174_3)
   injection ea_ with ea_ en_ ec_
   subst ea_
   subst ec_
   clear en_
   have p175 : 0 ≤ (x5_1 : Int) := dA
   have q175 : x5_1 < (t163.length : Int) := dA
   obtain ⟨ad175, A175_3, c175_3, e175, hx175_0, hx175_1, hx175_2, hx175_3, hl175_3, hi175_3⟩ := at_T29 (Kd.S_reads' HO_3.out).2.2 x5_1 p175 q175
   obtain rfl : ad168 = ad175 := (by injection e175)
   obtain ⟨ce175, hce175, hMe175, hcc175⟩ := Kd.S_get HO_3.out z29 x5_1 p175 (by first | exact q175 | exact dA | (have e_ := (Kd.S_reads' HO_3.out).1; omega))
   obtain ⟨ve175_3, rfl, ge175_3⟩ := k29_openM hMe175
   have hv175_3 := hcc175 3 _ rfl
   rw [add_field _ _ 3 (by omega)] at hv175_3
   replace hv175_3 := Option.some.inj (hv175_3.symm.trans hx175_3)
   rw [hv175_3] at ge175_3
   have HL175_3 := Aside0.mk (show Kd.R k68 68 _ _ _ _ ((rd_T29 t163 x5_1).f3) from ge175_3)
   clear hv175_3 ge175_3
   clear hcc175 hce175
   have HR175_3 := Aside0.mk hi175_3
   have HC175_3 := Aside0.mk hl175_3
   clear hi175_3 hl175_3
   replace p175 := eq_true p175
   replace q175 := eq_true q175
   have ea_ := Option.some.inj (hx168_3.symm.trans hx175_3)
   injection ea_ with ea_ en_ ec_
   subst ea_
   subst ec_
   clear en_
   go_wp2
   repeat (go_quiet (fail); try go_wp2)
   go_roundg k1
   case measure => have := HK1.out; omega
   case rel => exact ⟨(wrap64 (x5_1 + 1)), cA, H', ⟨by have := HK1.out; omega⟩, ⟨by (with_reducible repeat (first | apply Kd.S_alloc | apply Kd.S_drewN | apply Kd.S_drew)); exact HO_3.out⟩, ⟨bE⟩⟩
  rw [if_pos c12] at H
  have c12b0 := dT c12
  clear c12
  by_cases c13 : 0 ≤ ((rd_T29 t163 x5_1).f0)
  rotate_left
  ·rw [if_neg c13] at H
   exact absurd H (by simp)
  rw [if_pos c13] at H
  have c13b0 := dT c13
  clear c13
  by_cases c14 : ((rd_T29 t163 x5_1).f0) < (t163.length : Int)
  rotate_left
  ·rw [if_neg c14] at H
   exact absurd H (by simp)
  rw [if_pos c14] at H
  have c14b0 := dT c14
  clear c14
  by_cases c15 : ((rd_T29 t163 ((rd_T29 t163 x5_1).f0)).f1).toList = ([] : List UInt8)
  ·rw [if_pos c15] at H
   obtain ⟨c15b0, c15b1⟩ := eqT c15
   (try (have c15b2 : (((rd_T29 t163 ((rd_T29 t163 x5_1).f0)).f1).toList).isEmpty = true := by simpa using c15))
   clear c15
   exfalso
   obtain rfl := Option.some.inj H
   exact absurd hr_ (by decide)
  rw [if_neg c15] at H
  obtain ⟨c15b0, c15b1⟩ := eqF c15
  (try (have c15b2 : (((rd_T29 t163 ((rd_T29 t163 x5_1).f0)).f1).toList).isEmpty = false := by simpa using c15))
  by_cases c16 : ((((rd_T29 t163 x5_1).f1).toList == ([] : List UInt8)) == (((rd_T29 t163 x5_1).f2).toList == ([] : List UInt8))) = true
  rotate_left
  ·rw [if_neg c16] at H
   have c16b0 : ((((rd_T29 t163 x5_1).f1).toList == ([] : List UInt8)) == (((rd_T29 t163 x5_1).f2).toList == ([] : List UInt8))) = false := by simpa using c16
   (try (have c16b0e : ((((rd_T29 t163 x5_1).f1).toList).isEmpty == (((rd_T29 t163 x5_1).f2).toList).isEmpty) = false := by have z_ := c16b0; have en_ : ∀ l_ : List UInt8, (l_ == ([] : List UInt8)) = l_.isEmpty := (fun l_ => by cases l_ <;> rfl); simp only [en_] at z_; exact z_))
   (try (have c16b1 : decide ((((rd_T29 t163 x5_1).f1).toList == ([] : List UInt8)) = (((rd_T29 t163 x5_1).f2).toList == ([] : List UInt8))) = false := by simpa using c16))
   (try (have c16b2 : ((((rd_T29 t163 x5_1).f1).toList == ([] : List UInt8)) == (((rd_T29 t163 x5_1).f2).toList == ([] : List UInt8))) = false := by simpa using c16))
   (try (have c16b2e : ((((rd_T29 t163 x5_1).f1).toList).isEmpty == (((rd_T29 t163 x5_1).f2).toList).isEmpty) = false := by have z_ := c16b2; have en_ : ∀ l_ : List UInt8, (l_ == ([] : List UInt8)) = l_.isEmpty := (fun l_ => by cases l_ <;> rfl); simp only [en_] at z_; exact z_))
   (try (have c16b3 : ¬ ((((rd_T29 t163 x5_1).f1).toList == ([] : List UInt8)) = (((rd_T29 t163 x5_1).f2).toList == ([] : List UInt8))) := by simpa using c16))
   clear c16
   have H' := Aside0.mk H
   clear H
   obtain ⟨Ao19, co19, eo19⟩ := Kd.S_slice HO_3.out
   subst eo19
   have p168 : 0 ≤ (x5_1 : Int) := dA
   have q168 : x5_1 < (t163.length : Int) := dA
   obtain ⟨ad168, A168_3, c168_3, e168, hx168_0, hx168_1, hx168_2, hx168_3, hl168_3, hi168_3⟩ := at_T29 (Kd.S_reads' HO_3.out).2.2 x5_1 p168 q168
   cases e168
   obtain ⟨ce168, hce168, hMe168, hcc168⟩ := Kd.S_get HO_3.out z29 x5_1 p168 (by first | exact q168 | exact dA | (have e_ := (Kd.S_reads' HO_3.out).1; omega))
   obtain ⟨ve168_3, rfl, ge168_3⟩ := k29_openM hMe168
   have hv168_3 := hcc168 3 _ rfl
   rw [add_field _ _ 3 (by omega)] at hv168_3
   replace hv168_3 := Option.some.inj (hv168_3.symm.trans hx168_3)
   rw [hv168_3] at ge168_3
   have HL168_3 := Aside0.mk (show Kd.R k68 68 _ _ _ _ ((rd_T29 t163 x5_1).f3) from ge168_3)
   clear hv168_3 ge168_3
   clear hcc168 hce168
   have HR168_3 := Aside0.mk hi168_3
   have HC168_3 := Aside0.mk hl168_3
   clear hi168_3 hl168_3
   replace p168 := eq_true p168
   replace q168 := eq_true q168
   have p169 : 0 ≤ (((rd_T29 t163 x5_1).f0) : Int) := dA
   have q169 : ((rd_T29 t163 x5_1).f0) < (t163.length : Int) := dA
   obtain ⟨ad169, A169_3, c169_3, e169, hx169_0, hx169_1, hx169_2, hx169_3, hl169_3, hi169_3⟩ := at_T29 (Kd.S_reads' HO_3.out).2.2 ((rd_T29 t163 x5_1).f0) p169 q169
   obtain rfl : ad168 = ad169 := (by injection e169)
   obtain ⟨ce169, hce169, hMe169, hcc169⟩ := Kd.S_get HO_3.out z29 ((rd_T29 t163 x5_1).f0) p169 (by first | exact q169 | exact dA | (have e_ := (Kd.S_reads' HO_3.out).1; omega))
   obtain ⟨ve169_3, rfl, ge169_3⟩ := k29_openM hMe169
   have hv169_3 := hcc169 3 _ rfl
   rw [add_field _ _ 3 (by omega)] at hv169_3
   replace hv169_3 := Option.some.inj (hv169_3.symm.trans hx169_3)
   rw [hv169_3] at ge169_3
   have HL169_3 := Aside0.mk (show Kd.R k68 68 _ _ _ _ ((rd_T29 t163 ((rd_T29 t163 x5_1).f0)).f3) from ge169_3)
   clear hv169_3 ge169_3
   clear hcc169 hce169
   have HR169_3 := Aside0.mk hi169_3
   have HC169_3 := Aside0.mk hl169_3
   clear hi169_3 hl169_3
   replace p169 := eq_true p169
   replace q169 := eq_true q169
   have p170 : 0 ≤ (x5_1 : Int) := dA
   have q170 : x5_1 < (t163.length : Int) := dA
   obtain ⟨ad170, A170_3, c170_3, e170, hx170_0, hx170_1, hx170_2, hx170_3, hl170_3, hi170_3⟩ := at_T29 (Kd.S_reads' HO_3.out).2.2 x5_1 p170 q170
   obtain rfl : ad168 = ad170 := (by injection e170)
   obtain ⟨ce170, hce170, hMe170, hcc170⟩ := Kd.S_get HO_3.out z29 x5_1 p170 (by first | exact q170 | exact dA | (have e_ := (Kd.S_reads' HO_3.out).1; omega))
   obtain ⟨ve170_3, rfl, ge170_3⟩ := k29_openM hMe170
   have hv170_3 := hcc170 3 _ rfl
   rw [add_field _ _ 3 (by omega)] at hv170_3
   replace hv170_3 := Option.some.inj (hv170_3.symm.trans hx170_3)
   rw [hv170_3] at ge170_3
   have HL170_3 := Aside0.mk (show Kd.R k68 68 _ _ _ _ ((rd_T29 t163 x5_1).f3) from ge170_3)
   clear hv170_3 ge170_3
   clear hcc170 hce170
   have HR170_3 := Aside0.mk hi170_3
   have HC170_3 := Aside0.mk hl170_3
   clear hi170_3 hl170_3
   replace p170 := eq_true p170
   replace q170 := eq_true q170
   have ea_ := Option.some.inj (hx168_3.symm.trans hx170_3)
   injection ea_ with ea_ en_ ec_
   subst ea_
   subst ec_
   clear en_
   have p171 : 0 ≤ (x5_1 : Int) := dA
   have q171 : x5_1 < (t163.length : Int) := dA
   obtain ⟨ad171, A171_3, c171_3, e171, hx171_0, hx171_1, hx171_2, hx171_3, hl171_3, hi171_3⟩ := at_T29 (Kd.S_reads' HO_3.out).2.2 x5_1 p171 q171
   obtain rfl : ad168 = ad171 := (by injection e171)
   obtain ⟨ce171, hce171, hMe171, hcc171⟩ := Kd.S_get HO_3.out z29 x5_1 p171 (by first | exact q171 | exact dA | (have e_ := (Kd.S_reads' HO_3.out).1; omega))
   obtain ⟨ve171_3, rfl, ge171_3⟩ := k29_openM hMe171
   have hv171_3 := hcc171 3 _ rfl
   rw [add_field _ _ 3 (by omega)] at hv171_3
   replace hv171_3 := Option.some.inj (hv171_3.symm.trans hx171_3)
   rw [hv171_3] at ge171_3
   have HL171_3 := Aside0.mk (show Kd.R k68 68 _ _ _ _ ((rd_T29 t163 x5_1).f3) from ge171_3)
   clear hv171_3 ge171_3
   clear hcc171 hce171
   have HR171_3 := Aside0.mk hi171_3
   have HC171_3 := Aside0.mk hl171_3
   clear hi171_3 hl171_3
   replace p171 := eq_true p171
   replace q171 := eq_true q171
   have ea_ := Option.some.inj (hx168_3.symm.trans hx171_3)
   injection ea_ with ea_ en_ ec_
   subst ea_
   subst ec_
   clear en_
   go_wp2
   repeat (go_quiet (fail); try go_wp2)
   go_roundg k1
   case measure => have := HK1.out; omega
   case rel => exact ⟨(wrap64 (x5_1 + 1)), cA, H', ⟨by have := HK1.out; omega⟩, ⟨by (with_reducible repeat (first | apply Kd.S_alloc | apply Kd.S_drewN | apply Kd.S_drew)); exact HO_3.out⟩, ⟨bE⟩⟩
  rw [if_pos c16] at H
  have c16b0 : ((((rd_T29 t163 x5_1).f1).toList == ([] : List UInt8)) == (((rd_T29 t163 x5_1).f2).toList == ([] : List UInt8))) = true := c16
  (try (have c16b0e : ((((rd_T29 t163 x5_1).f1).toList).isEmpty == (((rd_T29 t163 x5_1).f2).toList).isEmpty) = true := by have z_ := c16b0; have en_ : ∀ l_ : List UInt8, (l_ == ([] : List UInt8)) = l_.isEmpty := (fun l_ => by cases l_ <;> rfl); simp only [en_] at z_; exact z_))
  (try (have c16b1 : decide ((((rd_T29 t163 x5_1).f1).toList == ([] : List UInt8)) = (((rd_T29 t163 x5_1).f2).toList == ([] : List UInt8))) = true := by simpa using c16))
  (try (have c16b2 : ((((rd_T29 t163 x5_1).f1).toList == ([] : List UInt8)) == (((rd_T29 t163 x5_1).f2).toList == ([] : List UInt8))) = true := by simpa using c16))
  (try (have c16b2e : ((((rd_T29 t163 x5_1).f1).toList).isEmpty == (((rd_T29 t163 x5_1).f2).toList).isEmpty) = true := by have z_ := c16b2; have en_ : ∀ l_ : List UInt8, (l_ == ([] : List UInt8)) = l_.isEmpty := (fun l_ => by cases l_ <;> rfl); simp only [en_] at z_; exact z_))
  clear c16
  by_cases c17 : ((rd_T29 t163 x5_1).f1).toList = ([] : List UInt8)
  ·rw [if_pos c17] at H
   obtain ⟨c17b0, c17b1⟩ := eqT c17
   (try (have c17b2 : (((rd_T29 t163 x5_1).f1).toList).isEmpty = true := by simpa using c17))
   (try (have c17b2d : (((rd_T29 t163 x5_1).f2).toList).isEmpty = true := by have z_ := c16b0e; rw [c17b2] at z_; revert z_; cases (((rd_T29 t163 x5_1).f2).toList).isEmpty <;> simp))
   clear c17
   exfalso
   obtain rfl := Option.some.inj H
   exact absurd hr_ (by decide)
  rw [if_neg c17] at H
  obtain ⟨c17b0, c17b1⟩ := eqF c17
  (try (have c17b2 : (((rd_T29 t163 x5_1).f1).toList).isEmpty = false := by simpa using c17))
  (try (have c17b2d : (((rd_T29 t163 x5_1).f2).toList).isEmpty = false := by have z_ := c16b0e; rw [c17b2] at z_; revert z_; cases (((rd_T29 t163 x5_1).f2).toList).isEmpty <;> simp))
  have H' := Aside0.mk H
  clear H
  obtain ⟨Ao18, co18, eo18⟩ := Kd.S_slice HO_3.out
  subst eo18
  have p168 : 0 ≤ (x5_1 : Int) := dA
  have q168 : x5_1 < (t163.length : Int) := dA
  obtain ⟨ad168, A168_3, c168_3, e168, hx168_0, hx168_1, hx168_2, hx168_3, hl168_3, hi168_3⟩ := at_T29 (Kd.S_reads' HO_3.out).2.2 x5_1 p168 q168
  cases e168
  obtain ⟨ce168, hce168, hMe168, hcc168⟩ := Kd.S_get HO_3.out z29 x5_1 p168 (by first | exact q168 | exact dA | (have e_ := (Kd.S_reads' HO_3.out).1; omega))
  obtain ⟨ve168_3, rfl, ge168_3⟩ := k29_openM hMe168
  have hv168_3 := hcc168 3 _ rfl
  rw [add_field _ _ 3 (by omega)] at hv168_3
  replace hv168_3 := Option.some.inj (hv168_3.symm.trans hx168_3)
  rw [hv168_3] at ge168_3
  have HL168_3 := Aside0.mk (show Kd.R k68 68 _ _ _ _ ((rd_T29 t163 x5_1).f3) from ge168_3)
  clear hv168_3 ge168_3
  clear hcc168 hce168
  have HR168_3 := Aside0.mk hi168_3
  have HC168_3 := Aside0.mk hl168_3
  clear hi168_3 hl168_3
  replace p168 := eq_true p168
  replace q168 := eq_true q168
  have p169 : 0 ≤ (((rd_T29 t163 x5_1).f0) : Int) := dA
  have q169 : ((rd_T29 t163 x5_1).f0) < (t163.length : Int) := dA
  obtain ⟨ad169, A169_3, c169_3, e169, hx169_0, hx169_1, hx169_2, hx169_3, hl169_3, hi169_3⟩ := at_T29 (Kd.S_reads' HO_3.out).2.2 ((rd_T29 t163 x5_1).f0) p169 q169
  obtain rfl : ad168 = ad169 := (by injection e169)
  obtain ⟨ce169, hce169, hMe169, hcc169⟩ := Kd.S_get HO_3.out z29 ((rd_T29 t163 x5_1).f0) p169 (by first | exact q169 | exact dA | (have e_ := (Kd.S_reads' HO_3.out).1; omega))
  obtain ⟨ve169_3, rfl, ge169_3⟩ := k29_openM hMe169
  have hv169_3 := hcc169 3 _ rfl
  rw [add_field _ _ 3 (by omega)] at hv169_3
  replace hv169_3 := Option.some.inj (hv169_3.symm.trans hx169_3)
  rw [hv169_3] at ge169_3
  have HL169_3 := Aside0.mk (show Kd.R k68 68 _ _ _ _ ((rd_T29 t163 ((rd_T29 t163 x5_1).f0)).f3) from ge169_3)
  clear hv169_3 ge169_3
  clear hcc169 hce169
  have HR169_3 := Aside0.mk hi169_3
  have HC169_3 := Aside0.mk hl169_3
  clear hi169_3 hl169_3
  replace p169 := eq_true p169
  replace q169 := eq_true q169
  have p170 : 0 ≤ (x5_1 : Int) := dA
  have q170 : x5_1 < (t163.length : Int) := dA
  obtain ⟨ad170, A170_3, c170_3, e170, hx170_0, hx170_1, hx170_2, hx170_3, hl170_3, hi170_3⟩ := at_T29 (Kd.S_reads' HO_3.out).2.2 x5_1 p170 q170
  obtain rfl : ad168 = ad170 := (by injection e170)
  obtain ⟨ce170, hce170, hMe170, hcc170⟩ := Kd.S_get HO_3.out z29 x5_1 p170 (by first | exact q170 | exact dA | (have e_ := (Kd.S_reads' HO_3.out).1; omega))
  obtain ⟨ve170_3, rfl, ge170_3⟩ := k29_openM hMe170
  have hv170_3 := hcc170 3 _ rfl
  rw [add_field _ _ 3 (by omega)] at hv170_3
  replace hv170_3 := Option.some.inj (hv170_3.symm.trans hx170_3)
  rw [hv170_3] at ge170_3
  have HL170_3 := Aside0.mk (show Kd.R k68 68 _ _ _ _ ((rd_T29 t163 x5_1).f3) from ge170_3)
  clear hv170_3 ge170_3
  clear hcc170 hce170
  have HR170_3 := Aside0.mk hi170_3
  have HC170_3 := Aside0.mk hl170_3
  clear hi170_3 hl170_3
  replace p170 := eq_true p170
  replace q170 := eq_true q170
  have ea_ := Option.some.inj (hx168_3.symm.trans hx170_3)
  injection ea_ with ea_ en_ ec_
  subst ea_
  subst ec_
  clear en_
  have p171 : 0 ≤ (x5_1 : Int) := dA
  have q171 : x5_1 < (t163.length : Int) := dA
  obtain ⟨ad171, A171_3, c171_3, e171, hx171_0, hx171_1, hx171_2, hx171_3, hl171_3, hi171_3⟩ := at_T29 (Kd.S_reads' HO_3.out).2.2 x5_1 p171 q171
  obtain rfl : ad168 = ad171 := (by injection e171)
  obtain ⟨ce171, hce171, hMe171, hcc171⟩ := Kd.S_get HO_3.out z29 x5_1 p171 (by first | exact q171 | exact dA | (have e_ := (Kd.S_reads' HO_3.out).1; omega))
  obtain ⟨ve171_3, rfl, ge171_3⟩ := k29_openM hMe171
  have hv171_3 := hcc171 3 _ rfl
  rw [add_field _ _ 3 (by omega)] at hv171_3
  replace hv171_3 := Option.some.inj (hv171_3.symm.trans hx171_3)
  rw [hv171_3] at ge171_3
  have HL171_3 := Aside0.mk (show Kd.R k68 68 _ _ _ _ ((rd_T29 t163 x5_1).f3) from ge171_3)
  clear hv171_3 ge171_3
  clear hcc171 hce171
  have HR171_3 := Aside0.mk hi171_3
  have HC171_3 := Aside0.mk hl171_3
  clear hi171_3 hl171_3
  replace p171 := eq_true p171
  replace q171 := eq_true q171
  have ea_ := Option.some.inj (hx168_3.symm.trans hx171_3)
  injection ea_ with ea_ en_ ec_
  subst ea_
  subst ec_
  clear en_
  have p172 : 0 ≤ (x5_1 : Int) := dA
  have q172 : x5_1 < (t163.length : Int) := dA
  obtain ⟨ad172, A172_3, c172_3, e172, hx172_0, hx172_1, hx172_2, hx172_3, hl172_3, hi172_3⟩ := at_T29 (Kd.S_reads' HO_3.out).2.2 x5_1 p172 q172
  obtain rfl : ad168 = ad172 := (by injection e172)
  obtain ⟨ce172, hce172, hMe172, hcc172⟩ := Kd.S_get HO_3.out z29 x5_1 p172 (by first | exact q172 | exact dA | (have e_ := (Kd.S_reads' HO_3.out).1; omega))
  obtain ⟨ve172_3, rfl, ge172_3⟩ := k29_openM hMe172
  have hv172_3 := hcc172 3 _ rfl
  rw [add_field _ _ 3 (by omega)] at hv172_3
  replace hv172_3 := Option.some.inj (hv172_3.symm.trans hx172_3)
  rw [hv172_3] at ge172_3
  have HL172_3 := Aside0.mk (show Kd.R k68 68 _ _ _ _ ((rd_T29 t163 x5_1).f3) from ge172_3)
  clear hv172_3 ge172_3
  clear hcc172 hce172
  have HR172_3 := Aside0.mk hi172_3
  have HC172_3 := Aside0.mk hl172_3
  clear hi172_3 hl172_3
  replace p172 := eq_true p172
  replace q172 := eq_true q172
  have ea_ := Option.some.inj (hx168_3.symm.trans hx172_3)
  injection ea_ with ea_ en_ ec_
  subst ea_
  subst ec_
  clear en_
  go_wp2
  repeat (go_quiet (fail); try go_wp2)
  go_roundg k1
  case measure => have := HK1.out; omega
  case rel => exact ⟨(wrap64 (x5_1 + 1)), cA, H', ⟨by have := HK1.out; omega⟩, ⟨by (with_reducible repeat (first | apply Kd.S_alloc | apply Kd.S_drewN | apply Kd.S_drew)); exact HO_3.out⟩, ⟨bE⟩⟩
end Go.Proofs.Ytkoogebfdinbnaa.Q
namespace Go.Proofs.Ytkoogebfdinbnaa.Q
open Go.RowKit Go.Proofs.YtkoogebfdinbnaaW.PrintWords Go.Proofs.YtkoogebfdinbnaaW.PrintLast Go.Proofs.YtkoogebfdinbnaaW.Own Go.Proofs.YtkoogebfdinbnaaW.PrintMore
set_option linter.unusedVariables false
set_option linter.unusedSimpArgs false
namespace Rd
open Go Go.RowKit
theorem glob {W : World} (h : W.ShapedOpen Try.prog) : Glob W :=
  cell_of_shapedOpen_int (g := 0) (t := 3) (zero := #[.int .i64 0]) (k := .i64) h (of_decide_eq_true (by kernel_rfl)) (by kernel_rfl) rfl (by kernel_rfl) (by kernel_rfl) Try.underlying3
end Rd
end Go.Proofs.Ytkoogebfdinbnaa.Q
namespace Go.Proofs.Ytkoogebfdinbnaa.Q
open Go.RowKit Go.Proofs.YtkoogebfdinbnaaW.PrintWords Go.Proofs.YtkoogebfdinbnaaW.PrintLast Go.Proofs.YtkoogebfdinbnaaW.Own Go.Proofs.YtkoogebfdinbnaaW.PrintMore
set_option linter.unusedVariables false
set_option linter.unusedSimpArgs false
def newellaw03_ElementStands.Pure : Prop := ∀ (a0 : ByteArray), (a0.size ≤ 140737488351232) → ∃ k, newellaw03_ElementStands.f k a0 = some true
end Go.Proofs.Ytkoogebfdinbnaa.Q
namespace Go.Proofs.Ytkoogebfdinbnaa.Pure
open Go Go.RowKit Go.Proofs.Ytkoogebfdinbnaa.Q Go.Proofs.YtkoogebfdinbnaaW.PrintWords
set_option linter.unusedSimpArgs false
set_option linter.unusedVariables false
theorem attrs_few : ∀ (n : Nat) (nm : List UInt8) (ys : List S68) (l : List UInt8) (t : S40) (r : List UInt8), Tk.attrs n nm ys l = some (t, r) → t.f3.length + r.length ≤ ys.length + l.length
  | 0, _, _, _, _, _, h => by simp [Tk.attrs] at h
  | n + 1, nm, ys, l, t, r, h => by
    rw [Tk.attrs] at h
    (try dsimp only at h)
    have hs := skip_len l
    cases h1 : Tk.behind [62] (Tk.skip l) with
    | some q =>
      rw [h1] at h
      obtain ⟨rfl, rfl⟩ := Prod.mk.inj (Option.some.inj h)
      have := behind_len h1
      show ys.length + _ ≤ _
      omega
    | none =>
      rw [h1] at h
      (try dsimp only at h)
      cases h2 : Tk.behind [47, 62] (Tk.skip l) with
      | some q =>
        rw [h2] at h
        obtain ⟨rfl, rfl⟩ := Prod.mk.inj (Option.some.inj h)
        have := behind_len h2
        show ys.length + _ ≤ _
        omega
      | none =>
        rw [h2] at h
        (try dsimp only at h)
        split at h
        · cases h
        · obtain ⟨⟨x, q⟩, h3, h⟩ := Option.bind_eq_some_iff.1 h
          (try dsimp only at h)
          split at h
          · cases h
          · have h5 := attrs_few n nm _ q t r h
            have h6 := attr_len h3
            rw [List.length_append, List.length_singleton] at h5
            omega
theorem attrs_text : ∀ (n : Nat) (nm : List UInt8) (ys : List S68) (l : List UInt8) (t : S40) (r : List UInt8), Tk.attrs n nm ys l = some (t, r) → t.f2.size = 0
  | 0, _, _, _, _, _, h => by simp [Tk.attrs] at h
  | n + 1, nm, ys, l, t, r, h => by
    rw [Tk.attrs] at h
    (try dsimp only at h)
    cases h1 : Tk.behind [62] (Tk.skip l) with
    | some q =>
      rw [h1] at h
      obtain ⟨rfl, rfl⟩ := Prod.mk.inj (Option.some.inj h)
      rfl
    | none =>
      rw [h1] at h
      (try dsimp only at h)
      cases h2 : Tk.behind [47, 62] (Tk.skip l) with
      | some q =>
        rw [h2] at h
        obtain ⟨rfl, rfl⟩ := Prod.mk.inj (Option.some.inj h)
        rfl
      | none =>
        rw [h2] at h
        (try dsimp only at h)
        split at h
        · cases h
        · obtain ⟨⟨x, q⟩, h3, h⟩ := Option.bind_eq_some_iff.1 h
          (try dsimp only at h)
          split at h
          · cases h
          · exact attrs_text n nm _ q t r h
theorem ents_len : ∀ (n : Nat) (l t : List UInt8), Tk.ents n l = some t → t.length ≤ 4 * l.length
  | 0, _, _, h => by simp [Tk.ents] at h
  | n + 1, l, t, h => by
    rw [Tk.ents] at h
    cases h1 : Tk.upto [38] l with
    | none =>
      rw [h1] at h
      obtain rfl := Option.some.inj h
      omega
    | some p =>
      obtain ⟨a, b⟩ := p
      rw [h1] at h
      (try dsimp only at h)
      cases h2 : Tk.upto [59] b with
      | none => rw [h2] at h; cases h
      | some q =>
        obtain ⟨nm, r⟩ := q
        rw [h2] at h
        (try dsimp only at h)
        obtain ⟨c, h3, h⟩ := Option.bind_eq_some_iff.1 h
        obtain ⟨u, h4, h⟩ := Option.map_eq_some_iff.1 h
        subst h
        have e1 := upto_sum h1
        have e2 := upto_sum h2
        have e3 := entity_len h3
        have e4 := ents_len n r u h4
        rw [List.length_append, List.length_append]
        simp only [List.length_cons, List.length_nil] at e1 e2
        omega
theorem next_few {fst : Bool} {l r : List UInt8} {t : S40} (h : Tk.next fst l = some (t, r)) : t.f3.length ≤ l.length ∧ t.f2.size ≤ 4 * l.length := by
  unfold Tk.next at h
  cases h1 : Tk.behind [60, 33, 45, 45] l with
  | some q =>
    rw [h1] at h
    unfold Tk.comment at h
    obtain ⟨⟨a, b⟩, h2, h⟩ := Option.bind_eq_some_iff.1 h
    (try dsimp only at h)
    split at h
    · cases h
    · obtain ⟨rfl, _⟩ := Prod.mk.inj (Option.some.inj h)
      exact ⟨Nat.zero_le _, by have e1 := (upto_len h2).1; have e2 := behind_len h1; show (Tk.bs a).size ≤ _; rw [bs_size]; omega⟩
  | none =>
  rw [h1] at h
  (try dsimp only at h)
  cases h1 : Tk.behind [60, 33, 91, 67, 68, 65, 84, 65, 91] l with
  | some q =>
    rw [h1] at h
    obtain ⟨⟨a, b⟩, h2, h⟩ := Option.map_eq_some_iff.1 (show (Tk.upto [93, 93, 62] q).map _ = some (t, r) from h)
    obtain ⟨rfl, _⟩ := Prod.mk.inj h
    exact ⟨Nat.zero_le _, by have e1 := (upto_len h2).1; have e2 := behind_len h1; show (Tk.bs a).size ≤ _; rw [bs_size]; omega⟩
  | none =>
  rw [h1] at h
  (try dsimp only at h)
  cases h1 : Tk.behind [60, 63] l with
  | some q =>
    rw [h1] at h
    obtain ⟨⟨a, b⟩, h2, h⟩ := Option.bind_eq_some_iff.1 (show (Tk.upto [63, 62] q).bind _ = some (t, r) from h)
    (try dsimp only at h)
    split at h
    · obtain ⟨rfl, _⟩ := Prod.mk.inj (Option.some.inj h)
      exact ⟨Nat.zero_le _, by have e1 := (upto_len h2).1; have e2 := behind_len h1; show (Tk.bs a).size ≤ _; rw [bs_size]; omega⟩
    · cases h
  | none =>
  rw [h1] at h
  (try dsimp only at h)
  cases h1 : Tk.behind [60, 47] l with
  | some q =>
    rw [h1] at h
    (try dsimp only at h)
    unfold Tk.close at h
    split at h
    · cases h
    · obtain ⟨b, h2, h⟩ := Option.map_eq_some_iff.1 h
      obtain ⟨rfl, _⟩ := Prod.mk.inj h
      exact ⟨Nat.zero_le _, Nat.zero_le _⟩
  | none =>
  rw [h1] at h
  (try dsimp only at h)
  cases h1 : Tk.behind [60] l with
  | some q =>
    rw [h1] at h
    have e := behind_sum h1
    (try dsimp only at h)
    unfold Tk.opening at h
    split at h
    · cases h
    · have e2 := attrs_few _ _ _ _ _ _ h
      rw [List.length_drop] at e2
      have e3 := attrs_text _ _ _ _ _ _ h
      simp only [List.length_cons, List.length_nil] at e e2
      exact ⟨by omega, by omega⟩
  | none =>
  rw [h1] at h
  (try dsimp only at h)
  unfold Tk.text at h
  (try dsimp only at h)
  obtain ⟨x, hx, h⟩ := Option.map_eq_some_iff.1 h
  obtain ⟨rfl, _⟩ := Prod.mk.inj h
  refine ⟨Nat.zero_le _, ?_⟩
  have e1 := ents_len _ _ _ hx
  have e2 : (l.takeWhile (· != 60)).length ≤ l.length := (List.takeWhile_sublist _).length_le
  show (Tk.bs x).size ≤ _
  rw [bs_size]
  omega
theorem pieces_few : ∀ (n : Nat) (fst : Bool) (l : List UInt8) (ts : List S40), Tk.pieces n fst l = some ts → ts.length ≤ l.length ∧ ∀ t ∈ ts, t.f3.length ≤ l.length ∧ t.f2.size ≤ 4 * l.length
  | 0, _, _, _, h => by simp [Tk.pieces] at h
  | n + 1, fst, l, ts, h => by
    rw [Tk.pieces] at h
    by_cases hl : l = []
    · rw [if_pos hl] at h
      obtain rfl := Option.some.inj h
      exact ⟨Nat.zero_le _, fun t ht => absurd ht (by simp)⟩
    · rw [if_neg hl] at h
      obtain ⟨⟨t, r⟩, h1, h⟩ := Option.bind_eq_some_iff.1 h
      obtain ⟨us, h2, h⟩ := Option.map_eq_some_iff.1 h
      subst h
      have e1 := next_len hl h1
      have e2 := next_few h1
      obtain ⟨e3, e4⟩ := pieces_few n false r us h2
      refine ⟨by rw [List.length_cons]; omega, fun x hx => ?_⟩
      rcases List.mem_cons.1 hx with rfl | hx
      · exact e2
      · have := e4 x hx
        omega
theorem split_few (l : List UInt8) : (Tk.split l).1.length ≤ l.length ∧ ∀ t ∈ (Tk.split l).1, t.f3.length ≤ l.length ∧ t.f2.size ≤ 4 * l.length := by
  unfold Tk.split
  by_cases h1 : 20000 < l.length
  · rw [if_pos h1]; exact ⟨Nat.zero_le _, fun t ht => absurd ht (by simp)⟩
  · rw [if_neg h1]
    by_cases h2 : l.any (fun c => !Tk.allowed c) = true
    · rw [if_pos h2]; exact ⟨Nat.zero_le _, fun t ht => absurd ht (by simp)⟩
    · rw [if_neg h2]
      cases hp : Tk.pieces (l.length + 1) true l with
      | none => exact ⟨Nat.zero_le _, fun t ht => absurd ht (by simp)⟩
      | some ts => exact pieces_few _ _ _ _ hp
theorem sum_le (ts : List S40) (m : Nat) (h : ∀ t ∈ ts, t.f2.size ≤ m) : (ts.map fun t => t.f2.size).sum ≤ ts.length * m := by
  induction ts with
  | nil => simp
  | cons t ts ih =>
    rw [List.map_cons, List.sum_cons, List.length_cons, Nat.succ_mul]
    have h1 := h t List.mem_cons_self
    have h2 := ih (fun x hx => h x (List.mem_cons_of_mem _ hx))
    omega
theorem split_fits (l : List UInt8) (hl : l.length ≤ 5000) : El.fits (Tk.split l).1 = true := by
  obtain ⟨h1, h2⟩ := split_few l
  have h3 := sum_le (Tk.split l).1 20000 (fun t ht => by have := (h2 t ht).2; omega)
  unfold El.fits
  rw [Bool.and_eq_true, Bool.and_eq_true]
  refine ⟨⟨decide_eq_true (Nat.le_trans h3 (by omega)), ?_⟩, decide_eq_true (by omega)⟩
  rw [List.all_eq_true]
  intro t ht
  have := (h2 t ht).1
  exact decide_eq_true (by omega)
def parseL (l : List UInt8) : List S29 × Int := if (Tk.split l).2 = 0 then El.tree (Tk.split l).1 else ([], (Tk.split l).2)
theorem parse_told (a : ByteArray) (ha : a.size ≤ 5000) : element_Parse.f a = some (parseL a.data.toList) := by
  have hz := bs_size a.data.toList
  rw [bs_data] at hz
  unfold element_Parse.f
  have hs : token_Split.f a = some (Tk.split a.data.toList) := by
    unfold token_Split.f
    rw [if_pos (by omega)]
  rw [hs, Option.bind_some]
  unfold parseL
  split
  · have ht : element_Tree.f (Tk.split a.data.toList).1 = some (El.tree (Tk.split a.data.toList).1) := by
      unfold element_Tree.f
      rw [if_pos (split_fits _ (by omega))]
    rw [ht]; rfl
  · rfl
abbrev Nd := S29
def at0 (l : List Nd) (i : Int) : Nd := l.getD i.toNat El.zn
theorem at0_app (l m : List Nd) (i : Int) (h0 : 0 ≤ i) (h1 : i < (l.length : Int)) : at0 (l ++ m) i = at0 l i := by
  unfold at0
  rw [List.getD_eq_getElem?_getD, List.getD_eq_getElem?_getD, List.getElem?_append_left (by omega)]
theorem at0_last (l : List Nd) (n : Nd) : at0 (l ++ [n]) (l.length : Int) = n := by
  unfold at0
  rw [List.getD_eq_getElem?_getD, Int.toNat_natCast, List.getElem?_append_right (Nat.le_refl _), Nat.sub_self]; rfl
theorem at0_some {l : List Nd} {i : Nat} {n : Nd} (h : l[i]? = some n) : at0 l (i : Int) = n := by
  unfold at0
  rw [List.getD_eq_getElem?_getD, Int.toNat_natCast, h]; rfl
theorem at0_mem {l : List Nd} {i : Nat} (h : i < l.length) : l[i]? = some (at0 l (i : Int)) := by
  unfold at0
  rw [List.getD_eq_getElem?_getD, Int.toNat_natCast, List.getElem?_eq_getElem h]; rfl
def Wf (l : List Nd) (op : List Int) : Prop :=
  (l = [] → op = []) ∧ (∀ n : Nd, l[0]? = some n → n.f0 = -1 ∧ n.f1 ≠ El.nul) ∧ (∀ (i : Nat) (n : Nd), l[i]? = some n → 0 < i → 0 ≤ n.f0 ∧ n.f0 < (i : Int) ∧ (at0 l n.f0).f1 ≠ El.nul) ∧ (∀ i ∈ op, 0 ≤ i ∧ i < (l.length : Int) ∧ (at0 l i).f1 ≠ El.nul)
theorem wf_nil : Wf [] [] := ⟨fun _ => rfl, fun n h => by simp at h, fun i n h => by simp at h, fun i h => absurd h (by simp)⟩
theorem inner_some {op : List Int} (h : op ≠ []) : El.inner op ∈ op := by
  unfold El.inner
  cases hx : op.getLast? with
  | none => exact absurd (List.getLast?_eq_none_iff.1 hx) h
  | some x => exact List.mem_of_getLast? hx
theorem inner_ge {l : List Nd} {op : List Int} (h : Wf l op) (hi : ¬ El.inner op < 0) : op ≠ [] := by
  rintro rfl
  exact hi (by decide)
theorem wf_put {l : List Nd} {op : List Int} (h : Wf l op) (n : Nd) (hp : n.f0 = El.inner op) (hr : op = [] → l = [] ∧ n.f1 ≠ El.nul) : Wf (l ++ [n]) op := by
  obtain ⟨h1, h2, h3, h4⟩ := h
  refine ⟨fun h => absurd h (by simp), fun m hm => ?_, fun i m hm hi => ?_, fun i hi => ?_⟩
  · by_cases hl : l = []
    · subst hl
      have ho := h1 rfl
      obtain rfl : n = m := by simpa using hm
      exact ⟨by rw [hp, ho]; rfl, (hr ho).2⟩
    · have hpos : 0 < l.length := List.length_pos_iff.2 hl
      rw [List.getElem?_append_left hpos] at hm
      exact h2 m hm
  · rcases Nat.lt_trichotomy i l.length with hlt | he | hgt
    · rw [List.getElem?_append_left hlt] at hm
      obtain ⟨a, b, c⟩ := h3 i m hm hi
      exact ⟨a, b, by rw [at0_app _ _ _ a (by omega)]; exact c⟩
    · rw [he, List.getElem?_append_right (Nat.le_refl _), Nat.sub_self] at hm
      obtain rfl : n = m := by simpa using hm
      have ho : op ≠ [] := fun ho => by
        have := (hr ho).1
        rw [this] at he
        simp at he
        omega
      obtain ⟨a, b, c⟩ := h4 _ (inner_some ho)
      rw [hp]
      exact ⟨a, by omega, by rw [at0_app _ _ _ a b]; exact c⟩
    · rw [List.getElem?_eq_none (by rw [List.length_append, List.length_singleton]; omega)] at hm
      cases hm
  · obtain ⟨a, b, c⟩ := h4 i hi
    exact ⟨a, by rw [List.length_append, List.length_singleton]; omega, by rw [at0_app _ _ _ a b]; exact c⟩
theorem at0_set (l : List Nd) (k : Nat) (n : Nd) (hn : n.f1 = (at0 l (k : Int)).f1) (i : Int) : (at0 (l.set k n) i).f1 = (at0 l i).f1 := by
  unfold at0 at *
  rw [List.getD_eq_getElem?_getD, List.getD_eq_getElem?_getD, List.getElem?_set]
  rw [List.getD_eq_getElem?_getD, Int.toNat_natCast] at hn
  by_cases hk : k = i.toNat
  · rw [if_pos hk]
    by_cases hl : k < l.length
    · rw [if_pos hl, ← hk, ← hn]; rfl
    · rw [if_neg hl, ← hk, List.getElem?_eq_none (by omega)]
  · rw [if_neg hk]
theorem wf_set {l : List Nd} {op : List Int} (h : Wf l op) (k : Nat) (n : Nd) (h0 : n.f0 = (at0 l (k : Int)).f0) (hn : n.f1 = (at0 l (k : Int)).f1) (hk : k < l.length) : Wf (l.set k n) op := by
  obtain ⟨h1, h2, h3, h4⟩ := h
  have key : ∀ (i : Nat) m, (l.set k n)[i]? = some m → ∃ m', l[i]? = some m' ∧ m.f0 = m'.f0 ∧ m.f1 = m'.f1 := by
    intro i m hm
    rw [List.getElem?_set] at hm
    by_cases hki : k = i
    · rw [if_pos hki, if_pos hk] at hm
      obtain rfl : n = m := by simpa using hm
      exact ⟨at0 l (k : Int), by rw [← hki]; exact at0_mem hk, h0, hn⟩
    · rw [if_neg hki] at hm
      exact ⟨m, hm, rfl, rfl⟩
  refine ⟨fun h => ?_, fun m hm => ?_, fun i m hm hi => ?_, fun i hi => ?_⟩
  · exact h1 (by simpa using h)
  · obtain ⟨m', e, a, b⟩ := key 0 m hm
    rw [a, b]
    exact h2 m' e
  · obtain ⟨m', e, a, b⟩ := key i m hm
    rw [a, at0_set l k n hn]
    exact h3 i m' e hi
  · obtain ⟨a, b, c⟩ := h4 i hi
    exact ⟨a, by rw [List.length_set]; exact b, by rw [at0_set l k n hn]; exact c⟩
theorem wf_push {l : List Nd} {op : List Int} (h : Wf l op) (i : Int) (h0 : 0 ≤ i) (h1 : i < (l.length : Int)) (h2 : (at0 l i).f1 ≠ El.nul) : Wf l (op ++ [i]) := by
  obtain ⟨a, b, c, d⟩ := h
  refine ⟨fun h => ?_, b, c, fun j hj => ?_⟩
  · rw [h] at h1; simp at h1; omega
  · rcases List.mem_append.1 hj with hj | hj
    · exact d j hj
    · rw [List.mem_singleton] at hj
      rw [hj]; exact ⟨h0, h1, h2⟩
theorem wf_pop {l : List Nd} {op : List Int} (h : Wf l op) : Wf l op.dropLast := by
  obtain ⟨a, b, c, d⟩ := h
  refine ⟨fun h => by rw [a h]; rfl, b, c, fun j hj => d j ?_⟩
  rw [List.dropLast_eq_take] at hj
  exact List.mem_of_mem_take hj
theorem put_some {l l' : List Nd} {op : List Int} {nm tx : ByteArray} {at_ : List El.Att} (h : El.put l op nm tx at_ = some l') : l' = l ++ [⟨El.inner op, nm, tx, at_⟩] ∧ l.length < 2000 := by
  unfold El.put at h
  split at h
  · rename_i hl
    injection h with h
    exact ⟨h.symm, hl⟩
  · cases h
theorem take_wf {l : List Nd} {op : List Int} (h : Wf l op) (t : El.Tok) (s : El.St) (ht : El.take l op t = .ok s) : Wf s.1 s.2 := by
  unfold El.take at ht
  split at ht
  · injection ht with ht; rw [← ht]; exact h
  split at ht
  · injection ht with ht; rw [← ht]; exact h
  split at ht
  · unfold El.begin_ at ht
    split at ht
    · cases ht
    rename_i hnm
    split at ht
    · cases ht
    rename_i hroot
    split at ht
    · cases ht
    split at ht
    · cases ht
    · rename_i l' hp
      injection ht with ht
      obtain ⟨e, _⟩ := put_some hp
      rw [← ht, e]
      have hw : Wf (l ++ [⟨El.inner op, t.f1, El.nul, t.f3⟩]) op := wf_put h _ rfl (fun ho => ⟨Classical.byContradiction fun hl => hroot ⟨ho, hl⟩, hnm⟩)
      show Wf _ (if t.f4 = true then op else op ++ [(l.length : Int)])
      split
      · exact hw
      · exact wf_push hw _ (by omega) (by rw [List.length_append, List.length_singleton]; omega) (by rw [at0_last]; exact hnm)
  split at ht
  · unfold El.end_ at ht
    split at ht
    · cases ht
    split at ht
    · injection ht with ht
      rw [← ht]
      exact wf_pop h
    · cases ht
  split at ht
  · unfold El.text at ht
    split at ht
    · split at ht
      · injection ht with ht; rw [← ht]; exact h
      · cases ht
    rename_i hin
    have ho := inner_ge h hin
    split at ht
    · injection ht with ht; rw [← ht]; exact h
    split at ht
    · rename_i k hk
      have hkl := El.lastI_lt l _ k hk
      split at ht
      · injection ht with ht
        rw [← ht]
        exact wf_set h k _ rfl rfl hkl
      · split at ht
        · cases ht
        · rename_i l' hp
          injection ht with ht
          rw [← ht, (put_some hp).1]
          exact wf_put h _ rfl (fun h => absurd h ho)
    · split at ht
      · cases ht
      · rename_i l' hp
        injection ht with ht
        rw [← ht, (put_some hp).1]
        exact wf_put h _ rfl (fun h => absurd h ho)
  · cases ht
theorem take_err {l : List Nd} {op : List Int} (t : El.Tok) (e : Int) (ht : El.take l op t = .error e) : e ≠ 0 := by
  unfold El.take at ht
  split at ht
  · cases ht
  split at ht
  · cases ht
  split at ht
  · unfold El.begin_ at ht
    split at ht
    · injection ht with ht; rw [← ht]; decide
    split at ht
    · injection ht with ht; rw [← ht]; decide
    split at ht
    · injection ht with ht; rw [← ht]; decide
    split at ht
    · injection ht with ht; rw [← ht]; decide
    · cases ht
  split at ht
  · unfold El.end_ at ht
    split at ht
    · injection ht with ht; rw [← ht]; decide
    split at ht
    · cases ht
    · injection ht with ht; rw [← ht]; decide
  split at ht
  · unfold El.text at ht
    split at ht
    · split at ht
      · cases ht
      · injection ht with ht; rw [← ht]; decide
    split at ht
    · cases ht
    split at ht
    · split at ht
      · cases ht
      · split at ht
        · injection ht with ht; rw [← ht]; decide
        · cases ht
    · split at ht
      · injection ht with ht; rw [← ht]; decide
      · cases ht
  · injection ht with ht; rw [← ht]; decide
theorem all_wf : ∀ (ts : List El.Tok) (l : List Nd) (op : List Int) (s : El.St), Wf l op → El.all l op ts = .ok s → Wf s.1 s.2
  | [], l, op, s, h, ha => by
    injection ha with ha
    rw [← ha]; exact h
  | t :: ts, l, op, s, h, ha => by
    rw [El.all] at ha
    cases ht : El.take l op t with
    | error e => rw [ht] at ha; cases ha
    | ok s1 =>
      rw [ht] at ha
      exact all_wf ts s1.1 s1.2 s (take_wf h t s1 ht) ha
theorem all_err : ∀ (ts : List El.Tok) (l : List Nd) (op : List Int) (e : Int), El.all l op ts = .error e → e ≠ 0
  | [], l, op, e, ha => by cases ha
  | t :: ts, l, op, e, ha => by
    rw [El.all] at ha
    cases ht : El.take l op t with
    | error e1 => rw [ht] at ha; injection ha with ha; rw [← ha]; exact take_err t e1 ht
    | ok s1 =>
      rw [ht] at ha
      exact all_err ts s1.1 s1.2 e ha
theorem tree_ok (ts : List El.Tok) (h : (El.tree ts).2 = 0) : ∃ l, El.all [] [] ts = .ok (l, []) ∧ l ≠ [] ∧ El.tree ts = (l, 0) := by
  unfold El.tree at h ⊢
  cases ha : El.all [] [] ts with
  | error e =>
    rw [ha] at h
    exact absurd h (all_err _ _ _ _ ha)
  | ok s =>
    rw [ha] at h
    simp only at h ⊢
    by_cases hq : s.1 = [] ∨ s.2 ≠ []
    · rw [if_pos hq] at h
      cases h
    · rw [if_neg hq]
      have h1 : s.1 ≠ [] := fun h => hq (.inl h)
      have h2 : s.2 = [] := Classical.byContradiction fun h => hq (.inr h)
      exact ⟨s.1, by rw [← h2], h1, rfl⟩
theorem parse_ok (s : List UInt8) (h : (parseL s).2 = 0) : ∃ l ts, parseL s = (l, 0) ∧ Tk.split s = (ts, 0) ∧ El.all [] [] ts = .ok (l, []) ∧ l ≠ [] ∧ Wf l [] := by
  unfold parseL at h ⊢
  by_cases hs : (Tk.split s).2 = 0
  · rw [if_pos hs] at h ⊢
    obtain ⟨l, h1, h2, h3⟩ := tree_ok _ h
    exact ⟨l, (Tk.split s).1, h3, by rw [← hs], h1, h2, all_wf _ _ _ _ wf_nil h1⟩
  · rw [if_neg hs] at h
    exact absurd h hs
theorem take_len {l : List Nd} {op : List Int} (h : l.length ≤ 2000) (t : El.Tok) (s : El.St) (ht : El.take l op t = .ok s) : s.1.length ≤ 2000 := by
  have putd : ∀ (nm tx : ByteArray) (at_ : List El.Att) (l' : List Nd), El.put l op nm tx at_ = some l' → l'.length ≤ 2000 := by
    intro nm tx at_ l' hp
    obtain ⟨e, hl⟩ := put_some hp
    rw [e, List.length_append, List.length_singleton]
    omega
  unfold El.take at ht
  split at ht
  · injection ht with ht; rw [← ht]; exact h
  split at ht
  · injection ht with ht; rw [← ht]; exact h
  split at ht
  · unfold El.begin_ at ht
    split at ht
    · cases ht
    split at ht
    · cases ht
    split at ht
    · cases ht
    split at ht
    · cases ht
    · rename_i l' hp
      injection ht with ht
      rw [← ht]
      exact putd _ _ _ _ hp
  split at ht
  · unfold El.end_ at ht
    split at ht
    · cases ht
    split at ht
    · injection ht with ht; rw [← ht]; exact h
    · cases ht
  split at ht
  · unfold El.text at ht
    split at ht
    · split at ht
      · injection ht with ht; rw [← ht]; exact h
      · cases ht
    split at ht
    · injection ht with ht; rw [← ht]; exact h
    split at ht
    · split at ht
      · injection ht with ht
        rw [← ht, List.length_set]
        exact h
      · split at ht
        · cases ht
        · rename_i l' hp
          injection ht with ht
          rw [← ht]
          exact putd _ _ _ _ hp
    · split at ht
      · cases ht
      · rename_i l' hp
        injection ht with ht
        rw [← ht]
        exact putd _ _ _ _ hp
  · cases ht
theorem all_len : ∀ (ts : List El.Tok) (l : List Nd) (op : List Int) (s : El.St), l.length ≤ 2000 → El.all l op ts = .ok s → s.1.length ≤ 2000
  | [], l, op, s, h, ha => by
    injection ha with ha
    rw [← ha]; exact h
  | t :: ts, l, op, s, h, ha => by
    rw [El.all] at ha
    cases ht : El.take l op t with
    | error e => rw [ht] at ha; cases ha
    | ok s1 =>
      rw [ht] at ha
      exact all_len ts s1.1 s1.2 s (take_len h t s1 ht) ha
theorem behind_at {x m r : List UInt8} (h : Tk.behind x m = some r) : x.isPrefixOf m = true ∧ r = m.drop x.length := by
  unfold Tk.behind at h
  split at h
  · rename_i hp
    injection h with h
    exact ⟨hp, h.symm⟩
  · cases h
def cdata : List UInt8 := [60, 33, 91, 67, 68, 65, 84, 65, 91, 60, 98, 62, 93, 93, 62]
def comm : List UInt8 := [60, 33, 45, 45, 32, 99, 32, 45, 45, 62]
def elem : List UInt8 := [60, 100, 47, 62]
def piece (c : Nat) : List UInt8 := if c = 0 then [97] else if c = 1 then cdata else if c = 2 then comm else elem
def body : List Nat → List UInt8
  | [] => [60, 47, 114, 62]
  | c :: r => piece c ++ body r
def nameL : List UInt8 → Bool
  | [] => false
  | c :: r => Tk.letter c && r.all Tk.within
def okL (l : List UInt8) : Prop := ∀ c ∈ l, Tk.allowed c = true
def attrsOk (ys : List S68) : Prop := (∀ y ∈ ys, nameL y.f0.data.toList = true ∧ okL y.f1.data.toList) ∧ ys.Pairwise (fun a b => a.f0 ≠ b.f0)
def TokOk (t : El.Tok) : Prop := (t.f0 = 1 → nameL t.f1.data.toList = true ∧ attrsOk t.f3) ∧ (t.f0 = 3 → okL t.f2.data.toList)
theorem allowed_of (n : Nat) (h : 32 ≤ n ∨ n = 9 ∨ n = 10 ∨ n = 13) (h2 : n < 256) : Tk.allowed (UInt8.ofNat n) = true := by
  have hn : (UInt8.ofNat n).toNat = n := by simp; omega
  unfold Tk.allowed Tk.space
  rw [hn]
  rcases h with h | h | h | h
  · by_cases h3 : n = 32
    · subst h3; decide
    · have : decide (32 < n) = true := decide_eq_true (by omega)
      rw [this]; rfl
  · subst h; decide
  · subst h; decide
  · subst h; decide
theorem one_ (a : UInt8) : (⟨#[a]⟩ : ByteArray).data.toList = [a] := rfl
theorem two_ (a b : UInt8) : (⟨#[a, b]⟩ : ByteArray).data.toList = [a, b] := rfl
theorem three_ (a b c : UInt8) : (⟨#[a, b, c]⟩ : ByteArray).data.toList = [a, b, c] := rfl
theorem four_ (a b c d : UInt8) : (⟨#[a, b, c, d]⟩ : ByteArray).data.toList = [a, b, c, d] := rfl
theorem enc_bytes (v : Nat) (hv : Utf8.valid (v : Int) = true) (c : UInt8) (hc : c ∈ (Utf8.encode (v : Int)).data.toList) : (v < 128 ∧ c = UInt8.ofNat v) ∨ ∃ n, 128 ≤ n ∧ n < 256 ∧ (v < 1114112 → c = UInt8.ofNat n) := by
  have big : ∀ n, 128 ≤ n → (v < 1114112 → n < 256) → c = UInt8.ofNat n → ∃ n, 128 ≤ n ∧ n < 256 ∧ (v < 1114112 → c = UInt8.ofNat n) := by
    intro n h1 h2 h3
    by_cases h : v < 1114112
    · exact ⟨n, h1, h2 h, fun _ => h3⟩
    · exact ⟨128, by omega, by omega, fun h' => absurd h' h⟩
  have e : Utf8.encode (v : Int) = if v < 128 then ⟨#[UInt8.ofNat v]⟩ else if v < 2048 then ⟨#[UInt8.ofNat (192 + v / 64), UInt8.ofNat (128 + v % 64)]⟩ else if v < 65536 then ⟨#[UInt8.ofNat (224 + v / 4096), UInt8.ofNat (128 + v / 64 % 64), UInt8.ofNat (128 + v % 64)]⟩ else ⟨#[UInt8.ofNat (240 + v / 262144), UInt8.ofNat (128 + v / 4096 % 64), UInt8.ofNat (128 + v / 64 % 64), UInt8.ofNat (128 + v % 64)]⟩ := by
    unfold Utf8.encode
    rw [if_pos hv, Int.toNat_natCast]
  rw [e] at hc
  clear e hv
  by_cases h1 : v < 128
  · rw [if_pos h1, one_, List.mem_singleton] at hc
    exact .inl ⟨h1, hc⟩
  right
  rw [if_neg h1] at hc
  by_cases h2 : v < 2048
  · rw [if_pos h2, two_] at hc
    simp only [List.mem_cons, List.not_mem_nil, or_false] at hc
    rcases hc with hc | hc
    · exact big _ (by omega) (fun _ => by omega) hc
    · exact big _ (by omega) (fun _ => by omega) hc
  rw [if_neg h2] at hc
  by_cases h3 : v < 65536
  · rw [if_pos h3, three_] at hc
    simp only [List.mem_cons, List.not_mem_nil, or_false] at hc
    rcases hc with hc | hc | hc
    · exact big _ (by omega) (fun _ => by omega) hc
    · exact big _ (by omega) (fun _ => by omega) hc
    · exact big _ (by omega) (fun _ => by omega) hc
  · rw [if_neg h3, four_] at hc
    simp only [List.mem_cons, List.not_mem_nil, or_false] at hc
    rcases hc with hc | hc | hc | hc
    · exact big _ (by omega) (fun _ => by omega) hc
    · exact big _ (by omega) (fun _ => by omega) hc
    · exact big _ (by omega) (fun _ => by omega) hc
    · exact big _ (by omega) (fun _ => by omega) hc
theorem enc_ok (v : Nat) (h : Tk.may v = true) : okL (Utf8.encode (v : Int)).data.toList := by
  have hm : v = 9 ∨ v = 10 ∨ v = 13 ∨ (32 ≤ v ∧ v ≤ 1114111 ∧ (v < 55296 ∨ 57343 < v)) := by
    unfold Tk.may at h
    simp only [Bool.or_eq_true, Bool.and_eq_true, beq_iff_eq, decide_eq_true_eq] at h
    omega
  have hv : Utf8.valid (v : Int) = true := by
    unfold Utf8.valid
    simp only [Bool.or_eq_true, Bool.and_eq_true, decide_eq_true_eq]
    omega
  intro c hc
  rcases enc_bytes v hv c hc with ⟨h1, h2⟩ | ⟨n, h1, h2, h3⟩
  · rw [h2]
    exact allowed_of v (by omega) (by omega)
  · rw [h3 (by omega)]
    exact allowed_of n (by omega) h2
theorem numbered_ok {base : Nat} {l c : List UInt8} (h : Tk.numbered base l = some c) : okL c := by
  unfold Tk.numbered at h
  split at h
  · cases h
  · obtain ⟨v, _, h⟩ := Option.bind_eq_some_iff.1 h
    split at h
    · rename_i hm
      injection h with h
      rw [← h]
      exact enc_ok v hm
    · cases h
theorem named_ok {l c : List UInt8} (h : Tk.named l = some c) : okL c := by
  unfold Tk.named at h
  split at h
  · injection h with h; rw [← h]; exact List.all_eq_true.1 (show ([60] : List UInt8).all Tk.allowed = true by decide)
  split at h
  · injection h with h; rw [← h]; exact List.all_eq_true.1 (show ([62] : List UInt8).all Tk.allowed = true by decide)
  split at h
  · injection h with h; rw [← h]; exact List.all_eq_true.1 (show ([38] : List UInt8).all Tk.allowed = true by decide)
  split at h
  · injection h with h; rw [← h]; exact List.all_eq_true.1 (show ([34] : List UInt8).all Tk.allowed = true by decide)
  split at h
  · injection h with h; rw [← h]; exact List.all_eq_true.1 (show ([39] : List UInt8).all Tk.allowed = true by decide)
  · cases h
theorem entity_ok {l c : List UInt8} (h : Tk.entity l = some c) : okL c := by
  unfold Tk.entity at h
  split at h
  · exact numbered_ok h
  · exact numbered_ok h
  · exact named_ok h
theorem upto_sub {x l a r : List UInt8} (h : Tk.upto x l = some (a, r)) : (∀ c ∈ a, c ∈ l) ∧ ∀ c ∈ r, c ∈ l := by
  unfold Tk.upto at h
  split at h
  · obtain ⟨rfl, rfl⟩ := Prod.mk.inj (Option.some.inj h)
    exact ⟨fun c hc => List.mem_of_mem_take hc, fun c hc => List.mem_of_mem_drop hc⟩
  · cases h
theorem behind_sub {x l r : List UInt8} (h : Tk.behind x l = some r) : ∀ c ∈ r, c ∈ l := by
  obtain ⟨_, e⟩ := behind_at h
  rw [e]
  exact fun c hc => List.mem_of_mem_drop hc
theorem ents_ok : ∀ (n : Nat) (l t : List UInt8), okL l → Tk.ents n l = some t → okL t
  | 0, _, _, _, h => by simp [Tk.ents] at h
  | n + 1, l, t, hl, h => by
    rw [Tk.ents] at h
    cases h1 : Tk.upto [38] l with
    | none =>
      rw [h1] at h
      obtain rfl := Option.some.inj h
      exact hl
    | some p =>
      obtain ⟨a, b⟩ := p
      rw [h1] at h
      (try dsimp only at h)
      cases h2 : Tk.upto [59] b with
      | none => rw [h2] at h; cases h
      | some q =>
        obtain ⟨nm, r⟩ := q
        rw [h2] at h
        (try dsimp only at h)
        obtain ⟨c, h3, h⟩ := Option.bind_eq_some_iff.1 h
        obtain ⟨u, h4, h⟩ := Option.map_eq_some_iff.1 h
        subst h
        have e1 := upto_sub h1
        have e2 := upto_sub h2
        have hu := ents_ok n r u (fun x hx => hl x (e1.2 x (e2.2 x hx))) h4
        intro x hx
        rcases List.mem_append.1 hx with hx | hx
        · exact hl x (e1.1 x hx)
        · rcases List.mem_append.1 hx with hx | hx
          · exact entity_ok h3 x hx
          · exact hu x hx
theorem take_all_ (p : UInt8 → Bool) : ∀ (l : List UInt8), ∀ x ∈ l.takeWhile p, p x = true
  | [], x, h => absurd h (by simp)
  | b :: l, x, h => by
    by_cases hb : p b = true
    · rw [List.takeWhile_cons_of_pos hb] at h
      rcases List.mem_cons.1 h with h | h
      · rw [h]; exact hb
      · exact take_all_ p l x h
    · rw [List.takeWhile_cons_of_neg hb] at h; exact absurd h (by simp)
theorem head_ok {l : List UInt8} (h : Tk.head l ≠ []) : nameL (Tk.head l) = true := by
  cases l with
  | nil => exact absurd rfl h
  | cons c r =>
    simp only [Tk.head] at h ⊢
    by_cases hc : Tk.letter c = true
    · rw [if_pos hc]
      show (Tk.letter c && (r.takeWhile Tk.within).all Tk.within) = true
      rw [hc, Bool.true_and, List.all_eq_true]
      exact fun x hx => take_all_ _ r x hx
    · rw [if_neg hc] at h
      exact absurd rfl h
theorem skip_sub (l : List UInt8) : ∀ c ∈ Tk.skip l, c ∈ l := fun c hc => (List.dropWhile_sublist _).subset hc
theorem value_ok {l v r : List UInt8} (hl : okL l) (h : Tk.value l = some (v, r)) : okL v ∧ ∀ c ∈ r, c ∈ l := by
  unfold Tk.value at h
  (try dsimp only at h)
  obtain ⟨q, h1, h⟩ := Option.bind_eq_some_iff.1 h
  obtain ⟨⟨a, b⟩, h2, h⟩ := Option.bind_eq_some_iff.1 h
  (try dsimp only at h)
  split at h
  · cases h
  · obtain ⟨u, h3, h⟩ := Option.map_eq_some_iff.1 h
    obtain ⟨rfl, rfl⟩ := Prod.mk.inj h
    have e1 := behind_sub h1
    have e2 := upto_sub h2
    exact ⟨ents_ok _ _ _ (fun c hc => hl c (e1 c (e2.1 c hc))) h3, fun c hc => e1 c (e2.2 c hc)⟩
theorem attr_ok {l r : List UInt8} {a : S68} (hl : okL l) (h : Tk.attr l = some (a, r)) : nameL a.f0.data.toList = true ∧ okL a.f1.data.toList ∧ ∀ c ∈ r, c ∈ l := by
  unfold Tk.attr at h
  split at h
  · cases h
  · rename_i hn
    obtain ⟨q, h1, h⟩ := Option.bind_eq_some_iff.1 h
    obtain ⟨⟨v, b⟩, h2, h⟩ := Option.map_eq_some_iff.1 h
    obtain ⟨rfl, rfl⟩ := Prod.mk.inj h
    have e1 := behind_sub h1
    have e0 : ∀ c ∈ q, c ∈ l := fun c hc => List.mem_of_mem_drop (skip_sub _ c (e1 c hc))
    obtain ⟨e2, e3⟩ := value_ok (fun c hc => hl c (e0 c (skip_sub _ c hc))) h2
    exact ⟨head_ok hn, e2, fun c hc => e0 c (skip_sub _ c (e3 c hc))⟩
theorem attrs_ok : ∀ (n : Nat) (nm : List UInt8) (ys : List S68) (l : List UInt8) (t : S40) (r : List UInt8), okL l → attrsOk ys → Tk.attrs n nm ys l = some (t, r) → t.f0 = 1 ∧ t.f1 = Tk.bs nm ∧ attrsOk t.f3 ∧ ∀ c ∈ r, c ∈ l
  | 0, _, _, _, _, _, _, _, h => by simp [Tk.attrs] at h
  | n + 1, nm, ys, l, t, r, hl, hy, h => by
    rw [Tk.attrs] at h
    (try dsimp only at h)
    have hs := skip_sub l
    cases h1 : Tk.behind [62] (Tk.skip l) with
    | some q =>
      rw [h1] at h
      obtain ⟨rfl, rfl⟩ := Prod.mk.inj (Option.some.inj h)
      exact ⟨rfl, rfl, hy, fun c hc => hs c (behind_sub h1 c hc)⟩
    | none =>
      rw [h1] at h
      (try dsimp only at h)
      cases h2 : Tk.behind [47, 62] (Tk.skip l) with
      | some q =>
        rw [h2] at h
        obtain ⟨rfl, rfl⟩ := Prod.mk.inj (Option.some.inj h)
        exact ⟨rfl, rfl, hy, fun c hc => hs c (behind_sub h2 c hc)⟩
      | none =>
        rw [h2] at h
        (try dsimp only at h)
        split at h
        · cases h
        · obtain ⟨⟨x, q⟩, h3, h⟩ := Option.bind_eq_some_iff.1 h
          (try dsimp only at h)
          split at h
          · cases h
          · rename_i hany
            obtain ⟨e1, e2, e3⟩ := attr_ok (fun c hc => hl c (hs c hc)) h3
            have hy2 : attrsOk (ys ++ [x]) := by
              refine ⟨fun y hy' => ?_, ?_⟩
              · rcases List.mem_append.1 hy' with hy' | hy'
                · exact hy.1 y hy'
                · rw [List.mem_singleton] at hy'; rw [hy']; exact ⟨e1, e2⟩
              · rw [List.pairwise_append]
                refine ⟨hy.2, List.pairwise_singleton _ _, fun a ha b hb => ?_⟩
                rw [List.mem_singleton] at hb
                rw [hb]
                intro he
                apply hany
                rw [List.any_eq_true]
                exact ⟨a, ha, by rw [he]; exact beq_self_eq_true _⟩
            obtain ⟨f1, f2, f3, f4⟩ := attrs_ok n nm _ q t r (fun c hc => hl c (hs c (e3 c hc))) hy2 h
            exact ⟨f1, f2, f3, fun c hc => hs c (e3 c (f4 c hc))⟩
theorem next_ok {fst : Bool} {l r : List UInt8} {t : S40} (hl : okL l) (h : Tk.next fst l = some (t, r)) : TokOk t ∧ ∀ c ∈ r, c ∈ l := by
  have other : ∀ (k : Int) (a b c : List UInt8) , k ≠ 1 → k ≠ 3 → TokOk (Tk.tk k a b [] false) := fun k a b c h1 h3 => ⟨fun h => absurd h h1, fun h => absurd h h3⟩
  unfold Tk.next at h
  cases h1 : Tk.behind [60, 33, 45, 45] l with
  | some q =>
    rw [h1] at h
    unfold Tk.comment at h
    obtain ⟨⟨a, b⟩, h2, h⟩ := Option.bind_eq_some_iff.1 h
    (try dsimp only at h)
    split at h
    · cases h
    · obtain ⟨rfl, rfl⟩ := Prod.mk.inj (Option.some.inj h)
      exact ⟨other 4 [] a [] (by decide) (by decide), fun c hc => behind_sub h1 c ((upto_sub h2).2 c hc)⟩
  | none =>
  rw [h1] at h
  (try dsimp only at h)
  cases h1 : Tk.behind [60, 33, 91, 67, 68, 65, 84, 65, 91] l with
  | some q =>
    rw [h1] at h
    obtain ⟨⟨a, b⟩, h2, h⟩ := Option.map_eq_some_iff.1 (show (Tk.upto [93, 93, 62] q).map _ = some (t, r) from h)
    obtain ⟨rfl, rfl⟩ := Prod.mk.inj h
    exact ⟨⟨fun h => absurd h (by show ¬ (3 : Int) = 1; decide), fun _ c hc => hl c (behind_sub h1 c ((upto_sub h2).1 c hc))⟩, fun c hc => behind_sub h1 c ((upto_sub h2).2 c hc)⟩
  | none =>
  rw [h1] at h
  (try dsimp only at h)
  cases h1 : Tk.behind [60, 63] l with
  | some q =>
    rw [h1] at h
    obtain ⟨⟨a, b⟩, h2, h⟩ := Option.bind_eq_some_iff.1 (show (Tk.upto [63, 62] q).bind _ = some (t, r) from h)
    (try dsimp only at h)
    split at h
    · obtain ⟨rfl, rfl⟩ := Prod.mk.inj (Option.some.inj h)
      exact ⟨other 5 [] a [] (by decide) (by decide), fun c hc => behind_sub h1 c ((upto_sub h2).2 c hc)⟩
    · cases h
  | none =>
  rw [h1] at h
  (try dsimp only at h)
  cases h1 : Tk.behind [60, 47] l with
  | some q =>
    rw [h1] at h
    (try dsimp only at h)
    unfold Tk.close at h
    split at h
    · cases h
    · obtain ⟨b, h2, h⟩ := Option.map_eq_some_iff.1 h
      obtain ⟨rfl, rfl⟩ := Prod.mk.inj h
      exact ⟨other 2 _ [] [] (by decide) (by decide), fun c hc => behind_sub h1 c (List.mem_of_mem_drop (skip_sub _ c (behind_sub h2 c hc)))⟩
  | none =>
  rw [h1] at h
  (try dsimp only at h)
  cases h1 : Tk.behind [60] l with
  | some q =>
    rw [h1] at h
    (try dsimp only at h)
    unfold Tk.opening at h
    split at h
    · cases h
    · rename_i hn
      have hq : ∀ c ∈ q.drop (Tk.head q).length, c ∈ l := fun c hc => behind_sub h1 c (List.mem_of_mem_drop hc)
      obtain ⟨f1, f2, f3, f4⟩ := attrs_ok _ _ _ _ _ _ (fun c hc => hl c (hq c hc)) ⟨fun y hy => absurd hy (by simp), List.Pairwise.nil⟩ h
      refine ⟨⟨fun _ => ⟨by rw [f2]; exact head_ok hn, f3⟩, fun h => ?_⟩, fun c hc => hq c (f4 c hc)⟩
      rw [f1] at h
      exact absurd h (by decide)
  | none =>
  rw [h1] at h
  (try dsimp only at h)
  unfold Tk.text at h
  (try dsimp only at h)
  obtain ⟨x, hx, h⟩ := Option.map_eq_some_iff.1 h
  obtain ⟨rfl, rfl⟩ := Prod.mk.inj h
  exact ⟨⟨fun h => absurd h (by show ¬ (3 : Int) = 1; decide), fun _ => ents_ok _ _ _ (fun c hc => hl c ((List.takeWhile_sublist _).subset hc)) hx⟩, fun c hc => List.mem_of_mem_drop hc⟩
theorem pieces_ok : ∀ (n : Nat) (fst : Bool) (l : List UInt8) (ts : List S40), okL l → Tk.pieces n fst l = some ts → ∀ t ∈ ts, TokOk t
  | 0, _, _, _, _, h => by simp [Tk.pieces] at h
  | n + 1, fst, l, ts, hl, h => by
    rw [Tk.pieces] at h
    by_cases h0 : l = []
    · rw [if_pos h0] at h
      obtain rfl := Option.some.inj h
      exact fun t ht => absurd ht (by simp)
    · rw [if_neg h0] at h
      obtain ⟨⟨t, r⟩, h1, h⟩ := Option.bind_eq_some_iff.1 h
      obtain ⟨us, h2, h⟩ := Option.map_eq_some_iff.1 h
      subst h
      obtain ⟨e1, e2⟩ := next_ok hl h1
      intro x hx
      rcases List.mem_cons.1 hx with rfl | hx
      · exact e1
      · exact pieces_ok n false r us (fun c hc => hl c (e2 c hc)) h2 x hx
theorem split_ok (l : List UInt8) : ∀ t ∈ (Tk.split l).1, TokOk t := by
  unfold Tk.split
  by_cases h1 : 20000 < l.length
  · rw [if_pos h1]; exact fun t ht => absurd ht (by simp)
  · rw [if_neg h1]
    by_cases h2 : l.any (fun c => !Tk.allowed c) = true
    · rw [if_pos h2]; exact fun t ht => absurd ht (by simp)
    · rw [if_neg h2]
      cases hp : Tk.pieces (l.length + 1) true l with
      | none => exact fun t ht => absurd ht (by simp)
      | some ts =>
        refine pieces_ok _ _ _ _ (fun c hc => ?_) hp
        refine Classical.byContradiction fun hn => h2 ?_
        rw [List.any_eq_true]
        exact ⟨c, hc, by rw [Bool.eq_false_iff.2 hn]; rfl⟩
abbrev Key := Int × ByteArray
def key (n : Nd) : Key := (n.f0, n.f1)
def NodeOk (n : Nd) : Prop := (n.f1 ≠ El.nul → nameL n.f1.data.toList = true ∧ n.f2 = El.nul ∧ attrsOk n.f3) ∧ (n.f1 = El.nul → n.f2 ≠ El.nul ∧ okL n.f2.data.toList ∧ n.f3 = [])
def popTo (R : List Int) (p : Int) : List Int := (R.reverse.dropWhile (fun x => x != p)).reverse
def stepR (R : List Int) (i : Nat) (k : Key) : List Int := if k.2 = El.nul then popTo R k.1 else popTo R k.1 ++ [(i : Int)]
def cond (pre : List Key) (R : List Int) (k : Key) : Prop :=
  (pre ≠ [] → popTo R k.1 ≠ []) ∧ (k.2 ≠ El.nul → (popTo R k.1).length < 20) ∧ (k.2 = El.nul → ∀ (m : Nat) (q : Key), pre[m]? = some q → q.1 = k.1 → (∀ (j : Nat) (q' : Key), m < j → pre[j]? = some q' → q'.1 ≠ k.1) → q.2 ≠ El.nul)
def chk : List Key → List Int → List Key → Prop
  | _, _, [] => True
  | pre, R, k :: r => cond pre R k ∧ chk (pre ++ [k]) (stepR R pre.length k) r
def stk : List Key → List Int → List Key → List Int
  | _, R, [] => R
  | pre, R, k :: r => stk (pre ++ [k]) (stepR R pre.length k) r
theorem chk_snoc (k : Key) : ∀ (l pre : List Key) (R : List Int), chk pre R l → cond (pre ++ l) (stk pre R l) k → chk pre R (l ++ [k])
  | [], pre, R, _, h => by
    rw [List.append_nil] at h
    exact ⟨h, trivial⟩
  | q :: r, pre, R, h, hc => by
    refine ⟨h.1, chk_snoc k r (pre ++ [q]) _ h.2 ?_⟩
    rw [List.append_assoc]
    exact hc
theorem stk_snoc (k : Key) : ∀ (l pre : List Key) (R : List Int), stk pre R (l ++ [k]) = stepR (stk pre R l) (pre ++ l).length k
  | [], pre, R => by rw [List.append_nil]; rfl
  | q :: r, pre, R => by
    show stk (pre ++ [q]) (stepR R pre.length q) (r ++ [k]) = _
    rw [stk_snoc k r, List.append_assoc]
    rfl
theorem popTo_at (o s : List Int) (p : Int) (h : ∀ x ∈ s, x ≠ p) : popTo (o ++ [p] ++ s) p = o ++ [p] := by
  unfold popTo
  rw [List.reverse_append, List.reverse_append]
  have : ∀ (a b : List Int), (∀ x ∈ a, x ≠ p) → (a ++ ([p].reverse ++ b)).dropWhile (fun x => x != p) = [p].reverse ++ b := by
    intro a b ha
    induction a with
    | nil => simp
    | cons x a ih =>
      rw [List.cons_append, List.dropWhile_cons_of_pos (by simpa using ha x List.mem_cons_self)]
      exact ih (fun y hy => ha y (List.mem_cons_of_mem _ hy))
  rw [this _ _ (fun x hx => h x (List.mem_reverse.1 hx))]
  simp
def Good (l : List Nd) (op : List Int) : Prop :=
  chk [] [] (l.map key) ∧ (∃ s, stk [] [] (l.map key) = op ++ s) ∧ (stk [] [] (l.map key)).Pairwise (· < ·) ∧ (∀ x ∈ stk [] [] (l.map key), x < (l.length : Int)) ∧ ∀ n ∈ l, NodeOk n
theorem good_nil : Good [] [] := ⟨trivial, ⟨[], rfl⟩, List.Pairwise.nil, fun x h => absurd h (by simp [stk]), fun n h => absurd h (by simp)⟩
theorem last_unique (p : Int) : ∀ (l : List Nd) (m : Nat) (q : Nd), l[m]? = some q → q.f0 = p → (∀ (j : Nat) (q' : Nd), m < j → l[j]? = some q' → q'.f0 ≠ p) → El.lastI l p = some m := by
  intro l
  rw [← List.reverse_reverse l]
  generalize l.reverse = r
  induction r with
  | nil => intro m q h; simp at h
  | cons n r ih =>
    intro m q hm hq hj
    rw [List.reverse_cons] at hm hj ⊢
    rw [El.lastI_snoc]
    rcases Nat.lt_trichotomy m r.reverse.length with h | h | h
    · rw [if_neg (hj r.reverse.length n h (by rw [List.getElem?_append_right (Nat.le_refl _), Nat.sub_self]; rfl))]
      rw [List.getElem?_append_left h] at hm
      refine ih m q hm hq (fun j q' hlt hq' => hj j q' hlt ?_)
      rw [List.getElem?_append_left (List.getElem?_eq_some_iff.1 hq').1]
      exact hq'
    · rw [h, List.getElem?_append_right (Nat.le_refl _), Nat.sub_self] at hm
      obtain rfl : n = q := by simpa using hm
      rw [if_pos hq, h]
    · rw [List.getElem?_eq_none (by rw [List.length_append, List.length_singleton]; omega)] at hm
      cases hm
theorem good_pop_to {l : List Nd} {op : List Int} (h : Good l op) (hr : op = [] → l = []) : popTo (stk [] [] (l.map key)) (El.inner op) = op := by
  obtain ⟨_, ⟨s, hs⟩, hp, _, _⟩ := h
  by_cases ho : op = []
  · have hl := hr ho
    subst hl
    subst ho
    rfl
  · have e : op.dropLast ++ [op.getLast ho] = op := List.dropLast_concat_getLast ho
    have ei : El.inner op = op.getLast ho := by unfold El.inner; rw [List.getLast?_eq_some_getLast ho]; rfl
    rw [hs] at hp ⊢
    rw [ei]
    have hpt := popTo_at op.dropLast s (op.getLast ho) (fun x hx => by
      have := (List.pairwise_append.1 hp).2.2 (op.getLast ho) (List.getLast_mem ho) x hx
      omega)
    rw [e] at hpt
    exact hpt
theorem good_put {l : List Nd} {op : List Int} (h : Good l op) (hw : Wf l op) (n : Nd) (h0 : n.f0 = El.inner op) (hn : NodeOk n) (hr : op = [] → l = []) (hd : n.f1 ≠ El.nul → op.length < 20) (ht : n.f1 = El.nul → ∀ k, El.lastI l (El.inner op) = some k → (at0 l (k : Int)).f1 ≠ El.nul) :
    Good (l ++ [n]) op ∧ (n.f1 ≠ El.nul → Good (l ++ [n]) (op ++ [(l.length : Int)])) := by
  have hpop := good_pop_to h hr
  obtain ⟨hc, ⟨s, hs⟩, hp, hb, hno⟩ := h
  have hk : key n = (El.inner op, n.f1) := by unfold key; rw [h0]
  have hnodes : ∀ x ∈ l ++ [n], NodeOk x := fun x hx => by
    rcases List.mem_append.1 hx with hx | hx
    · exact hno x hx
    · rw [List.mem_singleton] at hx; rw [hx]; exact hn
  have hop : op.Pairwise (· < ·) := by rw [hs] at hp; exact (List.pairwise_append.1 hp).1
  have hopb : ∀ x ∈ op, x < (l.length : Int) := fun x hx => hb x (by rw [hs]; exact List.mem_append_left _ hx)
  have hcond : cond (l.map key) (stk [] [] (l.map key)) (key n) := by
    rw [hk]
    unfold cond
    rw [hpop]
    refine ⟨fun hne ho => hne (by rw [hr ho]; rfl), hd, fun hz m q hm hq hj => ?_⟩
    rw [List.getElem?_map, Option.map_eq_some_iff] at hm
    obtain ⟨x, hx, rfl⟩ := hm
    have hl := last_unique (El.inner op) l m x hx hq (fun j q' hlt hq' => hj j (key q') hlt (by rw [List.getElem?_map, hq']; rfl))
    have := ht hz m hl
    rw [at0_some hx] at this
    exact this
  have hmap : (l ++ [n]).map key = l.map key ++ [key n] := by rw [List.map_append]; rfl
  have hchk : chk [] [] ((l ++ [n]).map key) := by
    rw [hmap]
    exact chk_snoc _ _ _ _ hc (by rw [List.nil_append]; exact hcond)
  have hstk : stk [] [] ((l ++ [n]).map key) = if n.f1 = El.nul then op else op ++ [(l.length : Int)] := by
    rw [hmap, stk_snoc, List.nil_append, List.length_map, hk]
    unfold stepR
    rw [hpop]
  have hlen : ((l ++ [n]).length : Int) = (l.length : Int) + 1 := by rw [List.length_append, List.length_singleton]; omega
  by_cases hz : n.f1 = El.nul
  · rw [if_pos hz] at hstk
    refine ⟨⟨hchk, ⟨[], by rw [hstk, List.append_nil]⟩, by rw [hstk]; exact hop, fun x hx => ?_, hnodes⟩, fun h => absurd hz h⟩
    rw [hstk] at hx
    have := hopb x hx
    omega
  · rw [if_neg hz] at hstk
    have hp2 : (op ++ [(l.length : Int)]).Pairwise (· < ·) := by
      rw [List.pairwise_append]
      refine ⟨hop, List.pairwise_singleton _ _, fun a ha b hb' => ?_⟩
      rw [List.mem_singleton] at hb'
      rw [hb']
      exact hopb a ha
    have hb2 : ∀ x ∈ op ++ [(l.length : Int)], x < ((l ++ [n]).length : Int) := fun x hx => by
      rcases List.mem_append.1 hx with hx | hx
      · have := hopb x hx; omega
      · rw [List.mem_singleton] at hx; omega
    exact ⟨⟨hchk, ⟨[(l.length : Int)], hstk⟩, by rw [hstk]; exact hp2, by rw [hstk]; exact hb2, hnodes⟩, fun _ => ⟨hchk, ⟨[], by rw [hstk, List.append_nil]⟩, by rw [hstk]; exact hp2, by rw [hstk]; exact hb2, hnodes⟩⟩
theorem good_pop {l : List Nd} {op : List Int} (h : Good l op) : Good l op.dropLast := by
  obtain ⟨hc, ⟨s, hs⟩, r⟩ := h
  refine ⟨hc, ?_, r⟩
  by_cases ho : op = []
  · subst ho; exact ⟨s, hs⟩
  · exact ⟨[op.getLast ho] ++ s, by rw [hs, ← List.append_assoc, List.dropLast_concat_getLast ho]⟩
theorem good_set {l : List Nd} {op : List Int} (h : Good l op) (k : Nat) (n : Nd) (hk : k < l.length) (h0 : key n = key (at0 l (k : Int))) (hn : NodeOk n) : Good (l.set k n) op := by
  have e : (l.set k n).map key = l.map key := by
    rw [List.map_set, h0]
    refine List.ext_getElem? fun i => ?_
    rw [List.getElem?_set]
    by_cases hi : k = i
    · subst hi
      rw [if_pos rfl, if_pos (by rw [List.length_map]; exact hk), List.getElem?_map, at0_mem hk]; rfl
    · rw [if_neg hi]
  obtain ⟨hc, hs, hp, hb, hno⟩ := h
  refine ⟨by rw [e]; exact hc, by rw [e]; exact hs, by rw [e]; exact hp, by rw [e, List.length_set]; exact hb, fun x hx => ?_⟩
  rcases List.mem_or_eq_of_mem_set hx with hx | hx
  · exact hno x hx
  · rw [hx]; exact hn
theorem take_good {l : List Nd} {op : List Int} (h : Good l op) (hw : Wf l op) (t : El.Tok) (hk : TokOk t) (s : El.St) (ht : El.take l op t = .ok s) : Good s.1 s.2 := by
  unfold El.take at ht
  split at ht
  · injection ht with ht; rw [← ht]; exact h
  split at ht
  · injection ht with ht; rw [← ht]; exact h
  split at ht
  · rename_i hkind
    unfold El.begin_ at ht
    split at ht
    · cases ht
    rename_i hnm
    split at ht
    · cases ht
    rename_i hroot
    split at ht
    · cases ht
    rename_i hdeep
    split at ht
    · cases ht
    · rename_i l' hp
      injection ht with ht
      obtain ⟨e, _⟩ := put_some hp
      obtain ⟨n1, n2⟩ := hk.1 hkind
      rw [← ht, e]
      obtain ⟨g1, g2⟩ := good_put h hw ⟨El.inner op, t.f1, El.nul, t.f3⟩ rfl ⟨fun _ => ⟨n1, rfl, n2⟩, fun hz => absurd hz hnm⟩ (fun ho => Classical.byContradiction fun hl => hroot ⟨ho, hl⟩) (fun _ => by omega) (fun hz => absurd hz hnm)
      show Good _ (if t.f4 = true then op else op ++ [(l.length : Int)])
      split
      · exact g1
      · exact g2 hnm
  split at ht
  · unfold El.end_ at ht
    split at ht
    · cases ht
    split at ht
    · injection ht with ht
      rw [← ht]
      exact good_pop h
    · cases ht
  split at ht
  · rename_i hkind
    have hok := hk.2 hkind
    unfold El.text at ht
    split at ht
    · split at ht
      · injection ht with ht; rw [← ht]; exact h
      · cases ht
    rename_i hin
    have ho := inner_ge hw hin
    split at ht
    · injection ht with ht; rw [← ht]; exact h
    rename_i hnn
    have newT : (∀ k, El.lastI l (El.inner op) = some k → (at0 l (k : Int)).f1 ≠ El.nul) → Good (l ++ [⟨El.inner op, El.nul, t.f2, []⟩]) op := fun hl =>
      (good_put h hw ⟨El.inner op, El.nul, t.f2, []⟩ rfl ⟨fun hz => absurd rfl hz, fun _ => ⟨hnn, hok, rfl⟩⟩ (fun h => absurd h ho) (fun hz => absurd rfl hz) (fun _ => hl)).1
    split at ht
    · rename_i k hlk
      have hkl := El.lastI_lt l _ k hlk
      split at ht
      · rename_i hname
        injection ht with ht
        rw [← ht]
        have hm : at0 l (k : Int) ∈ l := List.mem_of_getElem? (at0_mem hkl)
        obtain ⟨_, q2⟩ := h.2.2.2.2 _ hm
        have ea : at0 l (k : Int) = l.getD k El.zn := by unfold at0; rw [Int.toNat_natCast]
        obtain ⟨r1, r2, r3⟩ := q2 (by rw [ea]; exact hname)
        rw [← ea]
        refine good_set h k _ hkl rfl ⟨fun hz => absurd (show (at0 l (k : Int)).f1 = El.nul from by rw [ea]; exact hname) hz, fun _ => ⟨?_, ?_, r3⟩⟩
        · show (at0 l (k : Int)).f2 ++ t.f2 ≠ El.nul
          intro he
          have := congrArg ByteArray.size he
          rw [ByteArray.size_append, show El.nul.size = 0 from rfl] at this
          apply hnn
          apply ByteArray.ext
          exact Array.eq_empty_of_size_eq_zero (show t.f2.size = 0 by omega)
        · show okL ((at0 l (k : Int)).f2 ++ t.f2).data.toList
          intro c hc
          rw [ByteArray.data_append, Array.toList_append] at hc
          rcases List.mem_append.1 hc with hc | hc
          · exact r2 c hc
          · exact hok c hc
      · rename_i hname
        split at ht
        · cases ht
        · rename_i l' hp
          injection ht with ht
          rw [← ht, (put_some hp).1]
          refine newT (fun k' hk' => ?_)
          rw [hlk] at hk'
          injection hk' with hk'
          rw [← hk']
          unfold at0
          rw [Int.toNat_natCast]
          exact hname
    · rename_i hlk
      split at ht
      · cases ht
      · rename_i l' hp
        injection ht with ht
        rw [← ht, (put_some hp).1]
        exact newT (fun k' hk' => by rw [hlk] at hk'; cases hk')
  · cases ht
theorem all_good : ∀ (ts : List El.Tok) (l : List Nd) (op : List Int) (s : El.St), (∀ t ∈ ts, TokOk t) → Good l op → Wf l op → El.all l op ts = .ok s → Good s.1 s.2
  | [], l, op, s, _, h, _, ha => by
    injection ha with ha
    rw [← ha]; exact h
  | t :: ts, l, op, s, hk, h, hw, ha => by
    rw [El.all] at ha
    cases ht : El.take l op t with
    | error e => rw [ht] at ha; cases ha
    | ok s1 =>
      rw [ht] at ha
      exact all_good ts s1.1 s1.2 s (fun x hx => hk x (List.mem_cons_of_mem _ hx)) (take_good h hw t (hk t List.mem_cons_self) s1 ht) (take_wf hw t s1 ht) ha
def AttrsSz (ys : List S68) : Prop := ∀ y ∈ ys, y.f0.size ≤ 1000000 ∧ y.f1.size ≤ 1000000
theorem attr_sz {l r : List UInt8} {a : S68} (hl : l.length ≤ 200000) (h : Tk.attr l = some (a, r)) : a.f0.size ≤ 1000000 ∧ a.f1.size ≤ 1000000 ∧ r.length ≤ l.length := by
  have hr := attr_len h
  refine ⟨?_, ?_, by omega⟩
  · unfold Tk.attr at h
    split at h
    · cases h
    · obtain ⟨q, h1, h⟩ := Option.bind_eq_some_iff.1 h
      obtain ⟨⟨v, b⟩, h2, h⟩ := Option.map_eq_some_iff.1 h
      obtain ⟨rfl, rfl⟩ := Prod.mk.inj h
      show (Tk.bs (Tk.head l)).size ≤ _
      rw [bs_size]
      have := head_le l
      omega
  · unfold Tk.attr at h
    split at h
    · cases h
    · obtain ⟨q, h1, h⟩ := Option.bind_eq_some_iff.1 h
      obtain ⟨⟨v, b⟩, h2, h⟩ := Option.map_eq_some_iff.1 h
      obtain ⟨rfl, rfl⟩ := Prod.mk.inj h
      show (Tk.bs v).size ≤ _
      rw [bs_size]
      have e1 := behind_len h1
      have e2 := skip_len (l.drop (Tk.head l).length)
      have e3 := skip_len q
      rw [List.length_drop] at e2
      unfold Tk.value at h2
      (try dsimp only at h2)
      obtain ⟨q2, h3, h2⟩ := Option.bind_eq_some_iff.1 h2
      obtain ⟨⟨a, b'⟩, h4, h2⟩ := Option.bind_eq_some_iff.1 h2
      (try dsimp only at h2)
      split at h2
      · cases h2
      · obtain ⟨u, h5, h2⟩ := Option.map_eq_some_iff.1 h2
        obtain ⟨rfl, rfl⟩ := Prod.mk.inj h2
        have e4 := behind_len h3
        have e5 := (upto_len h4).1
        have e6 := ents_len _ _ _ h5
        omega
theorem attrs_sz : ∀ (n : Nat) (nm : List UInt8) (ys : List S68) (l : List UInt8) (t : S40) (r : List UInt8), l.length ≤ 200000 → AttrsSz ys → Tk.attrs n nm ys l = some (t, r) → t.f1 = Tk.bs nm ∧ AttrsSz t.f3
  | 0, _, _, _, _, _, _, _, h => by simp [Tk.attrs] at h
  | n + 1, nm, ys, l, t, r, hl, hy, h => by
    rw [Tk.attrs] at h
    (try dsimp only at h)
    have hs := skip_len l
    cases h1 : Tk.behind [62] (Tk.skip l) with
    | some q =>
      rw [h1] at h
      obtain ⟨rfl, rfl⟩ := Prod.mk.inj (Option.some.inj h)
      exact ⟨rfl, hy⟩
    | none =>
      rw [h1] at h
      (try dsimp only at h)
      cases h2 : Tk.behind [47, 62] (Tk.skip l) with
      | some q =>
        rw [h2] at h
        obtain ⟨rfl, rfl⟩ := Prod.mk.inj (Option.some.inj h)
        exact ⟨rfl, hy⟩
      | none =>
        rw [h2] at h
        (try dsimp only at h)
        split at h
        · cases h
        · obtain ⟨⟨x, q⟩, h3, h⟩ := Option.bind_eq_some_iff.1 h
          (try dsimp only at h)
          split at h
          · cases h
          · obtain ⟨e1, e2, e3⟩ := attr_sz (by omega) h3
            refine attrs_sz n nm _ q t r (by omega) (fun y hy' => ?_) h
            rcases List.mem_append.1 hy' with hy' | hy'
            · exact hy y hy'
            · rw [List.mem_singleton] at hy'; rw [hy']; exact ⟨e1, e2⟩
def TokSz (t : S40) : Prop := t.f1.size ≤ 1000000 ∧ AttrsSz t.f3
theorem next_sz {fst : Bool} {l r : List UInt8} {t : S40} (hl : l.length ≤ 200000) (h : Tk.next fst l = some (t, r)) : TokSz t := by
  have none_ : AttrsSz [] := fun y hy => absurd hy (by simp)
  unfold Tk.next at h
  cases h1 : Tk.behind [60, 33, 45, 45] l with
  | some q =>
    rw [h1] at h
    unfold Tk.comment at h
    obtain ⟨⟨a, b⟩, h2, h⟩ := Option.bind_eq_some_iff.1 h
    (try dsimp only at h)
    split at h
    · cases h
    · obtain ⟨rfl, _⟩ := Prod.mk.inj (Option.some.inj h)
      exact ⟨Nat.zero_le _, none_⟩
  | none =>
  rw [h1] at h
  (try dsimp only at h)
  cases h1 : Tk.behind [60, 33, 91, 67, 68, 65, 84, 65, 91] l with
  | some q =>
    rw [h1] at h
    obtain ⟨⟨a, b⟩, h2, h⟩ := Option.map_eq_some_iff.1 (show (Tk.upto [93, 93, 62] q).map _ = some (t, r) from h)
    obtain ⟨rfl, _⟩ := Prod.mk.inj h
    exact ⟨Nat.zero_le _, none_⟩
  | none =>
  rw [h1] at h
  (try dsimp only at h)
  cases h1 : Tk.behind [60, 63] l with
  | some q =>
    rw [h1] at h
    obtain ⟨⟨a, b⟩, h2, h⟩ := Option.bind_eq_some_iff.1 (show (Tk.upto [63, 62] q).bind _ = some (t, r) from h)
    (try dsimp only at h)
    split at h
    · obtain ⟨rfl, _⟩ := Prod.mk.inj (Option.some.inj h)
      exact ⟨Nat.zero_le _, none_⟩
    · cases h
  | none =>
  rw [h1] at h
  (try dsimp only at h)
  cases h1 : Tk.behind [60, 47] l with
  | some q =>
    rw [h1] at h
    (try dsimp only at h)
    have e := behind_len h1
    unfold Tk.close at h
    split at h
    · cases h
    · obtain ⟨b, h2, h⟩ := Option.map_eq_some_iff.1 h
      obtain ⟨rfl, _⟩ := Prod.mk.inj h
      refine ⟨?_, none_⟩
      show (Tk.bs (Tk.head q)).size ≤ _
      rw [bs_size]
      have := head_le q
      omega
  | none =>
  rw [h1] at h
  (try dsimp only at h)
  cases h1 : Tk.behind [60] l with
  | some q =>
    rw [h1] at h
    have e := behind_len h1
    (try dsimp only at h)
    unfold Tk.opening at h
    split at h
    · cases h
    · obtain ⟨e1, e2⟩ := attrs_sz _ _ _ _ _ _ (by rw [List.length_drop]; omega) none_ h
      refine ⟨?_, e2⟩
      rw [e1, bs_size]
      have := head_le q
      omega
  | none =>
  rw [h1] at h
  (try dsimp only at h)
  unfold Tk.text at h
  (try dsimp only at h)
  obtain ⟨x, _, h⟩ := Option.map_eq_some_iff.1 h
  obtain ⟨rfl, _⟩ := Prod.mk.inj h
  exact ⟨Nat.zero_le _, none_⟩
theorem pieces_sz : ∀ (n : Nat) (fst : Bool) (l : List UInt8) (ts : List S40), l.length ≤ 200000 → Tk.pieces n fst l = some ts → ∀ t ∈ ts, TokSz t
  | 0, _, _, _, _, h => by simp [Tk.pieces] at h
  | n + 1, fst, l, ts, hl, h => by
    rw [Tk.pieces] at h
    by_cases h0 : l = []
    · rw [if_pos h0] at h
      obtain rfl := Option.some.inj h
      exact fun t ht => absurd ht (by simp)
    · rw [if_neg h0] at h
      obtain ⟨⟨t, r⟩, h1, h⟩ := Option.bind_eq_some_iff.1 h
      obtain ⟨us, h2, h⟩ := Option.map_eq_some_iff.1 h
      subst h
      have e1 := next_len h0 h1
      have e2 := next_sz hl h1
      intro x hx
      rcases List.mem_cons.1 hx with rfl | hx
      · exact e2
      · exact pieces_sz n false r us (by omega) h2 x hx
theorem split_sz (l : List UInt8) : ∀ t ∈ (Tk.split l).1, TokSz t := by
  unfold Tk.split
  by_cases h1 : 20000 < l.length
  · rw [if_pos h1]; exact fun t ht => absurd ht (by simp)
  · rw [if_neg h1]
    by_cases h2 : l.any (fun c => !Tk.allowed c) = true
    · rw [if_pos h2]; exact fun t ht => absurd ht (by simp)
    · rw [if_neg h2]
      cases hp : Tk.pieces (l.length + 1) true l with
      | none => exact fun t ht => absurd ht (by simp)
      | some ts => exact pieces_sz _ _ _ _ (by omega) hp
def NodeSz (n : Nd) : Prop := n.f1.size ≤ 1000000 ∧ AttrsSz n.f3 ∧ n.f3.length ≤ 1000000
theorem take_sz {l : List Nd} {op : List Int} (h : ∀ n ∈ l, NodeSz n) (t : El.Tok) (hk : TokSz t) (hl : t.f3.length ≤ 1000000) (s : El.St) (ht : El.take l op t = .ok s) : ∀ n ∈ s.1, NodeSz n := by
  have putd : ∀ (n : Nd), NodeSz n → ∀ x ∈ l ++ [n], NodeSz x := fun n hn x hx => by
    rcases List.mem_append.1 hx with hx | hx
    · exact h x hx
    · rw [List.mem_singleton] at hx; rw [hx]; exact hn
  have none_ : AttrsSz [] := fun y hy => absurd hy (by simp)
  unfold El.take at ht
  split at ht
  · injection ht with ht; rw [← ht]; exact h
  split at ht
  · injection ht with ht; rw [← ht]; exact h
  split at ht
  · unfold El.begin_ at ht
    split at ht
    · cases ht
    split at ht
    · cases ht
    split at ht
    · cases ht
    split at ht
    · cases ht
    · rename_i l' hp
      injection ht with ht
      rw [← ht, (put_some hp).1]
      exact putd _ ⟨hk.1, hk.2, hl⟩
  split at ht
  · unfold El.end_ at ht
    split at ht
    · cases ht
    split at ht
    · injection ht with ht; rw [← ht]; exact h
    · cases ht
  split at ht
  · unfold El.text at ht
    split at ht
    · split at ht
      · injection ht with ht; rw [← ht]; exact h
      · cases ht
    split at ht
    · injection ht with ht; rw [← ht]; exact h
    split at ht
    · rename_i k hlk
      have hkl := El.lastI_lt l _ k hlk
      split at ht
      · injection ht with ht
        rw [← ht]
        intro x hx
        rcases List.mem_or_eq_of_mem_set hx with hx | hx
        · exact h x hx
        · have hm : l.getD k El.zn ∈ l := by rw [List.getD_eq_getElem?_getD, List.getElem?_eq_getElem hkl]; exact List.getElem_mem hkl
          have hz : NodeSz (l.getD k El.zn) := h _ hm
          rw [hx]
          exact hz
      · split at ht
        · cases ht
        · rename_i l' hp
          injection ht with ht
          rw [← ht, (put_some hp).1]
          exact putd _ ⟨Nat.zero_le _, none_, Nat.zero_le _⟩
    · split at ht
      · cases ht
      · rename_i l' hp
        injection ht with ht
        rw [← ht, (put_some hp).1]
        exact putd _ ⟨Nat.zero_le _, none_, Nat.zero_le _⟩
  · cases ht
theorem all_sz : ∀ (ts : List El.Tok) (l : List Nd) (op : List Int) (T : Nat) (s : El.St), (∀ t ∈ ts, TokSz t ∧ t.f3.length ≤ 1000000) → (∀ n ∈ l, NodeSz n) → Inv l op T → El.all l op ts = .ok s → (∀ n ∈ s.1, NodeSz n) ∧ Inv s.1 s.2 (T + (ts.map fun t => t.f2.size).sum)
  | [], l, op, T, s, _, h, hi, ha => by
    injection ha with ha
    rw [← ha]; exact ⟨h, hi⟩
  | t :: ts, l, op, T, s, hk, h, hi, ha => by
    rw [El.all] at ha
    cases ht : El.take l op t with
    | error e => rw [ht] at ha; cases ha
    | ok s1 =>
      rw [ht] at ha
      obtain ⟨k1, k2⟩ := hk t List.mem_cons_self
      obtain ⟨a, b⟩ := all_sz ts s1.1 s1.2 (T + t.f2.size) s (fun x hx => hk x (List.mem_cons_of_mem _ hx)) (take_sz h t k1 k2 s1 ht) (inv_take hi t s1 ht) ha
      refine ⟨a, ?_⟩
      rw [List.map_cons, List.sum_cons, ← Nat.add_assoc]
      exact b
theorem parse_all (s : List UInt8) (hs : s.length ≤ 5000) (h : (parseL s).2 = 0) : ∃ l, parseL s = (l, 0) ∧ l ≠ [] ∧ l.length ≤ 2000 ∧ Wf l [] ∧ Good l [] ∧ ∀ n ∈ l, NodeSz n ∧ n.f2.size ≤ 1000000000 := by
  obtain ⟨l, ts, h1, h2, h3, hne, hw⟩ := parse_ok s h
  have hts : ∀ t ∈ ts, t ∈ (Tk.split s).1 := fun t ht => by rw [h2]; exact ht
  obtain ⟨f1, f2⟩ := split_few s
  have hsum := sum_le (Tk.split s).1 20000 (fun t ht => by have := (f2 t ht).2; omega)
  obtain ⟨a, b⟩ := all_sz ts [] [] 0 (l, []) (fun t ht => ⟨split_sz s t (hts t ht), by have := (f2 t (hts t ht)).1; omega⟩) (fun n hn => absurd hn (by simp)) inv_nil h3
  refine ⟨l, h1, hne, all_len ts [] [] (l, []) (Nat.zero_le _) h3, hw, all_good ts [] [] (l, []) (fun t ht => split_ok s t (hts t ht)) good_nil wf_nil h3, fun n hn => ⟨a n hn, ?_⟩⟩
  have hb := b.2.2.2 n hn
  rw [h2] at hsum f1
  have hz : 0 + (ts.map fun t => t.f2.size).sum ≤ 1000000000 := by rw [Nat.zero_add]; exact Nat.le_trans hsum (by have := f1; omega)
  exact Nat.le_trans hb hz
end Go.Proofs.Ytkoogebfdinbnaa.Pure
namespace Go.Proofs.Ytkoogebfdinbnaa.Pure
open Go Go.RowKit Go.Proofs.Ytkoogebfdinbnaa.Q Go.Proofs.YtkoogebfdinbnaaW.PrintWords Go.Proofs.YtkoogebfdinbnaaW.PrintLast Go.Proofs.YtkoogebfdinbnaaW.Own Go.Proofs.YtkoogebfdinbnaaW.PrintMore
set_option linter.unusedSimpArgs false
set_option linter.unusedVariables false
def Ans {α : Type} (f : Nat → Option α) (v : α) : Prop := ∃ K, ∀ k, K ≤ k → f k = some v
theorem Ans.now {α : Type} {f : Nat → Option α} {v : α} (h : ∀ k, f k = some v) : Ans f v := ⟨0, fun k _ => h k⟩
theorem Ans.succ {α : Type} {f g : Nat → Option α} {v : α} (h : Ans g v) (e : ∀ k, f (k + 1) = g k) : Ans f v := by
  obtain ⟨K, h⟩ := h
  refine ⟨K + 1, fun k hk => ?_⟩
  obtain ⟨j, rfl⟩ : ∃ j, k = j + 1 := ⟨k - 1, by omega⟩
  rw [e, h j (by omega)]
theorem Ans.bind {α β : Type} {f : Nat → Option α} {g : Nat → α → Option β} {v : α} {u : β} (h : Ans f v) (h2 : Ans (fun k => g k v) u) : Ans (fun k => (f k).bind (g k)) u := by
  obtain ⟨K, h⟩ := h
  obtain ⟨K2, h2⟩ := h2
  exact ⟨max K K2, fun k hk => by show (f k).bind (g k) = _; rw [h k (by omega), Option.bind_some]; exact h2 k (by omega)⟩
theorem Ans.there {α : Type} {f : Nat → Option α} {v : α} (h : Ans f v) : ∃ k, f k = some v := ⟨h.choose, h.choose_spec _ (Nat.le_refl _)⟩
theorem awake_6 : newellaw03_awake.f 6 = some true := by kernel_rfl
theorem awake_ge (k : Nat) (h : 6 ≤ k) : newellaw03_awake.f k = some true := by
  obtain ⟨j, rfl⟩ := Nat.exists_eq_add_of_le h
  clear h
  induction j with
  | zero => exact awake_6
  | succ j ih => exact newellaw03_awake.mono _ _ ih
theorem awake_ans : Ans (fun k => newellaw03_awake.f k) true := ⟨6, awake_ge⟩
theorem awake_told : Ans (fun k => (newellaw03_awake.f k).bind fun t => some t) true := Ans.bind awake_ans (Ans.now fun _ => rfl)
theorem w1 (i : Nat) (h : i < 1000000000) : wrap64 ((i : Int) + 1) = ((i + 1 : Nat) : Int) := by unfold wrap64; omega
theorem rd_nd (l : List Nd) (i : Nat) (h : i < l.length) : rd_T29 l (i : Int) = l[i] := by
  simp [rd_T29, List.getD, h]
theorem r_letter (c : UInt8) : newelref01_letter.f (c.toNat : Int) = some (Tk.letter c) := Tk.bytes_all (by kernel_rfl) c
theorem r_within (c : UInt8) : newelref01_within.f (c.toNat : Int) = some (Tk.within c) := Tk.bytes_all (by kernel_rfl) c
theorem r_allowed (c : UInt8) : newelref01_Allowed.f (c.toNat : Int) = some (Tk.allowed c) := Tk.bytes_all (by kernel_rfl) c
theorem nul_eq (b : ByteArray) : (b.toList = ([] : List UInt8)) = (b = El.nul) := by
  have h := size_nul b
  apply propext
  constructor
  · intro e
    rw [e] at h
    exact of_decide_eq_true h.symm
  · intro e
    rw [decide_eq_true e] at h
    exact List.isEmpty_iff.1 h
theorem w1b (i : Nat) (h : i < 9000000000) : wrap64 ((i : Int) + 1) = ((i + 1 : Nat) : Int) := by unfold wrap64; omega
theorem bt_l (b : ByteArray) (i : Nat) (h : i < b.data.toList.length) : bt b (i : Int) = ((b.data.toList[i]).toNat : Int) := by
  have := bs_bt b.data.toList i h
  rwa [bs_data] at this
theorem sz_l (b : ByteArray) : b.size = b.data.toList.length := Lib.size_eq b
theorem all_told (b : ByteArray) (hs : b.size ≤ 1000000000) (h : okL b.data.toList) : ∀ (d i : Nat), i + d = b.size → Ans (fun k => newelref01_all.l0 k b (i : Int)) true := by
  intro d
  induction d with
  | zero =>
    intro i hi
    refine Ans.succ (g := fun _ => some true) (Ans.now fun _ => rfl) fun k => ?_
    rw [newelref01_all.l0, if_neg (by omega)]
  | succ d ih =>
    intro i hi
    have hl : i < b.data.toList.length := by rw [← sz_l]; omega
    refine Ans.succ (ih (i + 1) (by omega)) fun k => ?_
    rw [newelref01_all.l0, if_pos (by omega), if_pos (by omega), bt_l b i hl, r_allowed, h _ (List.getElem_mem hl), Option.bind_some, if_pos rfl, w1b i (by omega)]
theorem all_ans (b : ByteArray) (hs : b.size ≤ 1000000000) (h : okL b.data.toList) : Ans (fun k => newelref01_all.f k b) true := all_told b hs h b.size 0 (by omega)
theorem name_within {l : List UInt8} (h : nameL l = true) : l ≠ [] ∧ ∀ c ∈ l, Tk.within c = true := by
  cases l with
  | nil => cases h
  | cons c r =>
    have h : (Tk.letter c && r.all Tk.within) = true := h
    rw [Bool.and_eq_true, List.all_eq_true] at h
    refine ⟨by simp, fun x hx => ?_⟩
    rcases List.mem_cons.1 hx with hx | hx
    · rw [hx]; unfold Tk.within; rw [h.1]; rfl
    · exact h.2 x hx
theorem name_letter {l : List UInt8} (h : nameL l = true) (h0 : 0 < l.length) : Tk.letter (l[0]'h0) = true := by
  cases l with
  | nil => cases h
  | cons c r =>
    have h : (Tk.letter c && r.all Tk.within) = true := h
    rw [Bool.and_eq_true] at h
    exact h.1
theorem name_told (b : ByteArray) (hs : b.size ≤ 1000000000) (h : nameL b.data.toList = true) : ∀ (d i : Nat), i + d = b.size → Ans (fun k => newelref01_Name.l0 k b (i : Int)) true := by
  intro d
  induction d with
  | zero =>
    intro i hi
    refine Ans.succ (g := fun _ => some true) (Ans.now fun _ => rfl) fun k => ?_
    rw [newelref01_Name.l0, if_neg (by omega)]
  | succ d ih =>
    intro i hi
    have hl : i < b.data.toList.length := by rw [← sz_l]; omega
    refine Ans.succ (ih (i + 1) (by omega)) fun k => ?_
    rw [newelref01_Name.l0, if_pos (by omega), if_pos (by omega), bt_l b i hl, r_within, (name_within h).2 _ (List.getElem_mem hl), Option.bind_some, if_pos rfl, w1b i (by omega)]
theorem name_ans (b : ByteArray) (hs : b.size ≤ 1000000000) (h : nameL b.data.toList = true) : Ans (fun k => newelref01_Name.f k b) true := by
  have hpos : 0 < b.data.toList.length := List.length_pos_iff.2 (name_within h).1
  have hz := sz_l b
  unfold newelref01_Name.f
  have hb : bt b (0 : Int) = ((b.data.toList[0]'hpos).toNat : Int) := bt_l b 0 hpos
  simp only [if_neg (show ¬ (b.size : Int) = 0 by omega), if_pos (show (0 : Int) < (b.size : Int) by omega), hb, r_letter, name_letter h hpos, Option.bind_some]
  refine Ans.succ (name_told b hs h b.size 0 (by omega)) fun k => ?_
  rw [newelref01_Name.j0, if_neg (by decide)]
  rfl
theorem rd_at68 (ys : List S68) (i : Nat) (h : i < ys.length) : rd_T68 ys (i : Int) = ys[i] := by
  simp [rd_T68, List.getD, h]
theorem list_ne {a b : ByteArray} (h : a ≠ b) : ¬ a.toList = b.toList := by
  intro e
  rw [toList_data, toList_data] at e
  exact h (ByteArray.ext (Array.toList_inj.1 e))
theorem attrs_ans (ys : List S68) (h : attrsOk ys) (hz : AttrsSz ys) (hl : ys.length ≤ 1000000) : Ans (fun k => newelref01_attrs.f k ys) true := by
  have outer : ∀ (d i : Nat), i + d = ys.length → Ans (fun k => newelref01_attrs.l0 k ys (i : Int)) true := by
    intro d
    induction d with
    | zero =>
      intro i hi
      refine Ans.succ (g := fun _ => some true) (Ans.now fun _ => rfl) fun k => ?_
      rw [newelref01_attrs.l0, if_neg (by omega)]
    | succ d ih =>
      intro i hi
      have hil : i < ys.length := by omega
      have er := rd_at68 ys i hil
      have hm := List.getElem_mem hil
      obtain ⟨n1, n2⟩ := h.1 _ hm
      obtain ⟨z1, z2⟩ := hz _ hm
      have inner : ∀ (d2 j : Nat), j + d2 = i → Ans (fun k => newelref01_attrs.l1 k ys (i : Int) (j : Int)) true := by
        intro d2
        induction d2 with
        | zero =>
          intro j hj
          refine Ans.succ (ih (i + 1) (by omega)) fun k => ?_
          rw [newelref01_attrs.l1, if_neg (by omega), w1b i (by omega)]
        | succ d2 ih2 =>
          intro j hj
          have hjl : j < ys.length := by omega
          have ej := rd_at68 ys j hjl
          have hne := List.pairwise_iff_getElem.1 h.2 j i hjl hil (by omega)
          refine Ans.succ (ih2 (j + 1) (by omega)) fun k => ?_
          rw [newelref01_attrs.l1, if_pos (by omega), if_pos (by omega), if_pos (by omega), if_pos (by omega), if_pos (by omega), ej, er, if_neg (list_ne hne), w1b j (by omega)]
      have hj1 : Ans (fun k => newelref01_attrs.j1 k ys (i : Int) (!true)) true := by
        refine Ans.succ (inner i 0 (by omega)) fun k => ?_
        rw [newelref01_attrs.j1, if_neg (by decide)]
        rfl
      refine Ans.succ (g := fun k => (newelref01_Name.f k (ys[i].f0)).bind fun t140 => (if t140 = true then ((newelref01_all.f k (ys[i].f1)).bind fun t142 => (newelref01_attrs.j1 k ys (i : Int) (!t142))) else (newelref01_attrs.j1 k ys (i : Int) true))) ?_ fun k => ?_
      · refine Ans.bind (name_ans _ (by omega) n1) ?_
        simp only [if_true]
        exact Ans.bind (all_ans _ (by omega) n2) hj1
      · rw [newelref01_attrs.l0, if_pos (by omega), if_pos (by omega), er]
  exact outer ys.length 0 (by omega)
theorem rd_end (R : List Int) (x : Int) : rd (R ++ [x]) (R.length : Int) = x := by
  simp [rd, List.getD]
theorem popTo_eq (R : List Int) (p : Int) : popTo (R ++ [p]) p = R ++ [p] := by
  have := popTo_at R [] p (fun x hx => absurd hx (by simp))
  rwa [List.append_nil] at this
theorem popTo_ne (R : List Int) (x p : Int) (h : x ≠ p) : popTo (R ++ [x]) p = popTo R p := by
  unfold popTo
  rw [List.reverse_append, List.reverse_singleton, List.singleton_append, List.dropWhile_cons_of_pos (by simpa using h)]
theorem pops (l : List Nd) (i : Nat) (n : Nd) (v : Bool) : ∀ (m : Nat) (R : List Int), R.length = m → m ≤ 100000 → Ans (fun k => newelref01_Right.j3 k l (popTo R n.f0) (i : Int) n.f0 n.f1 n.f2 n.f3) v → Ans (fun k => newelref01_Right.l1 k l R (i : Int) n.f0 n.f1 n.f2 n.f3) v := by
  intro m
  induction m with
  | zero =>
    intro R hR _ ha
    obtain rfl := List.eq_nil_of_length_eq_zero hR
    refine Ans.succ ha fun k => ?_
    rw [newelref01_Right.l1, if_neg (by simp)]
    rfl
  | succ m ih =>
    intro R hR hm ha
    have hne : R ≠ [] := fun h => by rw [h] at hR; cases hR
    obtain ⟨S, x, rfl⟩ : ∃ S x, R = S ++ [x] := ⟨R.dropLast, R.getLast hne, (List.dropLast_concat_getLast hne).symm⟩
    rw [List.length_append, List.length_singleton] at hR
    have hlen : ((S ++ [x]).length : Int) = (S.length : Int) + 1 := by rw [List.length_append, List.length_singleton]; omega
    have hw : wrap64 (((S ++ [x]).length : Int) - 1) = (S.length : Int) := by rw [hlen]; unfold wrap64; omega
    by_cases hx : x = n.f0
    · subst hx
      rw [popTo_eq] at ha
      refine Ans.succ ha fun k => ?_
      rw [newelref01_Right.l1, if_pos (by omega), hw, if_pos (by omega), if_pos (by omega), rd_end, if_pos rfl]
    · rw [popTo_ne S x _ hx] at ha
      refine Ans.succ (ih S (by omega) (by omega) ha) fun k => ?_
      rw [newelref01_Right.l1, if_pos (by omega), hw, if_pos (by omega), if_pos (by omega), rd_end, if_neg hx, if_pos (by omega), Int.toNat_natCast, List.take_left]
theorem right_loop (l : List Nd) (hl : l.length ≤ 2000) (hw : Wf l []) (hne : l ≠ []) (hno : ∀ n ∈ l, NodeOk n) (hsz : ∀ n ∈ l, NodeSz n ∧ n.f2.size ≤ 1000000000) : ∀ (r : List Nd) (i : Nat) (R : List Int), l.drop i = r → R.length ≤ i → chk ((l.take i).map key) R (r.map key) → Ans (fun k => newelref01_Right.l0 k l R (i : Int)) true := by
  intro r
  induction r with
  | nil =>
    intro i R hd _ _
    have hi : l.length ≤ i := List.drop_eq_nil_iff.1 hd
    refine Ans.succ (g := fun _ => some true) (Ans.now fun _ => rfl) fun k => ?_
    rw [newelref01_Right.l0, if_neg (by omega)]
  | cons n r ih =>
    intro i R hd hR hc
    have hi : i < l.length := by
      refine Classical.byContradiction fun h => ?_
      rw [List.drop_eq_nil_of_le (by omega)] at hd
      cases hd
    have hd2 := List.drop_eq_getElem_cons hi
    rw [hd] at hd2
    injection hd2 with hn hr
    have hli : l[i]? = some n := by rw [hn]; exact List.getElem?_eq_getElem hi
    have hm : n ∈ l := by rw [hn]; exact List.getElem_mem hi
    obtain ⟨hcond, hrest⟩ : cond ((l.take i).map key) R (key n) ∧ chk ((l.take i).map key ++ [key n]) (stepR R ((l.take i).map key).length (key n)) (r.map key) := hc
    have htk : (l.take i).map key ++ [key n] = (l.take (i + 1)).map key := by
      rw [List.take_succ_eq_append_getElem hi, List.map_append, ← hn]; rfl
    have hlen : ((l.take i).map key).length = i := by rw [List.length_map, List.length_take]; omega
    rw [htk, hlen] at hrest
    obtain ⟨c1, c2, c3⟩ := hcond
    have hpl : (popTo R n.f0).length ≤ R.length := by
      unfold popTo
      rw [List.length_reverse]
      have := (List.dropWhile_sublist (fun x => x != n.f0) (l := R.reverse)).length_le
      rw [List.length_reverse] at this
      exact this
    have ihn := ih (i + 1) (stepR R i (key n)) hr.symm (by
      unfold stepR
      split
      · exact Nat.le_trans hpl (by omega)
      · rw [List.length_append, List.length_singleton]
        have : (popTo R (key n).1).length ≤ R.length := hpl
        omega) hrest
    have er : rd_T29 l (i : Int) = n := by rw [rd_nd l i hi, ← hn]
    obtain ⟨⟨z1, z2, z3⟩, z4⟩ := hsz n hm
    refine Ans.succ (g := fun k => newelref01_Right.l1 k l R (i : Int) n.f0 n.f1 n.f2 n.f3) ?_ fun k => by rw [newelref01_Right.l0, if_pos (by omega), if_pos (by omega), er]
    refine pops l i n true R.length R rfl (by omega) ?_
    have hj4 : Ans (fun k => newelref01_Right.j4 k l (popTo R n.f0) (i : Int) false n.f0 n.f1 n.f2 n.f3) true := by
      by_cases hz : n.f1 = El.nul
      · -- a text
        obtain ⟨q1, q2, q3⟩ := (hno n hm).2 hz
        have hst : stepR R i (key n) = popTo R n.f0 := by unfold stepR; rw [if_pos (show (key n).2 = El.nul from hz)]; rfl
        rw [hst] at ihn
        have hi0 : 0 < i := Nat.pos_of_ne_zero fun h => by
          subst h
          exact (hw.2.1 n hli).2 hz
        have hp0 := (hw.2.2.1 i n hli hi0).1
        have done : Ans (fun k => newelref01_Right.j8 k l (popTo R n.f0) (i : Int) false) true := by
          refine Ans.succ ihn fun k => ?_
          rw [newelref01_Right.j8, if_neg (by decide), w1 i (by omega)]
        have atk : ∀ (m : Nat) (q : Nd), l[m]? = some q → (q.f1 = El.nul → q.f0 ≠ n.f0) → Ans (fun k => newelref01_Right.j7 k l (popTo R n.f0) (i : Int) (m : Int) n.f0 n.f1 n.f2 n.f3) true := by
          intro m q hq hne
          have hml : m < l.length := (List.getElem?_eq_some_iff.1 hq).1
          have em : rd_T29 l (m : Int) = q := by
            rw [rd_nd l m hml]
            rw [List.getElem?_eq_getElem hml] at hq
            exact Option.some.inj hq
          refine Ans.succ (g := fun k => (newelref01_all.f k n.f2).bind fun t159 => (if t159 = true then newelref01_Right.j8 k l (popTo R n.f0) (i : Int) false else newelref01_Right.j8 k l (popTo R n.f0) (i : Int) true)) (Ans.bind (all_ans _ z4 q2) (by simp only [if_true]; exact done)) fun k => ?_
          rw [newelref01_Right.j7, if_neg (by rw [nul_eq]; exact q1)]
          congr 1
          funext t
          split
          · rw [q3, if_neg (by simp), if_pos (by omega), if_pos (by omega), em]
            by_cases hqn : q.f1 = El.nul
            · rw [if_pos (by rw [nul_eq]; exact hqn), beq_eq_false_iff_ne.mpr (hne hqn)]
            · rw [if_neg (by rw [nul_eq]; exact hqn)]
          · rfl
        have scan : ∀ (m : Nat), m < i → (∀ (j : Nat) (q' : Nd), m < j → j < i → l[j]? = some q' → q'.f0 ≠ n.f0) → Ans (fun k => newelref01_Right.l2 k l (popTo R n.f0) (i : Int) (m : Int) n.f0 n.f1 n.f2 n.f3) true := by
          intro m
          induction m with
          | zero =>
            intro _ _
            have hq : l[0]? = some (at0 l ((0 : Nat) : Int)) := at0_mem (by omega)
            have hroot := (hw.2.1 _ hq)
            refine Ans.succ (atk 0 _ hq (fun hz => absurd hz hroot.2)) fun k => ?_
            rw [newelref01_Right.l2, if_neg (by omega)]
          | succ m ihm =>
            intro hmi hno'
            have hq : l[m + 1]? = some (at0 l ((m + 1 : Nat) : Int)) := at0_mem (by omega)
            have em : rd_T29 l ((m + 1 : Nat) : Int) = at0 l ((m + 1 : Nat) : Int) := by
              rw [rd_nd l (m + 1) (by omega)]
              rw [List.getElem?_eq_getElem (by omega)] at hq
              exact Option.some.inj hq
            by_cases hp : (at0 l ((m + 1 : Nat) : Int)).f0 = n.f0
            · refine Ans.succ (atk (m + 1) _ hq (fun hz' => ?_)) fun k => ?_
              · exfalso
                refine c3 hz (m + 1) (key (at0 l ((m + 1 : Nat) : Int))) ?_ hp (fun j q' hj hq' => ?_) hz'
                · rw [List.getElem?_map, List.getElem?_take, if_pos hmi, hq]; rfl
                · rw [List.getElem?_map, Option.map_eq_some_iff] at hq'
                  obtain ⟨x, hx, rfl⟩ := hq'
                  rw [List.getElem?_take] at hx
                  by_cases hji : j < i
                  · rw [if_pos hji] at hx
                    exact hno' j x hj hji hx
                  · rw [if_neg hji] at hx
                    cases hx
              · rw [newelref01_Right.l2, if_pos (by omega), if_pos (by omega), if_pos (by omega), em, if_pos hp]
            · have hwm : wrap64 (((m + 1 : Nat) : Int) - 1) = (m : Int) := by unfold wrap64; omega
              refine Ans.succ (ihm (by omega) (fun j q' hj hji hq' => ?_)) fun k => ?_
              · rcases Nat.eq_or_lt_of_le (Nat.succ_le_of_lt hj) with h | h
                · have h : j = m + 1 := h.symm
                  subst h
                  rw [hq] at hq'
                  rw [← Option.some.inj hq']
                  exact hp
                · exact hno' j q' h hji hq'
              · rw [newelref01_Right.l2, if_pos (by omega), if_pos (by omega), if_pos (by omega), em, if_neg hp, hwm]
        have hwi : wrap64 ((i : Int) - 1) = ((i - 1 : Nat) : Int) := by unfold wrap64; omega
        refine Ans.succ (scan (i - 1) (by omega) (fun j q' h1 h2 _ => by omega)) fun k => ?_
        rw [newelref01_Right.j4, if_neg (by decide), if_pos (by rw [nul_eq]; exact hz), hwi]
      · -- an element
        obtain ⟨q1, q2, q3⟩ := (hno n hm).1 hz
        have hst : stepR R i (key n) = popTo R n.f0 ++ [(i : Int)] := by unfold stepR; rw [if_neg (show ¬ (key n).2 = El.nul from hz)]; rfl
        rw [hst] at ihn
        have hlt : (popTo R n.f0).length < 20 := c2 hz
        have h5 : Ans (fun k => newelref01_Right.j5 k l (popTo R n.f0) (i : Int) (decide (((popTo R n.f0).length : Int) ≥ 20))) true := by
          refine Ans.succ ihn fun k => ?_
          rw [decide_eq_false (by omega), newelref01_Right.j5, if_neg (by decide), if_pos (by omega), w1 i (by omega)]
        refine Ans.succ (g := fun k => (newelref01_Name.f k n.f1).bind fun t153 => (if t153 = true then ((newelref01_attrs.f k n.f3).bind fun t154 => (if t154 = true then (newelref01_Right.j5 k l (popTo R n.f0) (i : Int) (decide (((popTo R n.f0).length : Int) ≥ 20))) else (newelref01_Right.j5 k l (popTo R n.f0) (i : Int) true))) else (newelref01_Right.j5 k l (popTo R n.f0) (i : Int) true))) ?_ fun k => ?_
        · refine Ans.bind (name_ans _ (by omega) q1) ?_
          simp only [if_true]
          refine Ans.bind (attrs_ans _ q3 z2 z3) ?_
          simp only [if_true]
          exact h5
        · rw [newelref01_Right.j4, if_neg (by decide), if_neg (by rw [nul_eq]; exact hz)]
          congr 1
          funext t
          split
          · rw [if_pos (by rw [nul_eq]; exact q2)]
          · rfl
    by_cases hi0 : i = 0
    · refine Ans.succ hj4 fun k => ?_
      rw [newelref01_Right.j3, if_neg (by omega)]
    · have hpn : popTo R n.f0 ≠ [] := c1 (by
        intro h
        have := congrArg List.length h
        rw [hlen] at this
        exact hi0 (by simpa using this))
      have hfl : (((popTo R n.f0).length : Int) == 0) = false := beq_eq_false_iff_ne.mpr (by have := List.length_pos_iff.2 hpn; omega)
      refine Ans.succ hj4 fun k => ?_
      rw [newelref01_Right.j3, if_pos (by omega), hfl]
theorem right_ans (l : List Nd) (hl : l.length ≤ 2000) (hw : Wf l []) (hne : l ≠ []) (hg : Good l []) (hsz : ∀ n ∈ l, NodeSz n ∧ n.f2.size ≤ 1000000000) : Ans (fun k => newelref01_Right.f k l) true := by
  have hpos := List.length_pos_iff.2 hne
  have hq : l[0]? = some (at0 l ((0 : Nat) : Int)) := at0_mem hpos
  have e0 : rd_T29 l 0 = at0 l ((0 : Nat) : Int) := by
    have := rd_nd l 0 hpos
    rw [List.getElem?_eq_getElem hpos] at hq
    exact this.trans (Option.some.inj hq)
  obtain ⟨r1, r2⟩ := hw.2.1 _ hq
  have hlp := right_loop l hl hw hne hg.2.2.2.2 hsz l 0 [] (by rw [List.drop_zero]) (Nat.le_refl _) (by rw [List.take_zero]; exact hg.1)
  unfold newelref01_Right.f
  simp only [if_neg (show ¬ (l.length : Int) = 0 by omega), if_neg (show ¬ (l.length : Int) > 2000 by omega), if_pos (show (0 : Int) < (l.length : Int) by omega), e0, if_pos r1]
  refine Ans.succ hlp fun k => ?_
  have hb : ((at0 l ((0 : Nat) : Int)).f1.toList == ([] : List UInt8)) = false := by
    rw [beq_eq_false_iff_ne]
    intro h
    rw [nul_eq] at h
    exact r2 h
  rw [hb, newelref01_Right.j0, if_neg (by decide)]
  rfl
theorem nodes_loop (l : List Nd) (hl : l.length ≤ 2000) (hw : Wf l []) (hno : ∀ n ∈ l, NodeOk n) (last : Ans (fun k => (newellaw03_awake.f k).bind fun t176 => (if t176 = true then ((newelref01_Right.f k l).bind fun t177 => (some t177)) else (some false))) true) : ∀ (d i : Nat), i + d = l.length → Ans (fun k => newellaw03_ElementStands.l0 k l (i : Int)) true := by
  intro d
  induction d with
  | zero =>
    intro i h
    refine Ans.succ last fun k => ?_
    rw [newellaw03_ElementStands.l0, if_neg (by omega)]
  | succ d ih =>
    intro i h
    have hi : i < l.length := by omega
    obtain ⟨n, hn⟩ : ∃ n, n = l[i] := ⟨_, rfl⟩
    have er : rd_T29 l (i : Int) = n := by rw [rd_nd l i hi, hn]
    have hli : l[i]? = some n := by rw [hn]; exact List.getElem?_eq_getElem hi
    have hm : n ∈ l := by rw [hn]; exact List.getElem_mem hi
    have hok := hno n hm
    have ihn := ih (i + 1) (by omega)
    have h1 : ((n.f0 == -1) != ((i : Int) == 0)) = false := by
      by_cases h0 : i = 0
      · subst h0
        rw [(hw.2.1 n hli).1]; rfl
      · have := (hw.2.2.1 i n hli (by omega)).1
        rw [beq_eq_false_iff_ne.mpr (show n.f0 ≠ -1 by omega), beq_eq_false_iff_ne.mpr (show (i : Int) ≠ 0 by omega)]; rfl
    have h2 : ¬ n.f0 ≥ (i : Int) := by
      by_cases h0 : i = 0
      · subst h0
        have := (hw.2.1 n hli).1
        omega
      · have := (hw.2.2.1 i n hli (by omega)).2.1
        omega
    refine Ans.succ ihn fun k => ?_
    rw [newellaw03_ElementStands.l0, if_pos (by omega), if_pos (by omega), er, if_neg (by rw [h1]; decide), if_neg h2]
    have tail : (if ((n.f1.toList == ([] : List UInt8)) == (n.f2.toList == ([] : List UInt8))) = true then (if n.f1.toList = ([] : List UInt8) then (some false) else (newellaw03_ElementStands.l0 k l (wrap64 ((i : Int) + 1)))) else (newellaw03_ElementStands.l0 k l (wrap64 ((i : Int) + 1)))) = newellaw03_ElementStands.l0 k l ((i + 1 : Nat) : Int) := by
      rw [w1 i (by omega)]
      by_cases hz : n.f1 = El.nul
      · have hz2 := (hok.2 hz).1
        have e1 : (n.f1.toList == ([] : List UInt8)) = true := by rw [beq_iff_eq, nul_eq]; exact hz
        have e2 : (n.f2.toList == ([] : List UInt8)) = false := by rw [beq_eq_false_iff_ne]; intro h; rw [nul_eq] at h; exact hz2 h
        rw [e1, e2, if_neg (by decide)]
      · rw [if_neg (show ¬ n.f1.toList = ([] : List UInt8) from by rw [nul_eq]; exact hz)]
        split <;> rfl
    rw [tail]
    by_cases h0 : n.f0 ≥ 0
    · have hi0 : 0 < i := Nat.pos_of_ne_zero fun h => by
        subst h
        have := (hw.2.1 n hli).1
        omega
      obtain ⟨p1, p2, p3⟩ := hw.2.2.1 i n hli hi0
      have ep : rd_T29 l n.f0 = at0 l n.f0 := rfl
      rw [if_pos h0, if_pos (by omega), if_pos (by omega), ep, if_neg (by rw [nul_eq]; exact p3)]
    · rw [if_neg h0]
theorem ElementStands : newellaw03_ElementStands.Pure := by
  intro a0 _
  apply Ans.there
  unfold newellaw03_ElementStands.f
  by_cases c0 : (a0.size : Int) > 3000
  · simp only [if_pos c0]; exact awake_told
  simp only [if_neg c0]
  rw [parse_told a0 (by omega)]
  simp only [Option.bind_some]
  by_cases hz : (parseL a0.data.toList).2 = 0
  · simp only [if_pos hz]
    obtain ⟨l, h1, hne, hl, hw, hg, hsz⟩ := parse_all a0.data.toList (by rw [← sz_l]; omega) hz
    rw [h1]
    refine nodes_loop l hl hw hg.2.2.2.2 ?_ l.length 0 (by omega)
    refine Ans.bind awake_ans ?_
    simp only [if_true]
    exact Ans.bind (right_ans l hl hw hne hg hsz) (Ans.now fun _ => rfl)
  · simp only [if_neg hz]
    refine Ans.bind awake_ans (Ans.now fun k => ?_)
    rw [if_pos rfl]
    have : (parseL a0.data.toList).1 = [] := by
      unfold parseL at hz ⊢
      by_cases hs : (Tk.split a0.data.toList).2 = 0
      · rw [if_pos hs] at hz ⊢
        unfold El.tree at hz ⊢
        cases ha : El.all [] [] (Tk.split a0.data.toList).1 with
        | error e => rfl
        | ok s =>
          rw [ha] at hz
          simp only at hz ⊢
          by_cases hq : s.1 = [] ∨ s.2 ≠ []
          · rw [if_pos hq]
          · rw [if_neg hq] at hz; exact absurd rfl hz
      · rw [if_neg hs]
    rw [this]; rfl
end Go.Proofs.Ytkoogebfdinbnaa.Pure
