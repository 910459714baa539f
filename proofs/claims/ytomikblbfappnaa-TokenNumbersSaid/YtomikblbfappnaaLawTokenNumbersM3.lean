/- Texts put together: what functions of the program compute, and plain words about them. -/
import Derived.Test.YtomikblbfappnaaLawTokenNumbersM1
import Derived.Test.YtomikblbfappnaaLawTokenNumbersM2
import Derived.Test.YtomikblbfappnaaProg
import Derived.Test.YtomikblbfappnaaRows
import Derived.ChangeArms
import Derived.Deep.DeepHandedRow
import Derived.Shelf.Vars
import Derived.Below
import Derived.Deep.Draws
import Derived.Deep.AppendLies
import Derived.Maps.AppendAt
import Derived.OwnWalk
import Derived.Laws.BytesArg
import Derived.Laws.MakeOwn
import Derived.Laws.OwnMore
import Derived.Deep.OwnRows
import Derived.Tactics
import Derived.Lib.ConvBytes
import Derived.Laws.Slices
import Derived.WalkKit
import Derived.KernelRfl
import Derived.RowKit3
import Derived.Deep.LoopGhost
import Derived.Deep.QuietTactic
import Derived.BigQuiet
import Derived.WideLaws
import Derived.Deep.DeepCutAuto
import Derived.Deep.CutBlock
import Derived.Deep.RegionHeld3
import Derived.Laws.Rows
import Derived.Lib.AppendStr
import Derived.ArgAppend
import Derived.Laws.IdiomCopy
import Derived.OrdersHeld
import Derived.Laws.BitsLemmas
import Derived.RowKit
import Derived.Deep.RegionLaw
import Derived.Lib.Hide
import Derived.Outline
namespace Go.Proofs.Ytomikblbfappnaa.Q
open Go.RowKit Go.Proofs.YtomikblbfappnaaW.PrintWords Go.Proofs.YtomikblbfappnaaW.PrintLast Go.Proofs.YtomikblbfappnaaW.Own Go.Proofs.YtomikblbfappnaaW.PrintMore
attribute [local go_sem] max2_int min2_int max_two min_two max_three min_three max_four min_four   -- for this text's walks alone
set_option linter.unusedVariables false
set_option linter.unusedSimpArgs false
set_option maxHeartbeats 20000000
set_option maxRecDepth 100000
theorem behind_le {x l r : List UInt8} (h : Tk.behind x l = some r) : r.length ≤ l.length := behind_len h
theorem token_walk_next.w0 (B g : Nat) {ok : Nat → Prop} (fst : Bool) (l : List UInt8) (res : Option (S32 × List UInt8)) (q : List UInt8) (L : List S32) (w : World) (h : WalkAt w B g ok (Tk.bs l) L) (hG : Glob w) (hl : l.length ≤ 100000) (hL : L.length ≤ 100000) (hok : ∀ k, w.heap.size ≤ k → ok k) (h0 : Tk.behind [60, 33, 45, 45] l = some q) (hx : Tk.comment q = res) :
 Calls Try.prog 25 #[.pointer (some ⟨g, 0, none⟩), .bool fst] w fun e w' => (∀ t r, res = some (t, r) → e = .returned (.bool true) ∧ WalkAt w' B g ok (Tk.bs r) (L ++ [t])) ∧ (res = none → e = .returned (.bool false)) ∧ Below B w w' := by
 have hpos := h.pos
 have HG := Aside0.mk hG
 have HX := Aside0.mk hx
 have H := Aside0.mk h
 have E0 := Aside0.mk h0
 have hlq : q.length ≤ 100000 := Nat.le_trans (behind_le h0) hl
 clear h hG hx h0
 have B0 := Aside0.mk (Below.refl B w)
 have S0 := Aside0.mk (Nat.le_refl w.heap.size)
 go_enter Try.func25, Try.ntmps25
 go_wp2_with (go_at_call 39; refine (token_walk_eat.yesK B g _ [60, 33, 45, 45] q L _ H.out E0.out).mono ?_)
 rintro e w0 ⟨rfl, h1, b1, k1⟩
 have Hn := Aside0.mk h1
 have HGn := Aside0.mk (HG.out.below b1 hpos)
 have Bn := Aside0.mk (B0.out.trans b1)
 have Sn := Aside0.mk (Nat.le_trans S0.out k1.1)
 clear h1 b1 k1 H HG B0 S0
 have H := Hn
 have HG := HGn
 have B0 := Bn
 have S0 := Sn
 clear Hn HGn Bn Sn
 have CF : Calls Try.prog 40 #[.pointer (some ⟨g, 0, none⟩)] w0 fun e w' => (∀ t r, res = some (t, r) → e = .returned (.bool true) ∧ WalkAt w' B g ok (Tk.bs r) (L ++ [t])) ∧ (res = none → e = .returned (.bool false)) ∧ Below B w0 w' := by
  cases hr : res with
  | none =>
   refine (token_walk_comment.no B g q L _ H.out HG.out (by omega) (HX.out.trans hr)).mono ?_
   rintro e w' ⟨rfl, b⟩
   exact ⟨(fun t r h => by cases h), fun _ => rfl, b⟩
  | some p =>
   obtain ⟨t0, r0⟩ := p
   refine (token_walk_comment.yes B g q r0 t0 L _ H.out HG.out (by omega) hL (fun k hk => hok k (Nat.le_trans S0.out hk)) (HX.out.trans hr)).mono ?_
   rintro e w' ⟨rfl, h1, b⟩
   refine ⟨fun t r h => ?_, (fun h => by cases h), b⟩
   obtain ⟨rfl, rfl⟩ := Prod.mk.inj (Option.some.inj h)
   exact ⟨rfl, h1⟩
 have CF1 := Aside0.mk CF
 clear CF
 go_wp2_with (go_at_call 40; refine CF1.out.mono ?_)
 rintro e wz ⟨hy, hn, bz⟩
 have BZ := Aside0.mk (B0.out.trans bz)
 clear bz
 cases hr : res with
 | none =>
  obtain rfl := hn hr
  clear hy hn
  go_wp2
  go_ret
  exact ⟨(fun t r h => by rw [hr] at h; cases h), fun _ => rfl, BZ.out⟩
 | some p =>
  obtain ⟨t0, r0⟩ := p
  obtain ⟨rfl, h1⟩ := hy t0 r0 hr
  have H1 := Aside0.mk h1
  clear hy hn h1
  go_wp2
  go_ret
  refine ⟨fun t r h => ?_, (fun h => by rw [hr] at h; cases h), BZ.out⟩
  rw [hr] at h
  obtain ⟨rfl, rfl⟩ := Prod.mk.inj (Option.some.inj h)
  exact ⟨rfl, H1.out⟩
theorem token_walk_next.w1 (B g : Nat) {ok : Nat → Prop} (fst : Bool) (l : List UInt8) (res : Option (S32 × List UInt8)) (q : List UInt8) (L : List S32) (w : World) (h : WalkAt w B g ok (Tk.bs l) L) (hG : Glob w) (hl : l.length ≤ 100000) (hL : L.length ≤ 100000) (hok : ∀ k, w.heap.size ≤ k → ok k) (h0 : Tk.behind [60, 33, 45, 45] l = none) (h1 : Tk.behind [60, 33, 91, 67, 68, 65, 84, 65, 91] l = some q) (hx : Tk.data q = res) :
 Calls Try.prog 25 #[.pointer (some ⟨g, 0, none⟩), .bool fst] w fun e w' => (∀ t r, res = some (t, r) → e = .returned (.bool true) ∧ WalkAt w' B g ok (Tk.bs r) (L ++ [t])) ∧ (res = none → e = .returned (.bool false)) ∧ Below B w w' := by
 have hpos := h.pos
 have HG := Aside0.mk hG
 have HX := Aside0.mk hx
 have H := Aside0.mk h
 have E0 := Aside0.mk h0
 have E1 := Aside0.mk h1
 have hlq : q.length ≤ 100000 := Nat.le_trans (behind_le h1) hl
 clear h hG hx h0 h1
 have B0 := Aside0.mk (Below.refl B w)
 have S0 := Aside0.mk (Nat.le_refl w.heap.size)
 go_enter Try.func25, Try.ntmps25
 go_wp2_with (go_at_call 39; refine (token_walk_eat.noK B g _ [60, 33, 45, 45] L _ H.out E0.out).mono ?_)
 rintro e w0 ⟨rfl, h1, b1, k1⟩
 have Hn := Aside0.mk h1
 have HGn := Aside0.mk (HG.out.below b1 hpos)
 have Bn := Aside0.mk (B0.out.trans b1)
 have Sn := Aside0.mk (Nat.le_trans S0.out k1.1)
 clear h1 b1 k1 H HG B0 S0
 have H := Hn
 have HG := HGn
 have B0 := Bn
 have S0 := Sn
 clear Hn HGn Bn Sn
 go_wp2_with (go_at_call 39; refine (token_walk_eat.yesK B g _ [60, 33, 91, 67, 68, 65, 84, 65, 91] q L _ H.out E1.out).mono ?_)
 rintro e w1 ⟨rfl, h1, b1, k1⟩
 have Hn := Aside0.mk h1
 have HGn := Aside0.mk (HG.out.below b1 hpos)
 have Bn := Aside0.mk (B0.out.trans b1)
 have Sn := Aside0.mk (Nat.le_trans S0.out k1.1)
 clear h1 b1 k1 H HG B0 S0
 have H := Hn
 have HG := HGn
 have B0 := Bn
 have S0 := Sn
 clear Hn HGn Bn Sn
 have CF : Calls Try.prog 41 #[.pointer (some ⟨g, 0, none⟩)] w1 fun e w' => (∀ t r, res = some (t, r) → e = .returned (.bool true) ∧ WalkAt w' B g ok (Tk.bs r) (L ++ [t])) ∧ (res = none → e = .returned (.bool false)) ∧ Below B w1 w' := by
  cases hr : res with
  | none =>
   refine (token_walk_data.no B g q L _ H.out HG.out (by omega) (HX.out.trans hr)).mono ?_
   rintro e w' ⟨rfl, b⟩
   exact ⟨(fun t r h => by cases h), fun _ => rfl, b⟩
  | some p =>
   obtain ⟨t0, r0⟩ := p
   refine (token_walk_data.yes B g q r0 t0 L _ H.out HG.out (by omega) hL (fun k hk => hok k (Nat.le_trans S0.out hk)) (HX.out.trans hr)).mono ?_
   rintro e w' ⟨rfl, h1, b⟩
   refine ⟨fun t r h => ?_, (fun h => by cases h), b⟩
   obtain ⟨rfl, rfl⟩ := Prod.mk.inj (Option.some.inj h)
   exact ⟨rfl, h1⟩
 have CF1 := Aside0.mk CF
 clear CF
 go_wp2_with (go_at_call 41; refine CF1.out.mono ?_)
 rintro e wz ⟨hy, hn, bz⟩
 have BZ := Aside0.mk (B0.out.trans bz)
 clear bz
 cases hr : res with
 | none =>
  obtain rfl := hn hr
  clear hy hn
  go_wp2
  go_ret
  exact ⟨(fun t r h => by rw [hr] at h; cases h), fun _ => rfl, BZ.out⟩
 | some p =>
  obtain ⟨t0, r0⟩ := p
  obtain ⟨rfl, h1⟩ := hy t0 r0 hr
  have H1 := Aside0.mk h1
  clear hy hn h1
  go_wp2
  go_ret
  refine ⟨fun t r h => ?_, (fun h => by rw [hr] at h; cases h), BZ.out⟩
  rw [hr] at h
  obtain ⟨rfl, rfl⟩ := Prod.mk.inj (Option.some.inj h)
  exact ⟨rfl, H1.out⟩
theorem token_walk_next.w2 (B g : Nat) {ok : Nat → Prop} (fst : Bool) (l : List UInt8) (res : Option (S32 × List UInt8)) (q : List UInt8) (L : List S32) (w : World) (h : WalkAt w B g ok (Tk.bs l) L) (hG : Glob w) (hl : l.length ≤ 100000) (hL : L.length ≤ 100000) (hok : ∀ k, w.heap.size ≤ k → ok k) (h0 : Tk.behind [60, 33, 45, 45] l = none) (h1 : Tk.behind [60, 33, 91, 67, 68, 65, 84, 65, 91] l = none) (h2 : Tk.behind [60, 63] l = some q) (hx : Tk.prolog fst q = res) :
 Calls Try.prog 25 #[.pointer (some ⟨g, 0, none⟩), .bool fst] w fun e w' => (∀ t r, res = some (t, r) → e = .returned (.bool true) ∧ WalkAt w' B g ok (Tk.bs r) (L ++ [t])) ∧ (res = none → e = .returned (.bool false)) ∧ Below B w w' := by
 have hpos := h.pos
 have HG := Aside0.mk hG
 have HX := Aside0.mk hx
 have H := Aside0.mk h
 have E0 := Aside0.mk h0
 have E1 := Aside0.mk h1
 have E2 := Aside0.mk h2
 have hlq : q.length ≤ 100000 := Nat.le_trans (behind_le h2) hl
 clear h hG hx h0 h1 h2
 have B0 := Aside0.mk (Below.refl B w)
 have S0 := Aside0.mk (Nat.le_refl w.heap.size)
 go_enter Try.func25, Try.ntmps25
 go_wp2_with (go_at_call 39; refine (token_walk_eat.noK B g _ [60, 33, 45, 45] L _ H.out E0.out).mono ?_)
 rintro e w0 ⟨rfl, h1, b1, k1⟩
 have Hn := Aside0.mk h1
 have HGn := Aside0.mk (HG.out.below b1 hpos)
 have Bn := Aside0.mk (B0.out.trans b1)
 have Sn := Aside0.mk (Nat.le_trans S0.out k1.1)
 clear h1 b1 k1 H HG B0 S0
 have H := Hn
 have HG := HGn
 have B0 := Bn
 have S0 := Sn
 clear Hn HGn Bn Sn
 go_wp2_with (go_at_call 39; refine (token_walk_eat.noK B g _ [60, 33, 91, 67, 68, 65, 84, 65, 91] L _ H.out E1.out).mono ?_)
 rintro e w1 ⟨rfl, h1, b1, k1⟩
 have Hn := Aside0.mk h1
 have HGn := Aside0.mk (HG.out.below b1 hpos)
 have Bn := Aside0.mk (B0.out.trans b1)
 have Sn := Aside0.mk (Nat.le_trans S0.out k1.1)
 clear h1 b1 k1 H HG B0 S0
 have H := Hn
 have HG := HGn
 have B0 := Bn
 have S0 := Sn
 clear Hn HGn Bn Sn
 go_wp2_with (go_at_call 39; refine (token_walk_eat.yesK B g _ [60, 63] q L _ H.out E2.out).mono ?_)
 rintro e w2 ⟨rfl, h1, b1, k1⟩
 have Hn := Aside0.mk h1
 have HGn := Aside0.mk (HG.out.below b1 hpos)
 have Bn := Aside0.mk (B0.out.trans b1)
 have Sn := Aside0.mk (Nat.le_trans S0.out k1.1)
 clear h1 b1 k1 H HG B0 S0
 have H := Hn
 have HG := HGn
 have B0 := Bn
 have S0 := Sn
 clear Hn HGn Bn Sn
 have CF : Calls Try.prog 42 #[.pointer (some ⟨g, 0, none⟩), .bool fst] w2 fun e w' => (∀ t r, res = some (t, r) → e = .returned (.bool true) ∧ WalkAt w' B g ok (Tk.bs r) (L ++ [t])) ∧ (res = none → e = .returned (.bool false)) ∧ Below B w2 w' := by
  cases hr : res with
  | none =>
   refine (token_walk_prolog.no B g fst q L _ H.out HG.out (by omega) (HX.out.trans hr)).mono ?_
   rintro e w' ⟨rfl, b⟩
   exact ⟨(fun t r h => by cases h), fun _ => rfl, b⟩
  | some p =>
   obtain ⟨t0, r0⟩ := p
   refine (token_walk_prolog.yes B g fst q r0 t0 L _ H.out HG.out (by omega) hL (fun k hk => hok k (Nat.le_trans S0.out hk)) (HX.out.trans hr)).mono ?_
   rintro e w' ⟨rfl, h1, b⟩
   refine ⟨fun t r h => ?_, (fun h => by cases h), b⟩
   obtain ⟨rfl, rfl⟩ := Prod.mk.inj (Option.some.inj h)
   exact ⟨rfl, h1⟩
 have CF1 := Aside0.mk CF
 clear CF
 go_wp2_with (go_at_call 42; refine CF1.out.mono ?_)
 rintro e wz ⟨hy, hn, bz⟩
 have BZ := Aside0.mk (B0.out.trans bz)
 clear bz
 cases hr : res with
 | none =>
  obtain rfl := hn hr
  clear hy hn
  go_wp2
  go_ret
  exact ⟨(fun t r h => by rw [hr] at h; cases h), fun _ => rfl, BZ.out⟩
 | some p =>
  obtain ⟨t0, r0⟩ := p
  obtain ⟨rfl, h1⟩ := hy t0 r0 hr
  have H1 := Aside0.mk h1
  clear hy hn h1
  go_wp2
  go_ret
  refine ⟨fun t r h => ?_, (fun h => by rw [hr] at h; cases h), BZ.out⟩
  rw [hr] at h
  obtain ⟨rfl, rfl⟩ := Prod.mk.inj (Option.some.inj h)
  exact ⟨rfl, H1.out⟩
theorem token_walk_next.w3 (B g : Nat) {ok : Nat → Prop} (fst : Bool) (l : List UInt8) (res : Option (S32 × List UInt8)) (q : List UInt8) (L : List S32) (w : World) (h : WalkAt w B g ok (Tk.bs l) L) (hG : Glob w) (hl : l.length ≤ 100000) (hL : L.length ≤ 100000) (hok : ∀ k, w.heap.size ≤ k → ok k) (h0 : Tk.behind [60, 33, 45, 45] l = none) (h1 : Tk.behind [60, 33, 91, 67, 68, 65, 84, 65, 91] l = none) (h2 : Tk.behind [60, 63] l = none) (h3 : Tk.behind [60, 47] l = some q) (hx : Tk.close q = res) :
 Calls Try.prog 25 #[.pointer (some ⟨g, 0, none⟩), .bool fst] w fun e w' => (∀ t r, res = some (t, r) → e = .returned (.bool true) ∧ WalkAt w' B g ok (Tk.bs r) (L ++ [t])) ∧ (res = none → e = .returned (.bool false)) ∧ Below B w w' := by
 have hpos := h.pos
 have HG := Aside0.mk hG
 have HX := Aside0.mk hx
 have H := Aside0.mk h
 have E0 := Aside0.mk h0
 have E1 := Aside0.mk h1
 have E2 := Aside0.mk h2
 have E3 := Aside0.mk h3
 have hlq : q.length ≤ 100000 := Nat.le_trans (behind_le h3) hl
 clear h hG hx h0 h1 h2 h3
 have B0 := Aside0.mk (Below.refl B w)
 have S0 := Aside0.mk (Nat.le_refl w.heap.size)
 go_enter Try.func25, Try.ntmps25
 go_wp2_with (go_at_call 39; refine (token_walk_eat.noK B g _ [60, 33, 45, 45] L _ H.out E0.out).mono ?_)
 rintro e w0 ⟨rfl, h1, b1, k1⟩
 have Hn := Aside0.mk h1
 have HGn := Aside0.mk (HG.out.below b1 hpos)
 have Bn := Aside0.mk (B0.out.trans b1)
 have Sn := Aside0.mk (Nat.le_trans S0.out k1.1)
 clear h1 b1 k1 H HG B0 S0
 have H := Hn
 have HG := HGn
 have B0 := Bn
 have S0 := Sn
 clear Hn HGn Bn Sn
 go_wp2_with (go_at_call 39; refine (token_walk_eat.noK B g _ [60, 33, 91, 67, 68, 65, 84, 65, 91] L _ H.out E1.out).mono ?_)
 rintro e w1 ⟨rfl, h1, b1, k1⟩
 have Hn := Aside0.mk h1
 have HGn := Aside0.mk (HG.out.below b1 hpos)
 have Bn := Aside0.mk (B0.out.trans b1)
 have Sn := Aside0.mk (Nat.le_trans S0.out k1.1)
 clear h1 b1 k1 H HG B0 S0
 have H := Hn
 have HG := HGn
 have B0 := Bn
 have S0 := Sn
 clear Hn HGn Bn Sn
 go_wp2_with (go_at_call 39; refine (token_walk_eat.noK B g _ [60, 63] L _ H.out E2.out).mono ?_)
 rintro e w2 ⟨rfl, h1, b1, k1⟩
 have Hn := Aside0.mk h1
 have HGn := Aside0.mk (HG.out.below b1 hpos)
 have Bn := Aside0.mk (B0.out.trans b1)
 have Sn := Aside0.mk (Nat.le_trans S0.out k1.1)
 clear h1 b1 k1 H HG B0 S0
 have H := Hn
 have HG := HGn
 have B0 := Bn
 have S0 := Sn
 clear Hn HGn Bn Sn
 go_wp2_with (go_at_call 39; refine (token_walk_eat.yesK B g _ [60, 47] q L _ H.out E3.out).mono ?_)
 rintro e w3 ⟨rfl, h1, b1, k1⟩
 have Hn := Aside0.mk h1
 have HGn := Aside0.mk (HG.out.below b1 hpos)
 have Bn := Aside0.mk (B0.out.trans b1)
 have Sn := Aside0.mk (Nat.le_trans S0.out k1.1)
 clear h1 b1 k1 H HG B0 S0
 have H := Hn
 have HG := HGn
 have B0 := Bn
 have S0 := Sn
 clear Hn HGn Bn Sn
 have CF : Calls Try.prog 43 #[.pointer (some ⟨g, 0, none⟩)] w3 fun e w' => (∀ t r, res = some (t, r) → e = .returned (.bool true) ∧ WalkAt w' B g ok (Tk.bs r) (L ++ [t])) ∧ (res = none → e = .returned (.bool false)) ∧ Below B w3 w' := by
  cases hr : res with
  | none =>
   refine (token_walk_end.no B g q L _ H.out HG.out (by omega) (HX.out.trans hr)).mono ?_
   rintro e w' ⟨rfl, b⟩
   exact ⟨(fun t r h => by cases h), fun _ => rfl, b⟩
  | some p =>
   obtain ⟨t0, r0⟩ := p
   refine (token_walk_end.yes B g q r0 t0 L _ H.out HG.out (by omega) hL (fun k hk => hok k (Nat.le_trans S0.out hk)) (HX.out.trans hr)).mono ?_
   rintro e w' ⟨rfl, h1, b⟩
   refine ⟨fun t r h => ?_, (fun h => by cases h), b⟩
   obtain ⟨rfl, rfl⟩ := Prod.mk.inj (Option.some.inj h)
   exact ⟨rfl, h1⟩
 have CF1 := Aside0.mk CF
 clear CF
 go_wp2_with (go_at_call 43; refine CF1.out.mono ?_)
 rintro e wz ⟨hy, hn, bz⟩
 have BZ := Aside0.mk (B0.out.trans bz)
 clear bz
 cases hr : res with
 | none =>
  obtain rfl := hn hr
  clear hy hn
  go_wp2
  go_ret
  exact ⟨(fun t r h => by rw [hr] at h; cases h), fun _ => rfl, BZ.out⟩
 | some p =>
  obtain ⟨t0, r0⟩ := p
  obtain ⟨rfl, h1⟩ := hy t0 r0 hr
  have H1 := Aside0.mk h1
  clear hy hn h1
  go_wp2
  go_ret
  refine ⟨fun t r h => ?_, (fun h => by rw [hr] at h; cases h), BZ.out⟩
  rw [hr] at h
  obtain ⟨rfl, rfl⟩ := Prod.mk.inj (Option.some.inj h)
  exact ⟨rfl, H1.out⟩
theorem token_walk_next.w4 (B g : Nat) {ok : Nat → Prop} (fst : Bool) (l : List UInt8) (res : Option (S32 × List UInt8)) (q : List UInt8) (L : List S32) (w : World) (h : WalkAt w B g ok (Tk.bs l) L) (hG : Glob w) (hl : l.length ≤ 100000) (hL : L.length ≤ 100000) (hok : ∀ k, w.heap.size ≤ k → ok k) (h0 : Tk.behind [60, 33, 45, 45] l = none) (h1 : Tk.behind [60, 33, 91, 67, 68, 65, 84, 65, 91] l = none) (h2 : Tk.behind [60, 63] l = none) (h3 : Tk.behind [60, 47] l = none) (h4 : Tk.behind [60] l = some q) (hx : Tk.opening q = res) :
 Calls Try.prog 25 #[.pointer (some ⟨g, 0, none⟩), .bool fst] w fun e w' => (∀ t r, res = some (t, r) → e = .returned (.bool true) ∧ WalkAt w' B g ok (Tk.bs r) (L ++ [t])) ∧ (res = none → e = .returned (.bool false)) ∧ Below B w w' := by
 have hpos := h.pos
 have HG := Aside0.mk hG
 have HX := Aside0.mk hx
 have H := Aside0.mk h
 have E0 := Aside0.mk h0
 have E1 := Aside0.mk h1
 have E2 := Aside0.mk h2
 have E3 := Aside0.mk h3
 have E4 := Aside0.mk h4
 have hlq : q.length ≤ 100000 := Nat.le_trans (behind_le h4) hl
 clear h hG hx h0 h1 h2 h3 h4
 have B0 := Aside0.mk (Below.refl B w)
 have S0 := Aside0.mk (Nat.le_refl w.heap.size)
 go_enter Try.func25, Try.ntmps25
 go_wp2_with (go_at_call 39; refine (token_walk_eat.noK B g _ [60, 33, 45, 45] L _ H.out E0.out).mono ?_)
 rintro e w0 ⟨rfl, h1, b1, k1⟩
 have Hn := Aside0.mk h1
 have HGn := Aside0.mk (HG.out.below b1 hpos)
 have Bn := Aside0.mk (B0.out.trans b1)
 have Sn := Aside0.mk (Nat.le_trans S0.out k1.1)
 clear h1 b1 k1 H HG B0 S0
 have H := Hn
 have HG := HGn
 have B0 := Bn
 have S0 := Sn
 clear Hn HGn Bn Sn
 go_wp2_with (go_at_call 39; refine (token_walk_eat.noK B g _ [60, 33, 91, 67, 68, 65, 84, 65, 91] L _ H.out E1.out).mono ?_)
 rintro e w1 ⟨rfl, h1, b1, k1⟩
 have Hn := Aside0.mk h1
 have HGn := Aside0.mk (HG.out.below b1 hpos)
 have Bn := Aside0.mk (B0.out.trans b1)
 have Sn := Aside0.mk (Nat.le_trans S0.out k1.1)
 clear h1 b1 k1 H HG B0 S0
 have H := Hn
 have HG := HGn
 have B0 := Bn
 have S0 := Sn
 clear Hn HGn Bn Sn
 go_wp2_with (go_at_call 39; refine (token_walk_eat.noK B g _ [60, 63] L _ H.out E2.out).mono ?_)
 rintro e w2 ⟨rfl, h1, b1, k1⟩
 have Hn := Aside0.mk h1
 have HGn := Aside0.mk (HG.out.below b1 hpos)
 have Bn := Aside0.mk (B0.out.trans b1)
 have Sn := Aside0.mk (Nat.le_trans S0.out k1.1)
 clear h1 b1 k1 H HG B0 S0
 have H := Hn
 have HG := HGn
 have B0 := Bn
 have S0 := Sn
 clear Hn HGn Bn Sn
 go_wp2_with (go_at_call 39; refine (token_walk_eat.noK B g _ [60, 47] L _ H.out E3.out).mono ?_)
 rintro e w3 ⟨rfl, h1, b1, k1⟩
 have Hn := Aside0.mk h1
 have HGn := Aside0.mk (HG.out.below b1 hpos)
 have Bn := Aside0.mk (B0.out.trans b1)
 have Sn := Aside0.mk (Nat.le_trans S0.out k1.1)
 clear h1 b1 k1 H HG B0 S0
 have H := Hn
 have HG := HGn
 have B0 := Bn
 have S0 := Sn
 clear Hn HGn Bn Sn
 go_wp2_with (go_at_call 39; refine (token_walk_eat.yesK B g _ [60] q L _ H.out E4.out).mono ?_)
 rintro e w4 ⟨rfl, h1, b1, k1⟩
 have Hn := Aside0.mk h1
 have HGn := Aside0.mk (HG.out.below b1 hpos)
 have Bn := Aside0.mk (B0.out.trans b1)
 have Sn := Aside0.mk (Nat.le_trans S0.out k1.1)
 clear h1 b1 k1 H HG B0 S0
 have H := Hn
 have HG := HGn
 have B0 := Bn
 have S0 := Sn
 clear Hn HGn Bn Sn
 go_wp2_with (go_at_call 44; refine (token_walk_begin.all B g q res L _ H.out HG.out hlq hL (fun k hk => hok k (Nat.le_trans S0.out hk)) HX.out).mono ?_)
 rintro e wz ⟨hy, hn, bz⟩
 have BZ := Aside0.mk (B0.out.trans bz)
 clear bz
 cases hr : res with
 | none =>
  obtain rfl := hn hr
  clear hy hn
  go_wp2
  go_ret
  exact ⟨(fun t r h => by rw [hr] at h; cases h), fun _ => rfl, BZ.out⟩
 | some p =>
  obtain ⟨t0, r0⟩ := p
  obtain ⟨rfl, h1⟩ := hy t0 r0 hr
  have H1 := Aside0.mk h1
  clear hy hn h1
  go_wp2
  go_ret
  refine ⟨fun t r h => ?_, (fun h => by rw [hr] at h; cases h), BZ.out⟩
  rw [hr] at h
  obtain ⟨rfl, rfl⟩ := Prod.mk.inj (Option.some.inj h)
  exact ⟨rfl, H1.out⟩
theorem token_walk_next.w5 (B g : Nat) {ok : Nat → Prop} (fst : Bool) (l : List UInt8) (res : Option (S32 × List UInt8)) (L : List S32) (w : World) (h : WalkAt w B g ok (Tk.bs l) L) (hG : Glob w) (hl : l.length ≤ 100000) (hL : L.length ≤ 100000) (hok : ∀ k, w.heap.size ≤ k → ok k) (h0 : Tk.behind [60, 33, 45, 45] l = none) (h1 : Tk.behind [60, 33, 91, 67, 68, 65, 84, 65, 91] l = none) (h2 : Tk.behind [60, 63] l = none) (h3 : Tk.behind [60, 47] l = none) (h4 : Tk.behind [60] l = none) (hx : Tk.text l = res) :
 Calls Try.prog 25 #[.pointer (some ⟨g, 0, none⟩), .bool fst] w fun e w' => (∀ t r, res = some (t, r) → e = .returned (.bool true) ∧ WalkAt w' B g ok (Tk.bs r) (L ++ [t])) ∧ (res = none → e = .returned (.bool false)) ∧ Below B w w' := by
 have hpos := h.pos
 have HG := Aside0.mk hG
 have HX := Aside0.mk hx
 have H := Aside0.mk h
 have E0 := Aside0.mk h0
 have E1 := Aside0.mk h1
 have E2 := Aside0.mk h2
 have E3 := Aside0.mk h3
 have E4 := Aside0.mk h4
 clear h hG hx h0 h1 h2 h3 h4
 have B0 := Aside0.mk (Below.refl B w)
 have S0 := Aside0.mk (Nat.le_refl w.heap.size)
 go_enter Try.func25, Try.ntmps25
 go_wp2_with (go_at_call 39; refine (token_walk_eat.noK B g _ [60, 33, 45, 45] L _ H.out E0.out).mono ?_)
 rintro e w0 ⟨rfl, h1, b1, k1⟩
 have Hn := Aside0.mk h1
 have HGn := Aside0.mk (HG.out.below b1 hpos)
 have Bn := Aside0.mk (B0.out.trans b1)
 have Sn := Aside0.mk (Nat.le_trans S0.out k1.1)
 clear h1 b1 k1 H HG B0 S0
 have H := Hn
 have HG := HGn
 have B0 := Bn
 have S0 := Sn
 clear Hn HGn Bn Sn
 go_wp2_with (go_at_call 39; refine (token_walk_eat.noK B g _ [60, 33, 91, 67, 68, 65, 84, 65, 91] L _ H.out E1.out).mono ?_)
 rintro e w1 ⟨rfl, h1, b1, k1⟩
 have Hn := Aside0.mk h1
 have HGn := Aside0.mk (HG.out.below b1 hpos)
 have Bn := Aside0.mk (B0.out.trans b1)
 have Sn := Aside0.mk (Nat.le_trans S0.out k1.1)
 clear h1 b1 k1 H HG B0 S0
 have H := Hn
 have HG := HGn
 have B0 := Bn
 have S0 := Sn
 clear Hn HGn Bn Sn
 go_wp2_with (go_at_call 39; refine (token_walk_eat.noK B g _ [60, 63] L _ H.out E2.out).mono ?_)
 rintro e w2 ⟨rfl, h1, b1, k1⟩
 have Hn := Aside0.mk h1
 have HGn := Aside0.mk (HG.out.below b1 hpos)
 have Bn := Aside0.mk (B0.out.trans b1)
 have Sn := Aside0.mk (Nat.le_trans S0.out k1.1)
 clear h1 b1 k1 H HG B0 S0
 have H := Hn
 have HG := HGn
 have B0 := Bn
 have S0 := Sn
 clear Hn HGn Bn Sn
 go_wp2_with (go_at_call 39; refine (token_walk_eat.noK B g _ [60, 47] L _ H.out E3.out).mono ?_)
 rintro e w3 ⟨rfl, h1, b1, k1⟩
 have Hn := Aside0.mk h1
 have HGn := Aside0.mk (HG.out.below b1 hpos)
 have Bn := Aside0.mk (B0.out.trans b1)
 have Sn := Aside0.mk (Nat.le_trans S0.out k1.1)
 clear h1 b1 k1 H HG B0 S0
 have H := Hn
 have HG := HGn
 have B0 := Bn
 have S0 := Sn
 clear Hn HGn Bn Sn
 go_wp2_with (go_at_call 39; refine (token_walk_eat.noK B g _ [60] L _ H.out E4.out).mono ?_)
 rintro e w4 ⟨rfl, h1, b1, k1⟩
 have Hn := Aside0.mk h1
 have HGn := Aside0.mk (HG.out.below b1 hpos)
 have Bn := Aside0.mk (B0.out.trans b1)
 have Sn := Aside0.mk (Nat.le_trans S0.out k1.1)
 clear h1 b1 k1 H HG B0 S0
 have H := Hn
 have HG := HGn
 have B0 := Bn
 have S0 := Sn
 clear Hn HGn Bn Sn
 go_wp2_with (go_at_call 45; refine (token_walk_text.all B g l res L _ H.out HG.out hl hL (fun k hk => hok k (Nat.le_trans S0.out hk)) HX.out).mono ?_)
 rintro e wz ⟨hy, hn, bz⟩
 have BZ := Aside0.mk (B0.out.trans bz)
 clear bz
 cases hr : res with
 | none =>
  obtain rfl := hn hr
  clear hy hn
  go_wp2
  go_ret
  exact ⟨(fun t r h => by rw [hr] at h; cases h), fun _ => rfl, BZ.out⟩
 | some p =>
  obtain ⟨t0, r0⟩ := p
  obtain ⟨rfl, h1⟩ := hy t0 r0 hr
  have H1 := Aside0.mk h1
  clear hy hn h1
  go_wp2
  go_ret
  refine ⟨fun t r h => ?_, (fun h => by rw [hr] at h; cases h), BZ.out⟩
  rw [hr] at h
  obtain ⟨rfl, rfl⟩ := Prod.mk.inj (Option.some.inj h)
  exact ⟨rfl, H1.out⟩
theorem token_walk_next.all (B g : Nat) {ok : Nat → Prop} (fst : Bool) (l : List UInt8) (res : Option (S32 × List UInt8)) (L : List S32) (w : World) (h : WalkAt w B g ok (Tk.bs l) L) (hG : Glob w) (hl : l.length ≤ 100000) (hL : L.length ≤ 100000) (hok : ∀ k, w.heap.size ≤ k → ok k) (hx : Tk.next fst l = res) :
 Calls Try.prog 25 #[.pointer (some ⟨g, 0, none⟩), .bool fst] w fun e w' => (∀ t r, res = some (t, r) → e = .returned (.bool true) ∧ WalkAt w' B g ok (Tk.bs r) (L ++ [t])) ∧ (res = none → e = .returned (.bool false)) ∧ Below B w w' := by
 unfold Tk.next at hx
 cases h0 : Tk.behind [60, 33, 45, 45] l with
 | some q => rw [h0] at hx; exact token_walk_next.w0 B g fst l res q L w h hG hl hL hok h0 hx
 | none =>
  rw [h0] at hx
  dsimp only at hx
  cases h1 : Tk.behind [60, 33, 91, 67, 68, 65, 84, 65, 91] l with
  | some q => rw [h1] at hx; exact token_walk_next.w1 B g fst l res q L w h hG hl hL hok h0 h1 hx
  | none =>
   rw [h1] at hx
   dsimp only at hx
   cases h2 : Tk.behind [60, 63] l with
   | some q => rw [h2] at hx; exact token_walk_next.w2 B g fst l res q L w h hG hl hL hok h0 h1 h2 hx
   | none =>
    rw [h2] at hx
    dsimp only at hx
    cases h3 : Tk.behind [60, 47] l with
    | some q => rw [h3] at hx; exact token_walk_next.w3 B g fst l res q L w h hG hl hL hok h0 h1 h2 h3 hx
    | none =>
     rw [h3] at hx
     dsimp only at hx
     cases h4 : Tk.behind [60] l with
     | some q => rw [h4] at hx; exact token_walk_next.w4 B g fst l res q L w h hG hl hL hok h0 h1 h2 h3 h4 hx
     | none =>
      rw [h4] at hx
      dsimp only at hx
      exact token_walk_next.w5 B g fst l res L w h hG hl hL hok h0 h1 h2 h3 h4 hx
theorem allowed_f (c : UInt8) : chars_Allowed.f (c.toNat : Int) = some (Tk.allowed c) := Tk.bytes_all (by kernel_rfl) c
def badB (c : UInt8) : Bool := !Tk.allowed c
theorem token_Split.clo (c : UInt8) (x : Int) (hx : x = (c.toNat : Int)) (w : World) (hG : Glob w) :
 Calls Try.prog 23 #[.int .u8 x] w fun e w' => e = .returned (.bool (badB c)) ∧ Below w.heap.size w w' := by
 have hf := allowed_f c
 rw [← hx] at hf
 obtain ⟨b, hb⟩ : ∃ b, Tk.allowed c = b := ⟨_, rfl⟩
 have hbb : badB c = !b := by unfold badB; rw [hb]
 rw [hb] at hf
 rw [hbb]
 have HF := Aside0.mk hf
 have HG := Aside0.mk hG
 clear hf hG hb hbb hx
 go_enter Try.func23, Try.ntmps23
 go_wp2_with (first | (go_at_call 24; (with_reducible refine (chars_Allowed.calls x b _ HG.out HF.out).mono ?_); rintro e w1 ⟨rfl, ⟨nd, rfl⟩⟩))
 go_ret
 exact ⟨rfl, pw_below_drewN (Below.refl _ _) nd⟩
theorem bytes_rd (l : List UInt8) (i : Nat) (h : i < l.length) : rd (bytesOf (Tk.bs l)) (i : Int) = (l[i].toNat : Int) := by rw [rd_bytesOf, bs_bt l i h]
theorem token_Split.ix (A0 : Option Addr) (c0 : Nat) (l : List UInt8) (w : World) (hr0 : Kd.C (Kd.int .u8) w A0 l.length (bytesOf (Tk.bs l))) (hlen : l.length ≤ 1000000) (hG : Glob w) :
 Calls Try.prog 37 #[.slice A0 l.length c0, .func (.func 23) #[] #[]] w fun e w' => (∃ r : Int, e = .returned (.int .i64 r) ∧ decide (0 ≤ r) = l.any badB) ∧ Below w.heap.size w w' := by
 have HR0 := Aside0.mk hr0
 have HG := Aside0.mk hG
 clear hr0 hG
 go_enter Try.func37, Try.ntmps37
 go_wp2
 go_loopg [8] (l.length + 1) (fun gk v8 w' => ∃ (i : Nat) (x : Int), i ≤ l.length ∧ i + gk = l.length + 1 ∧ v8 = .int .i64 x ∧ Aside0 (x = (i : Int)) ∧ Aside0 ((l.take i).any badB = false) ∧ Aside0 (Below w.heap.size w w'))
 case atStart => exact ⟨0, 0, by omega, by omega, by first | rfl | (simp; done), ⟨rfl⟩, ⟨by rw [List.take_zero]; rfl⟩, ⟨Below.refl _ _⟩⟩
 obtain ⟨i, x, hi, hgk, rfl, HX, HA, HB⟩ := hrel
 have hxi := HX.out
 by_cases hlt : i < l.length
 rotate_left
 ·obtain rfl : i = l.length := by omega
  have d1 : decide (x < (l.length : Int)) = false := decide_eq_false (by omega)
  have hall : l.any badB = false := by have := HA.out; rwa [List.take_length] at this
  have HALL := Lib.hid hall
  clear hall hxi
  go_wp2
  go_ret
  exact ⟨⟨_, rfl, by rw [HALL.out]; rfl⟩, HB.out⟩
 obtain ⟨g1, rfl⟩ : ∃ g1, gk = g1 + 1 := ⟨gk - 1, by omega⟩
 have d1 : decide (x < (l.length : Int)) = true := decide_eq_true (by omega)
 obtain ⟨ad, e_, hx0⟩ := Kd.at_int HR0.out x (by omega) (by omega)
 cases e_
 obtain ⟨y, hy⟩ : ∃ y, rd (bytesOf (Tk.bs l)) x = y := ⟨_, rfl⟩
 have hyc : y = (l[i].toNat : Int) := by rw [← hy, hxi, bytes_rd l i hlt]
 rw [hy] at hx0
 replace hx0 := (HB.out.cell (World.block_lt_of_cell? w _ hx0)).trans hx0
 have p_ := eq_true (show 0 ≤ x by omega)
 have q_ := eq_true (show x < (l.length : Int) by omega)
 have hat := any_take badB l i hlt
 rw [HA.out, Bool.false_or] at hat
 have C2 := token_Split.clo l[i] y hyc wr (HG.out.step HB.out)
 cases hps : badB l[i] with
 | true =>
  rw [hps] at C2
  have hall : l.any badB = true := any_hit hlt hps
  have HALL := Lib.hid hall
  have HX0 : decide (0 ≤ x) = true := decide_eq_true (by omega)
  have HXX := Lib.hid HX0
  have C3 := Aside0.mk C2
  clear hps hall hat hxi C2 HX0 hy hyc
  go_wp2_with (first | (go_at_call 23; (with_reducible refine (C3.out).mono ?_); rintro e w4 ⟨rfl, hb⟩; have B4 := Aside0.mk hb; clear hb))
  go_ret
  exact ⟨⟨_, rfl, by rw [HALL.out, HXX.out]⟩, below_step HB.out B4.out⟩
 | false =>
  rw [hps] at C2 hat
  have HAT := Aside0.mk hat
  have C3 := Aside0.mk C2
  have hw1 : wrap64 (x + 1) = ((i + 1 : Nat) : Int) := by unfold wrap64; omega
  have HW1 := Aside0.mk hw1
  clear hps hat hxi C2 hw1 hy hyc
  go_wp2_with (first | (go_at_call 23; (with_reducible refine (C3.out).mono ?_); rintro e w4 ⟨rfl, hb⟩; have B4 := Aside0.mk hb; clear hb))
  go_roundg g1
  case measure => omega
  case rel => exact ⟨i + 1, _, by omega, by omega, by first | rfl | (simp; done), HW1, HAT, ⟨below_step HB.out B4.out⟩⟩
theorem token_Split.has (A0 : Option Addr) (c0 : Nat) (l : List UInt8) (w : World) (hr0 : Kd.C (Kd.int .u8) w A0 l.length (bytesOf (Tk.bs l))) (hlen : l.length ≤ 1000000) (hG : Glob w) :
 Calls Try.prog 22 #[.slice A0 l.length c0, .func (.func 23) #[] #[]] w fun e w' => e = .returned (.bool (l.any badB)) ∧ Below w.heap.size w w' := by
 have C1 := Aside0.mk (token_Split.ix A0 c0 l w hr0 hlen hG)
 obtain ⟨b, hb⟩ : ∃ b, b = l.any badB := ⟨_, rfl⟩
 rw [← hb] at C1 ⊢
 clear hr0 hG hb
 go_enter Try.func22, Try.ntmps22
 go_wp2_with (first | (go_at_call 37; (with_reducible refine C1.out.mono ?_); rintro e w4 ⟨⟨r, rfl, hr⟩, hb⟩; have HB := Aside0.mk hb; have HR := Lib.hid hr; clear hb hr))
 go_ret
 refine ⟨?_, HB.out⟩
 rw [← HR.out]
 first | rfl | (simp; done)
theorem attrs_len : ∀ (n : Nat) (nm : List UInt8) (ys : List S39) (l : List UInt8) (t : S32) (r : List UInt8), Tk.attrs n nm ys l = some (t, r) → r.length ≤ l.length
 | 0, _, _, _, _, _, h => by simp [Tk.attrs] at h
 | n + 1, nm, ys, l, t, r, h => by
  rw [Tk.attrs] at h
  (try dsimp only at h)
  have hs := skip_len l
  cases h1 : Tk.behind [62] (Tk.skip l) with
  | some q =>
   rw [h1] at h
   obtain ⟨_, rfl⟩ := Prod.mk.inj (Option.some.inj h)
   exact Nat.le_trans (behind_len h1) hs
  | none =>
   rw [h1] at h
   (try dsimp only at h)
   cases h2 : Tk.behind [47, 62] (Tk.skip l) with
   | some q =>
    rw [h2] at h
    obtain ⟨_, rfl⟩ := Prod.mk.inj (Option.some.inj h)
    exact Nat.le_trans (behind_len h2) hs
   | none =>
    rw [h2] at h
    (try dsimp only at h)
    split at h
    ·cases h
    ·obtain ⟨⟨x, q⟩, h3, h⟩ := Option.bind_eq_some_iff.1 h
     (try dsimp only at h)
     split at h
     ·cases h
     ·have := attrs_len n nm _ q t r h
      have := attr_len h3
      omega
theorem next_len {fst : Bool} {l r : List UInt8} {t : S32} (hl : l ≠ []) (h : Tk.next fst l = some (t, r)) : r.length < l.length := by
 unfold Tk.next at h
 cases h1 : Tk.behind [60, 33, 45, 45] l with
 | some q =>
  rw [h1] at h
  have e := behind_sum h1
  unfold Tk.comment at h
  obtain ⟨⟨a, b⟩, h2, h⟩ := Option.bind_eq_some_iff.1 h
  (try dsimp only at h)
  split at h
  ·cases h
  ·obtain ⟨_, rfl⟩ := Prod.mk.inj (Option.some.inj h)
   have := (upto_len h2).2
   simp only [List.length_cons, List.length_nil] at e
   (try dsimp only)
   omega
 | none =>
 rw [h1] at h
 (try dsimp only at h)
 cases h1 : Tk.behind [60, 33, 91, 67, 68, 65, 84, 65, 91] l with
 | some q =>
  rw [h1] at h
  have e := behind_sum h1
  obtain ⟨⟨a, b⟩, h2, h⟩ := Option.map_eq_some_iff.1 (show (Tk.upto [93, 93, 62] q).map _ = some (t, r) from h)
  obtain ⟨_, rfl⟩ := Prod.mk.inj h
  have := (upto_len h2).2
  simp only [List.length_cons, List.length_nil] at e
  (try dsimp only)
  omega
 | none =>
 rw [h1] at h
 (try dsimp only at h)
 cases h1 : Tk.behind [60, 63] l with
 | some q =>
  rw [h1] at h
  have e := behind_sum h1
  obtain ⟨⟨a, b⟩, h2, h⟩ := Option.bind_eq_some_iff.1 (show (Tk.upto [63, 62] q).bind _ = some (t, r) from h)
  (try dsimp only at h)
  split at h
  ·obtain ⟨_, rfl⟩ := Prod.mk.inj (Option.some.inj h)
   have := (upto_len h2).2
   simp only [List.length_cons, List.length_nil] at e
   (try dsimp only)
   omega
  ·cases h
 | none =>
 rw [h1] at h
 (try dsimp only at h)
 cases h1 : Tk.behind [60, 47] l with
 | some q =>
  rw [h1] at h
  have e := behind_sum h1
  (try dsimp only at h)
  unfold Tk.close at h
  split at h
  ·cases h
  ·obtain ⟨b, h2, h⟩ := Option.map_eq_some_iff.1 h
   obtain ⟨_, rfl⟩ := Prod.mk.inj h
   have e2 := behind_len h2
   have e3 := skip_len (q.drop (Tk.head q).length)
   rw [List.length_drop] at e3
   simp only [List.length_cons, List.length_nil] at e
   omega
 | none =>
 rw [h1] at h
 (try dsimp only at h)
 cases h1 : Tk.behind [60] l with
 | some q =>
  rw [h1] at h
  have e := behind_sum h1
  (try dsimp only at h)
  unfold Tk.opening at h
  split at h
  ·cases h
  ·have e2 := attrs_len _ _ _ _ _ _ h
   rw [List.length_drop] at e2
   simp only [List.length_cons, List.length_nil] at e
   omega
 | none =>
 rw [h1] at h
 (try dsimp only at h)
 unfold Tk.text at h
 (try dsimp only at h)
 obtain ⟨x, _, h⟩ := Option.map_eq_some_iff.1 h
 obtain ⟨_, rfl⟩ := Prod.mk.inj h
 cases l with
 | nil => exact absurd rfl hl
 | cons c q =>
  have hc : (c != 60) = true := by
   by_cases hc : c = 60
   ·subst hc; simp [Tk.behind, List.isPrefixOf] at h1
   ·simpa using hc
  rw [List.takeWhile_cons, if_pos hc, List.length_drop, List.length_cons, List.length_cons]
  omega
def token_Split.f (a0 : ByteArray) : Option (List S32 × Int) := if a0.size ≤ 9223372036854775807 then some (Tk.split a0.data.toList) else none
theorem token_Split.loop (l : List UInt8) (P : Option (List S32)) (hl : l.length ≤ 20000) (hbad : l.any badB = false) (hP : Tk.pieces (l.length + 1) true l = P) (w : World) (hG : Glob w) :
 Calls Try.prog 12 #[.string (Tk.bs l)] w fun e w' => (∀ t, P = some t → ∃ v0_ : Value, e = .returned (.tuple #[v0_, .int .i64 0]) ∧ Kd.S k32 32 w' w.heap.size (fun _ => True) v0_ t) ∧ (P = none → e = .returned (.tuple #[.slice none 0 0, .int .i64 5])) ∧ Below w.heap.size w w' := by
 have hsz := bs_size l
 have hpos := hG.lt
 obtain ⟨s, hs⟩ : ∃ s, s = Tk.bs l := ⟨_, rfl⟩
 have d1 : decide ((20000 : Int) < (s.size : Int)) = false := decide_eq_false (by rw [hs, hsz]; omega)
 have d1' : decide (20000 < s.size) = false := decide_eq_false (by rw [hs, hsz]; omega)
 have kb := fun W => print_bytes (P := Try.prog) 9 35 5 Try.underlying9 Try.underlying35 Try.underlying5 s W
 have hr : Kd.C (Kd.int .u8) (Lib.bytesWorld w 5 s) (some ⟨w.heap.size, 0, none⟩) s.size (bytesOf s) := Kd.C_of_reads (enc := Value.int .u8) (d := (0 : Int)) (h1 := fun _ => rfl) (bytes_reads w 5 s (by rw [hs, hsz]; omega))
 have hb : Below w.heap.size w (Lib.bytesWorld w 5 s) := bytes_below (Below.refl _ _) (Nat.le_refl _) _ _
 have hu := Try.underlying54
 have HSZ := Lib.hid (show s.size = l.length by rw [hs, hsz])
 have HS := Lib.hid hs
 have HBAD := Lib.hid hbad
 have HP := Lib.hid hP
 have HR := Aside0.mk hr
 have HBB := Aside0.mk hb
 have HG := Aside0.mk hG
 rw [← hs]
 clear hs hsz hr hb hG hbad hP
 go_enter Try.func12, Try.ntmps12
 go_wp2
 refine wp_scope_loop 0 (by rfl) ?_
 go_wp2_with (fail)
 have hC := HR.out
 rw [HSZ.out, HS.out] at hC
 rw [HSZ.out]
 refine (token_Split.has _ _ l _ (by rw [← HS.out] at hC ⊢; exact hC) (by omega) (HG.out.step HBB.out)).mono ?_
 rintro e wc ⟨rfl, b1⟩
 rw [HBAD.out]
 have HBC := Aside0.mk (HBB.out.trans (b1.mono HBB.out.size))
 clear b1 hC HBB HR kb d1 d1'
 go_wp2_with (fail)
 have hb0 : Below wc.heap.size wc (wc.alloc (.cells #[.string s, .slice none 0 0] 54)) := below_alloc (Below.refl _ _) _
 have X0 : (wc.alloc (.cells #[.string s, .slice none 0 0] 54)).heap[wc.heap.size]? = some (.cells #[.string s, .slice none 0 0] 54 (0, 0)) := heap_alloc_new wc _
 obtain ⟨g, hg⟩ : ∃ g, g = wc.heap.size := ⟨_, rfl⟩
 obtain ⟨B, hBe⟩ : ∃ B, B = w.heap.size := ⟨_, rfl⟩
 obtain ⟨wb, hwb⟩ : ∃ wb, wb = w := ⟨_, rfl⟩
 have hgB : B ≤ g := by have := HBC.out.size; omega
 have H2 := Aside0.mk (show WalkAt (wc.alloc (.cells #[.string s, .slice none 0 0] 54)) B g (fun _ => True) (Tk.bs l) [] from by rw [← HS.out]; exact ⟨_, by rw [hg]; exact X0, Kd.S_nil _ _ _ _ _, hgB, by omega⟩)
 have B2 := Aside0.mk (show Below B wb (wc.alloc (.cells #[.string s, .slice none 0 0] 54)) from by rw [hBe, hwb]; exact HBC.out.trans (hb0.mono HBC.out.size))
 have HGb := Aside0.mk (show Glob wb from by rw [hwb]; exact HG.out)
 have hposB : 0 < B := by omega
 rw [← hg]
 rw [← hBe, ← hwb]
 clear hb0 X0 HBC HG
 generalize wc.alloc _ = w0 at *
 have HBE := Lib.hid hBe
 have HWB := Lib.hid hwb
 clear hg hBe hwb
 refine wp_label ?_
 rename_i hlb
 refine hlb _ _ ?_
 refine wp_at_label ?_
 refine LoopAt.intro (fun aB_ kq_ a1 w1 => ∃ (u2 u3 u16 u17 u18 u19 u20 u21 u22 u23 u24 u25 u26 u27 u28 u29 u30 u31 u32 u33 u34 u35 : Value), (∃ (m : List UInt8) (L : List S32) (fst : Bool), m.length < kq_ ∧ Aside0 (fst = decide (m.length = l.length)) ∧ Aside0 (L.length + m.length ≤ l.length) ∧ Aside0 (P = (Tk.pieces kq_ fst m).map fun t => L ++ t) ∧ Aside0 (WalkAt w1 B g (fun _ => True) (Tk.bs m) L) ∧ Aside0 (Below B wb w1)) ∧ a1 = ((((((((((((((((((((((aB_.put (some 2) u2).put (some 3) u3).put (some 16) u16).put (some 17) u17).put (some 18) u18).put (some 19) u19).put (some 20) u20).put (some 21) u21).put (some 22) u22).put (some 23) u23).put (some 24) u24).put (some 25) u25).put (some 26) u26).put (some 27) u27).put (some 28) u28).put (some 29) u29).put (some 30) u30).put (some 31) u31).put (some 32) u32).put (some 33) u33).put (some 34) u34).put (some 35) u35)) (l.length + 1) ?_ ?_
 ·(repeat apply Exists.intro)
  (try simp only [Act.put, List.setIfInBounds_toArray, List.set_cons_zero, List.set_cons_succ])
  refine ⟨?_, rfl⟩
  exact ⟨l, [], true, Nat.lt_succ_self _, ⟨by simp⟩, ⟨by simp⟩, ⟨by rw [HP.out]; simp⟩, H2, B2⟩
 ·intro gk a1 wr hinv
  obtain ⟨u2, u3, u16, u17, u18, u19, u20, u21, u22, u23, u24, u25, u26, u27, u28, u29, u30, u31, u32, u33, u34, u35, hrel, ha⟩ := hinv
  subst ha
  (try simp only [Act.put, List.setIfInBounds_toArray, List.set_cons_zero, List.set_cons_succ])
  intro Js0 Ks0 hJs0 hKs0
  clear H2 B2 HP
  obtain ⟨m, L, fst, hmk, HFS, HLM, HP, H, HB⟩ := hrel
  obtain ⟨g1, rfl⟩ : ∃ g1, gk = g1 + 1 := ⟨gk - 1, by omega⟩
  have hlm := HLM.out
  have hsl := HSZ.out
  have hmz := bs_size m
  have c0 := H.out.cell0
  have HG1 := Aside0.mk (HGb.out.below HB.out (by show 0 < B; omega))
  by_cases hm : m = []
  ·have hPL : P = some L := by
    rw [HP.out, Tk.pieces, if_pos hm]; simp
   have HPL := Lib.hid hPL
   have e1 := bs_none hm
   have H0 := H.out
   obtain ⟨v, h1, h2, _⟩ := H0
   obtain ⟨A1, c1, rfl⟩ := Kd.S_slice h2
   have c1' := (blk_cell h1 1).trans rfl
   have H2 := Aside0.mk h2
   clear h1 h2 hPL hm HP hlm hsl hmz
   go_wp2_with (fail)
   (try simp only [Exit.inBlock, Exit.then, jump_ret])
   go_ret2
   have HBf := HB.out
   have H2f := H2.out
   rw [HBE.out, HWB.out] at HBf
   rw [HBE.out] at H2f
   refine ⟨fun t h => ?_, (fun h => by rw [HPL.out] at h; cases h), HBf⟩
   rw [HPL.out] at h
   obtain rfl := Option.some.inj h
   exact ⟨_, rfl, Kd.S_mono H2f (fun _ _ => trivial)⟩
  obtain ⟨e1, e2, e3, e4⟩ := bs_some hm
  have hP1 : P = ((Tk.next fst m).bind fun p => (Tk.pieces g1 false p.2).map fun t => p.1 :: t).map fun t => L ++ t := by
   rw [HP.out, Tk.pieces, if_neg hm]
  have hfs : ((((Tk.bs m).size : Nat) : Int) == ((s.size : Nat) : Int)) = fst := by
   rw [HFS.out, hmz, hsl]
   rw [Bool.eq_iff_iff, beq_iff_eq, decide_eq_true_eq]
   omega
  have hfs2 : ((Tk.bs m).size == s.size) = fst := by
   rw [HFS.out, hmz, hsl]
   rw [Bool.eq_iff_iff, beq_iff_eq, decide_eq_true_eq]
  have HP1 := Lib.hid hP1
  obtain ⟨res, hres⟩ : ∃ res, Tk.next fst m = res := ⟨_, rfl⟩
  have CN := Aside0.mk (token_walk_next.all B g fst m res L wr H.out HG1.out (by omega) (by omega) (fun _ _ => trivial) hres)
  have HRS := Lib.hid hres
  have HM := Lib.hid hm
  clear hP1 hres hm HP hsl hmz
  go_wp2_with (go_at_call 25; (with_reducible refine CN.out.mono ?_))
  rintro e wn ⟨hy, hn, bn⟩
  have B3 := Aside0.mk (HB.out.trans bn)
  clear bn CN
  cases hr : res with
  | none =>
   obtain rfl := hn hr
   have hPN : P = none := by rw [HP1.out, HRS.out, hr]; rfl
   have HPN := Lib.hid hPN
   clear hy hn hPN hr
   go_wp2_with (fail)
   (try simp only [Exit.inBlock, Exit.then, jump_ret])
   go_ret2
   have HBf := B3.out
   rw [HBE.out, HWB.out] at HBf
   exact ⟨(fun t h => by rw [HPN.out] at h; cases h), fun _ => rfl, HBf⟩
  | some p =>
   obtain ⟨t0, r0⟩ := p
   obtain ⟨rfl, h1⟩ := hy t0 r0 hr
   have H3 := Aside0.mk h1
   have hrl := next_len HM.out (HRS.out.trans hr)
   have hPN : P = (Tk.pieces g1 false r0).map fun t => (L ++ [t0]) ++ t := by
    rw [HP1.out, HRS.out, hr]
    cases hq : Tk.pieces g1 false r0 with
    | none => simp [hq]
    | some t => simp [hq]
   have HPN := Aside0.mk hPN
   clear hy hn h1 hPN hr hfs hfs2
   go_wp2_with (fail)
   refine wp_goto (And.intro rfl ?_)
   refine hKs0 _ _ ?_
   go_roundg g1
   case measure => omega
   case rel => exact ⟨r0, L ++ [t0], false, by omega, ⟨by rw [eq_comm, decide_eq_false_iff_not]; omega⟩, ⟨by rw [List.length_append, List.length_singleton]; omega⟩, HPN, H3, B3⟩
theorem token_Split.big (l : List UInt8) (hl : 20000 < l.length) (hl2 : l.length ≤ 9223372036854775807) (w : World) :
 Calls Try.prog 12 #[.string (Tk.bs l)] w fun e w' => e = .returned (.tuple #[.slice none 0 0, .int .i64 3]) ∧ w = w' := by
 have hsz := bs_size l
 obtain ⟨s, hs⟩ : ∃ s, s = Tk.bs l := ⟨_, rfl⟩
 rw [← hs] at hsz ⊢
 have d1 : decide ((20000 : Int) < (s.size : Int)) = true := decide_eq_true (by omega)
 have d1' : decide (20000 < s.size) = true := decide_eq_true (by omega)
 clear hs hsz
 go_enter Try.func12, Try.ntmps12
 go_wp2
 refine wp_scope_loop 0 (by rfl) ?_
 go_wp2_with (fail)
 (try simp only [Exit.inBlock, Exit.then, jump_ret])
 go_ret2
 exact ⟨rfl, rfl⟩
theorem token_Split.bad (l : List UInt8) (hl : l.length ≤ 20000) (hbad : l.any badB = true) (w : World) (hG : Glob w) :
 Calls Try.prog 12 #[.string (Tk.bs l)] w fun e w' => e = .returned (.tuple #[.slice none 0 0, .int .i64 4]) ∧ Below w.heap.size w w' := by
 have hsz := bs_size l
 obtain ⟨s, hs⟩ : ∃ s, s = Tk.bs l := ⟨_, rfl⟩
 have d1 : decide ((20000 : Int) < (s.size : Int)) = false := decide_eq_false (by rw [hs, hsz]; omega)
 have d1' : decide (20000 < s.size) = false := decide_eq_false (by rw [hs, hsz]; omega)
 have kb := fun W => print_bytes (P := Try.prog) 9 35 5 Try.underlying9 Try.underlying35 Try.underlying5 s W
 have hr : Kd.C (Kd.int .u8) (Lib.bytesWorld w 5 s) (some ⟨w.heap.size, 0, none⟩) s.size (bytesOf s) := Kd.C_of_reads (enc := Value.int .u8) (d := (0 : Int)) (h1 := fun _ => rfl) (bytes_reads w 5 s (by rw [hs, hsz]; omega))
 have hb : Below w.heap.size w (Lib.bytesWorld w 5 s) := bytes_below (Below.refl _ _) (Nat.le_refl _) _ _
 have HSZ := Lib.hid (show s.size = l.length by rw [hs, hsz])
 have HS := Lib.hid hs
 have HBAD := Lib.hid hbad
 have HR := Aside0.mk hr
 have HBB := Aside0.mk hb
 have HG := Aside0.mk hG
 rw [← hs]
 clear hs hsz hr hb hG hbad
 go_enter Try.func12, Try.ntmps12
 go_wp2
 refine wp_scope_loop 0 (by rfl) ?_
 go_wp2_with (fail)
 have hC := HR.out
 rw [HSZ.out, HS.out] at hC
 rw [HSZ.out]
 refine (token_Split.has _ _ l _ (by rw [← HS.out] at hC ⊢; exact hC) (by omega) (HG.out.step HBB.out)).mono ?_
 rintro e wc ⟨rfl, b1⟩
 rw [HBAD.out]
 have HBC := Aside0.mk (HBB.out.trans (b1.mono HBB.out.size))
 clear b1 hC HBB HR kb d1 d1'
 go_wp2_with (fail)
 (try simp only [Exit.inBlock, Exit.then, jump_ret])
 go_ret2
 exact ⟨rfl, HBC.out⟩
theorem badB_eq (l : List UInt8) : l.any badB = l.any (fun c => !Tk.allowed c) := rfl
theorem token_Split.calls (a0 : ByteArray) (r1 : List S32) (r2 : Int) (w : World) (hG : Glob w) (h : token_Split.f a0 = some (r1, r2)) :
 Calls Try.prog 12 #[.string a0] w fun e w' => ∃ v0_ : Value, e = .returned (.tuple #[v0_, .int .i64 r2]) ∧ Kd.S k32 32 w' w.heap.size (fun _ => True) v0_ r1 ∧ Below w.heap.size w w' := by
 unfold token_Split.f at h
 have hl2 : a0.size ≤ 9223372036854775807 := by
  refine Classical.byContradiction fun hc => ?_
  rw [if_neg hc] at h
  cases h
 rw [if_pos hl2] at h
 have hx := Option.some.inj h
 rw [Lib.size_eq] at hl2
 have ha : a0 = Tk.bs a0.data.toList := (bs_data a0).symm
 rw [ha]
 rw [ha] at hx
 generalize a0.data.toList = l at *
 clear ha h
 have hx : Tk.split l = (r1, r2) := hx
 unfold Tk.split at hx
 by_cases hl : 20000 < l.length
 ·rw [if_pos hl] at hx
  obtain ⟨rfl, rfl⟩ := Prod.mk.inj hx
  refine (token_Split.big l hl hl2 w).mono ?_
  rintro e w' ⟨rfl, rfl⟩
  exact ⟨_, rfl, Kd.S_nil _ _ _ _ _, Below.refl _ _⟩
 rw [if_neg hl] at hx
 by_cases hb : l.any badB = true
 ·rw [if_pos (by rw [← badB_eq]; exact hb)] at hx
  obtain ⟨rfl, rfl⟩ := Prod.mk.inj hx
  refine (token_Split.bad l (by omega) hb w hG).mono ?_
  rintro e w' ⟨rfl, b⟩
  exact ⟨_, rfl, Kd.S_nil _ _ _ _ _, b⟩
 rw [if_neg (by rw [← badB_eq]; exact hb)] at hx
 refine (token_Split.loop l _ (by omega) (Bool.eq_false_iff.2 hb) rfl w hG).mono ?_
 rintro e w' ⟨hy, hn, b⟩
 cases hp : Tk.pieces (l.length + 1) true l with
 | none =>
  rw [hp] at hx
  obtain ⟨rfl, rfl⟩ := Prod.mk.inj hx
  exact ⟨_, hn hp, Kd.S_nil _ _ _ _ _, b⟩
 | some t =>
  rw [hp] at hx
  obtain ⟨rfl, rfl⟩ := Prod.mk.inj hx
  obtain ⟨v, he, hr⟩ := hy t hp
  exact ⟨v, he, hr, b⟩
def newellaw02_awake.f  : Option (Bool) := (token_Split.f (⟨#[60, 97, 62, 120, 60, 47, 97, 62]⟩ : ByteArray)).bind fun bt112 => (if bt112.2 = 0 then (if (bt112.1.length : Int) = 3 then (if 0 < (bt112.1.length : Int) then (if ((rd_T32 bt112.1 0).f1).toList = ([97] : List UInt8) then (if 1 < (bt112.1.length : Int) then (some (((rd_T32 bt112.1 1).f2).toList == ([120] : List UInt8))) else (none)) else (some false)) else (none)) else (some false)) else (some false))
theorem newellaw02_awake.calls  (r : Bool) (w : World) (hG : Glob w) (h : newellaw02_awake.f  = some r) :
 Calls Try.prog 11 #[] w fun e w' => e = .returned (.bool r) ∧ Below w.heap.size w w' := by
 have HG := Aside0.mk hG
 clear hG
 have HB := Aside0.mk (Below.refl w.heap.size w)
 have H : ((token_Split.f (⟨#[60, 97, 62, 120, 60, 47, 97, 62]⟩ : ByteArray)).bind fun bt112 => (if bt112.2 = 0 then (if (bt112.1.length : Int) = 3 then (if 0 < (bt112.1.length : Int) then (if ((rd_T32 bt112.1 0).f1).toList = ([97] : List UInt8) then (if 1 < (bt112.1.length : Int) then (some (((rd_T32 bt112.1 1).f2).toList == ([120] : List UInt8))) else (none)) else (some false)) else (none)) else (some false)) else (some false))) = some r := h
 clear h
 replace H := bi H
 obtain ⟨⟨t112, t113⟩, A10, H⟩ := H
 try dsimp only at H
 have A1 := Aside0.mk A10
 clear A10
 by_cases c2 : t113 = 0
 rotate_left
 ·rw [if_neg c2] at H
  obtain ⟨c2b0, c2b1⟩ := eqF c2
  obtain rfl := Option.some.inj H
  go_enter Try.func11, Try.ntmps11
  go_wp2_with (first | (refine gl (some 4) Try.func12 #[.string (⟨#[60, 97, 62, 120, 60, 47, 97, 62]⟩ : ByteArray)] ?_; (with_reducible refine (token_Split.calls (⟨#[60, 97, 62, 120, 60, 47, 97, 62]⟩ : ByteArray) t112 t113 _ (gS HG) A1.out).mono ?_); rintro e w13 ⟨v114, rfl, ho0, hb⟩; refine ⟨_, rfl, ?_⟩; have HO115 := Aside0.mk (Kd.S_lower ho0 (below_size bE)); replace HB := sB hb; (try clear hb); (try clear ho0)))
  go_ret
  exact ⟨eA, bE⟩
 rw [if_pos c2] at H
 obtain ⟨c2b0, c2b1⟩ := eqT c2
 clear c2
 by_cases c3 : (t112.length : Int) = 3
 rotate_left
 ·rw [if_neg c3] at H
  obtain ⟨c3b0, c3b1⟩ := eqF c3
  obtain rfl := Option.some.inj H
  go_enter Try.func11, Try.ntmps11
  go_wp2_with (first | (refine gl (some 4) Try.func12 #[.string (⟨#[60, 97, 62, 120, 60, 47, 97, 62]⟩ : ByteArray)] ?_; (with_reducible refine (token_Split.calls (⟨#[60, 97, 62, 120, 60, 47, 97, 62]⟩ : ByteArray) t112 t113 _ (gS HG) A1.out).mono ?_); rintro e w11 ⟨v114, rfl, ho0, hb⟩; refine ⟨_, rfl, ?_⟩; have HO115 := Aside0.mk (Kd.S_lower ho0 (below_size bE)); replace HB := sB hb; (try clear hb); (try clear ho0); obtain ⟨Ao12, co12, eo12⟩ := Kd.S_slice HO115.out; subst eo12))
  go_ret
  exact ⟨eA, bE⟩
 rw [if_pos c3] at H
 obtain ⟨c3b0, c3b1⟩ := eqT c3
 clear c3
 by_cases c4 : 0 < (t112.length : Int)
 rotate_left
 ·rw [if_neg c4] at H
  exact absurd H (by simp)
 rw [if_pos c4] at H
 have c4b0 := dT c4
 have c4b1 : decide (0 < t112.length) = true := decide_eq_true (by omega)
 clear c4
 by_cases c5 : ((rd_T32 t112 0).f1).toList = ([97] : List UInt8)
 rotate_left
 ·rw [if_neg c5] at H
  obtain ⟨c5b0, c5b1⟩ := eqF c5
  obtain rfl := Option.some.inj H
  go_enter Try.func11, Try.ntmps11
  go_wp2_with (first | (refine gl (some 4) Try.func12 #[.string (⟨#[60, 97, 62, 120, 60, 47, 97, 62]⟩ : ByteArray)] ?_; (with_reducible refine (token_Split.calls (⟨#[60, 97, 62, 120, 60, 47, 97, 62]⟩ : ByteArray) t112 t113 _ (gS HG) A1.out).mono ?_); rintro e w9 ⟨v114, rfl, ho0, hb⟩; refine ⟨_, rfl, ?_⟩; have HO115 := Aside0.mk (Kd.S_lower ho0 (below_size bE)); replace HB := sB hb; (try clear hb); (try clear ho0); obtain ⟨Ao10, co10, eo10⟩ := Kd.S_slice HO115.out; subst eo10; have p116 : 0 ≤ (0 : Int) := (by omega); have q116 : 0 < (t112.length : Int) := dA; obtain ⟨ad116, A116_3, c116_3, e116, hx116_0, hx116_1, hx116_2, hx116_3, hx116_4, hl116_3, hi116_3⟩ := at_T32 (Kd.S_reads' HO115.out).2.2 0 p116 q116; cases e116; obtain ⟨ce116, hce116, hMe116, hcc116⟩ := Kd.S_get HO115.out z32 0 p116 (by first | exact q116 | exact dA | (have e_ := (Kd.S_reads' HO115.out).1; omega)); obtain ⟨ve116_3, rfl, ge116_3⟩ := k32_openM hMe116; have hv116_3 := hcc116 3 _ rfl; rw [add_field _ _ 3 (by omega)] at hv116_3; replace hv116_3 := Option.some.inj (hv116_3.symm.trans hx116_3); rw [hv116_3] at ge116_3; have HL116_3 := Aside0.mk (show Kd.R k39 39 _ _ _ _ ((rd_T32 t112 0).f3) from ge116_3); clear hv116_3 ge116_3; clear hcc116 hce116; have qi116 : (0 < t112.length) = True := eq_true (by omega); (try rw [show ((0 : Int)).toNat = 0 from rfl] at hx116_0); (try rw [show 0 * 5 = 0 from rfl] at hx116_0); (try rw [Addr.add_zero'] at hx116_0); (try rw [show ((0 : Int)).toNat = 0 from rfl] at hx116_1); (try rw [show 0 * 5 = 0 from rfl] at hx116_1); (try rw [Addr.add_zero'] at hx116_1); (try rw [show ((0 : Int)).toNat = 0 from rfl] at hx116_2); (try rw [show 0 * 5 = 0 from rfl] at hx116_2); (try rw [Addr.add_zero'] at hx116_2); (try rw [show ((0 : Int)).toNat = 0 from rfl] at hx116_3); (try rw [show 0 * 5 = 0 from rfl] at hx116_3); (try rw [Addr.add_zero'] at hx116_3); (try rw [show ((0 : Int)).toNat = 0 from rfl] at hx116_4); (try rw [show 0 * 5 = 0 from rfl] at hx116_4); (try rw [Addr.add_zero'] at hx116_4); have HR116_3 := Aside0.mk hi116_3; have HC116_3 := Aside0.mk hl116_3; clear hi116_3 hl116_3; replace p116 := eq_true p116; replace q116 := eq_true q116))
  go_ret
  exact ⟨eA, bE⟩
 rw [if_pos c5] at H
 obtain ⟨c5b0, c5b1⟩ := eqT c5
 clear c5
 by_cases c6 : 1 < (t112.length : Int)
 rotate_left
 ·rw [if_neg c6] at H
  exact absurd H (by simp)
 rw [if_pos c6] at H
 have c6b0 := dT c6
 have c6b1 : decide (1 < t112.length) = true := decide_eq_true (by omega)
 clear c6
 obtain rfl := Option.some.inj H
 go_enter Try.func11, Try.ntmps11
 go_wp2_with (first | (refine gl (some 4) Try.func12 #[.string (⟨#[60, 97, 62, 120, 60, 47, 97, 62]⟩ : ByteArray)] ?_; (with_reducible refine (token_Split.calls (⟨#[60, 97, 62, 120, 60, 47, 97, 62]⟩ : ByteArray) t112 t113 _ (gS HG) A1.out).mono ?_); rintro e w7 ⟨v114, rfl, ho0, hb⟩; refine ⟨_, rfl, ?_⟩; have HO115 := Aside0.mk (Kd.S_lower ho0 (below_size bE)); replace HB := sB hb; (try clear hb); (try clear ho0); obtain ⟨Ao8, co8, eo8⟩ := Kd.S_slice HO115.out; subst eo8; have p116 : 0 ≤ (0 : Int) := (by omega); have q116 : 0 < (t112.length : Int) := dA; obtain ⟨ad116, A116_3, c116_3, e116, hx116_0, hx116_1, hx116_2, hx116_3, hx116_4, hl116_3, hi116_3⟩ := at_T32 (Kd.S_reads' HO115.out).2.2 0 p116 q116; cases e116; obtain ⟨ce116, hce116, hMe116, hcc116⟩ := Kd.S_get HO115.out z32 0 p116 (by first | exact q116 | exact dA | (have e_ := (Kd.S_reads' HO115.out).1; omega)); obtain ⟨ve116_3, rfl, ge116_3⟩ := k32_openM hMe116; have hv116_3 := hcc116 3 _ rfl; rw [add_field _ _ 3 (by omega)] at hv116_3; replace hv116_3 := Option.some.inj (hv116_3.symm.trans hx116_3); rw [hv116_3] at ge116_3; have HL116_3 := Aside0.mk (show Kd.R k39 39 _ _ _ _ ((rd_T32 t112 0).f3) from ge116_3); clear hv116_3 ge116_3; clear hcc116 hce116; have qi116 : (0 < t112.length) = True := eq_true (by omega); (try rw [show ((0 : Int)).toNat = 0 from rfl] at hx116_0); (try rw [show 0 * 5 = 0 from rfl] at hx116_0); (try rw [Addr.add_zero'] at hx116_0); (try rw [show ((0 : Int)).toNat = 0 from rfl] at hx116_1); (try rw [show 0 * 5 = 0 from rfl] at hx116_1); (try rw [Addr.add_zero'] at hx116_1); (try rw [show ((0 : Int)).toNat = 0 from rfl] at hx116_2); (try rw [show 0 * 5 = 0 from rfl] at hx116_2); (try rw [Addr.add_zero'] at hx116_2); (try rw [show ((0 : Int)).toNat = 0 from rfl] at hx116_3); (try rw [show 0 * 5 = 0 from rfl] at hx116_3); (try rw [Addr.add_zero'] at hx116_3); (try rw [show ((0 : Int)).toNat = 0 from rfl] at hx116_4); (try rw [show 0 * 5 = 0 from rfl] at hx116_4); (try rw [Addr.add_zero'] at hx116_4); have HR116_3 := Aside0.mk hi116_3; have HC116_3 := Aside0.mk hl116_3; clear hi116_3 hl116_3; replace p116 := eq_true p116; replace q116 := eq_true q116; have p117 : 0 ≤ (1 : Int) := (by omega); have q117 : 1 < (t112.length : Int) := dA; obtain ⟨ad117, A117_3, c117_3, e117, hx117_0, hx117_1, hx117_2, hx117_3, hx117_4, hl117_3, hi117_3⟩ := at_T32 (Kd.S_reads' HO115.out).2.2 1 p117 q117; obtain rfl : ad116 = ad117 := (by injection e117); obtain ⟨ce117, hce117, hMe117, hcc117⟩ := Kd.S_get HO115.out z32 1 p117 (by first | exact q117 | exact dA | (have e_ := (Kd.S_reads' HO115.out).1; omega)); obtain ⟨ve117_3, rfl, ge117_3⟩ := k32_openM hMe117; have hv117_3 := hcc117 3 _ rfl; rw [add_field _ _ 3 (by omega)] at hv117_3; replace hv117_3 := Option.some.inj (hv117_3.symm.trans hx117_3); rw [hv117_3] at ge117_3; have HL117_3 := Aside0.mk (show Kd.R k39 39 _ _ _ _ ((rd_T32 t112 1).f3) from ge117_3); clear hv117_3 ge117_3; clear hcc117 hce117; (try simp only [show (1 : Int).toNat = 1 from rfl, Nat.reduceMul, Nat.reduceEqDiff, Go.Addr.add, ↓reduceIte] at hx117_0); (try simp only [show (1 : Int).toNat = 1 from rfl, Nat.reduceMul, Nat.reduceEqDiff, Go.Addr.add, ↓reduceIte] at hx117_1); (try simp only [show (1 : Int).toNat = 1 from rfl, Nat.reduceMul, Nat.reduceEqDiff, Go.Addr.add, ↓reduceIte] at hx117_2); (try simp only [show (1 : Int).toNat = 1 from rfl, Nat.reduceMul, Nat.reduceEqDiff, Go.Addr.add, ↓reduceIte] at hx117_3); (try simp only [show (1 : Int).toNat = 1 from rfl, Nat.reduceMul, Nat.reduceEqDiff, Go.Addr.add, ↓reduceIte] at hx117_4); have qi117 : (1 < t112.length) = True := eq_true (by omega); (try rw [show ((1 : Int)).toNat = 1 from rfl] at hx117_0); (try rw [show 1 * 5 = 5 from rfl] at hx117_0); (try rw [show ((1 : Int)).toNat = 1 from rfl] at hx117_1); (try rw [show 1 * 5 = 5 from rfl] at hx117_1); (try rw [show ((1 : Int)).toNat = 1 from rfl] at hx117_2); (try rw [show 1 * 5 = 5 from rfl] at hx117_2); (try rw [show ((1 : Int)).toNat = 1 from rfl] at hx117_3); (try rw [show 1 * 5 = 5 from rfl] at hx117_3); (try rw [show ((1 : Int)).toNat = 1 from rfl] at hx117_4); (try rw [show 1 * 5 = 5 from rfl] at hx117_4); have HR117_3 := Aside0.mk hi117_3; have HC117_3 := Aside0.mk hl117_3; clear hi117_3 hl117_3; replace p117 := eq_true p117; replace q117 := eq_true q117))
 go_ret
 exact ⟨eA, bE⟩
def newelhelp_Digits.f : Nat → Int → Option (ByteArray)
 | 0, _ => none
 | k + 1, a0 => if a0 < 10 then (some (strOfNums (([(wrap64 (48 + a0)) % 256] : List Int)))) else ((newelhelp_Digits.f k (wrap64 (Int.tdiv a0 10))).bind fun t186 => ((some (([(wrap64 (48 + (Int.tmod a0 10))) % 256] : List Int) : List Int)).bind fun y187 => (if t186.size + (strOfNums y187).size ≤ 9223372036854775807 then (some (t186 ++ (strOfNums y187))) else (none))))
theorem newelhelp_Digits.mono_l : ∀ k, (∀ y0, LeO (newelhelp_Digits.f k y0) (newelhelp_Digits.f (k + 1) y0))
 | 0 => fun _ r h => by simp [newelhelp_Digits.f] at h
 | k + 1 => by
  have ih0 := newelhelp_Digits.mono_l k
  ·intro y0
   unfold newelhelp_Digits.f
   exact mo
theorem newelhelp_Digits.mono : ∀ a0 k, LeO (newelhelp_Digits.f k a0) (newelhelp_Digits.f (k + 1) a0) := by
 intro a0 k
 have ih0 := newelhelp_Digits.mono_l k
 exact ih0 a0
def newelhelp_Digits.T3 : Bool × List (List Nat × List Nat) := (true, [([], []), ([0], [0]), ([1], [1]), ([], []), ([3], [3]), ([4], [4]), ([5], [5]), ([6], [6]), ([7], [7]), ([2, 8], [2, 8]), ([9, 2, 0, 1, 2, 3, 4, 5, 6, 7, 8, 9], [9])])
def newelhelp_Digits.B3 : List Nat := [0, 1, 3, 0, 8, 24, 56, 120, 248, 511, 1023]
theorem newelhelp_Digits.tab3 : rtab .any (opsOf Try.f20 3) = newelhelp_Digits.T3 := by kernel_rfl
theorem newelhelp_Digits.bits3 : waitsOk newelhelp_Digits.T3.2 newelhelp_Digits.B3 = true := by kernel_rfl
theorem newelhelp_Digits.calls (k : Nat) : ∀ (a0 : Int) (r : ByteArray) (w : World) (hG : Glob w) (h : newelhelp_Digits.f k a0 = some r),
 Calls Try.prog 20 #[.int .i64 a0] w fun e w' => e = .returned (.string r) ∧ Below w.heap.size w w' := by
 induction k using Nat.strongRecOn with
 | _ k ih =>
 intro a0 r w hG h
 cases k with
 | zero => exact absurd h (by simp [newelhelp_Digits.f])
 | succ k =>
 simp only [newelhelp_Digits.f] at h
 have HG := Aside0.mk hG
 clear hG
 have HB := Aside0.mk (Below.refl w.heap.size w)
 have H : (if a0 < 10 then (some (strOfNums (([(wrap64 (48 + a0)) % 256] : List Int)))) else ((newelhelp_Digits.f k (wrap64 (Int.tdiv a0 10))).bind fun t186 => ((some (([(wrap64 (48 + (Int.tmod a0 10))) % 256] : List Int) : List Int)).bind fun y187 => (if t186.size + (strOfNums y187).size ≤ 9223372036854775807 then (some (t186 ++ (strOfNums y187))) else (none))))) = some r := h
 clear h
 by_cases c2 : a0 < 10
 ·rw [if_pos c2] at H
  have c2b0 := dT c2
  clear c2
  obtain ⟨y183, hy183⟩ : ∃ y_ : List Int, y_ = (([(wrap64 (48 + a0)) % 256] : List Int)) := ⟨_, rfl⟩
  replace H : (some (strOfNums y183)) = some r := by first | (rw [hy183]; with_reducible exact H) | (have H2_ := (Option.bind_some _ _).symm.trans H; rw [hy183]; with_reducible exact H2_) | (have H2_ := (Option.bind_some _ _).symm.trans H; with_reducible exact H2_) | with_reducible exact H | (rw [hy183]; exact H) | exact H
  have Ny183 := Aside0.mk hy183
  clear hy183
  obtain rfl := Option.some.inj H
  go_enter Try.func20, Try.ntmps20
  go_wp2_with (first | ((with_reducible refine gate_dst (N := 8) rfl ?_); refine Kd.R_lit (Kd.int .u8) _ 5 ?hg (N := 8) ?hd (xs := ([(wrap64 (48 + a0)) % 256] : List Int)) (inner := [.int .u8 ((wrap64 (48 + a0)) % 256)]) (ok := fun _ => True) (okp := fun _ => True) ?hr ?hp (fun _ hk => hk) trivial (Below.refl _ _) (Nat.le_refl _) (by simp) ?_; (case hd => rfl); (case hg => rfl); (case hr => first | (go_simp; done) | (go_simp; rfl)); (case hp => exact (Reps.one (show Kd.M (Kd.int .u8) _ _ _ ((wrap64 (48 + a0)) % 256) [.int .u8 ((wrap64 (48 + a0)) % 256)] from rfl) (Reps.none _ _))); intro v184 w3 ho4 hb hg_ hnew_; clear hg_ hnew_; (first | rw [← Ny183.out] at ho4 | (simp only [Int.reduceToNat] at ho4; rw [← Ny183.out] at ho4)); have HO185 := Aside0.mk (Kd.R_lower ho4 (below_size bE)); replace HB := sB hb; clear hb ho4; have hcv5 := own_string (P := Try.prog) Try.underlying35 Try.underlying5 Try.underlying9 (Kd.own_of_R HO185.out)))
  go_ret
  exact ⟨eA, bE⟩
 rw [if_neg c2] at H
 have c2b0 := dF c2
 clear c2
 replace H := bi H
 obtain ⟨t186, A60, H⟩ := H
 try dsimp only at H
 have A6 := Aside0.mk A60
 clear A60
 obtain ⟨y187, hy187⟩ : ∃ y_ : List Int, y_ = (([(wrap64 (48 + (Int.tmod a0 10))) % 256] : List Int)) := ⟨_, rfl⟩
 replace H : (if t186.size + (strOfNums y187).size ≤ 9223372036854775807 then (some (t186 ++ (strOfNums y187))) else (none)) = some r := by first | (rw [hy187]; with_reducible exact H) | (have H2_ := (Option.bind_some _ _).symm.trans H; rw [hy187]; with_reducible exact H2_) | (have H2_ := (Option.bind_some _ _).symm.trans H; with_reducible exact H2_) | with_reducible exact H | (rw [hy187]; exact H) | exact H
 have Ny187 := Aside0.mk hy187
 clear hy187
 by_cases c7 : t186.size + (strOfNums y187).size ≤ 9223372036854775807
 rotate_left
 ·rw [if_neg c7] at H
  exact absurd H (by simp)
 rw [if_pos c7] at H
 have c7b0 := eq_true c7
 have c7b1 := dT c7
 try have c7b2 : (9223372036854775807 < t186.size + (strOfNums y187).size) = False := eq_false (Nat.not_lt.2 c7)
 obtain rfl := Option.some.inj H
 go_enter Try.func20, Try.ntmps20
 try go_wp2
 replace HB := Aside0.mk (below_drew1 HB.out)
 refine start_ (n := 11) (S := fun w' => True) (ds := []) #[false, false, false, false, false, false, false, false, false, false, false] (by kernel_rfl) rfl rfl trivial (fun hHeld => ?_); refine with_tabW newelhelp_Digits.tab3 newelhelp_Digits.bits3 (fun HT_ HW_ => ?_)
 generalize w.drew = w8 at HB hHeld ⊢
 refine pz 0 (some 10) HT_ ?_
 refine pz 1 (some 11) HT_ ?_
 refine pz 3 (some 13) HT_ ?_
 refine pz 4 (some 14) HT_ ?_
 refine pz 5 (some 15) HT_ ?_
 refine pz 6 (some 16) HT_ ?_
 refine join_ (σ := Value) 2 #[true, true, true, true, true, true, true, true, true, false, false] (fun s_ => [(12, .string t186), (17, s_), (18, .string (strOfNums y187))]) (fun s_ w' => (Kd.R (Kd.int .u8) 5 w' w.heap.size (fun _ => True) s_ y187) ∧ (Below w.heap.size w w')) ?_ ?_
 rotate_left
 ·intro hCont
  refine two_ (i := 2) (j := 7) (Ni := some 12) (Nj := some 17) #[true, true, true, true, true, true, true, false, false, false, false] #[true, true, false, true, true, true, true, true, false, false, false] rfl rfl rfl rfl (two_of HT_.out (by kernel_rfl)) (by decide) (by decide) (fun K hK => ?_) (fun K hK => ?_)
  ·skip
   refine goes_ Try.func20 (by kernel_rfl) rfl #[.int .i64 (wrap64 (Int.tdiv a0 10))] (by rfl) rfl rfl mA ?_
   with_reducible refine (ih k (by omega) (wrap64 (Int.tdiv a0 10)) t186 _ (gS HG) A6.out).mono ?_
   rintro e w9 ⟨rfl, hb⟩
   refine ⟨_, rfl, ?_⟩
   replace HB := sB hb
   (try clear hb)
   refine hK.out _ _ trivial (fun hHeld => ?_)
   clear hK K
   refine nz (some 12) ?_
   refine on 7 (some 17) HT_ (fun K hK => ?_)
   refine Kd.R_lit_step (Kd.int .u8) _ 5 ?hg (N := 17) ?hd (xs := ([(wrap64 (48 + (Int.tmod a0 10))) % 256] : List Int)) (inner := [.int .u8 ((wrap64 (48 + (Int.tmod a0 10))) % 256)]) (ok := fun _ => True) (okp := fun _ => True) ?hr ?hp (fun _ hk => hk) trivial (Below.refl _ _) (Nat.le_refl _) (by simp) ?_; (case hd => rfl); (case hg => rfl); (case hr => first | (go_simp; done) | (go_simp; rfl)); (case hp => exact (Reps.one (show Kd.M (Kd.int .u8) _ _ _ ((wrap64 (48 + (Int.tmod a0 10))) % 256) [.int .u8 ((wrap64 (48 + (Int.tmod a0 10))) % 256)] from rfl) (Reps.none _ _)))
   intro v188 w10 ho11 hb hg_ hnew_
   clear hg_ hnew_
   (first | rw [← Ny187.out] at ho11 | (simp only [Int.reduceToNat] at ho11; rw [← Ny187.out] at ho11))
   have HO189 := Aside0.mk (Kd.R_lower ho11 (below_size bE))
   replace HB := sB hb
   clear hb ho11
   refine hK.out _ _ trivial (fun hHeld => ?_)
   clear hK K
   refine nz (some 17) ?_
   refine on 8 (some 18) HT_ (fun K hK => ?_)
   have hcv12 := own_string (P := Try.prog) Try.underlying35 Try.underlying5 Try.underlying9 (Kd.own_of_R HO189.out)
   refine value_ (w1 := ?_) (v := ?_) (by rfl) rfl ?_ ?_
   rotate_left 2
   ·go_simp
    constructor
    ·rfl
    ·rfl
   clear hcv12
   refine hK.out _ _ trivial (fun hHeld => ?_)
   clear hK K
   refine nz (some 18) ?_
   exact norm_ (by simp only [putAll, Act.put, List.setIfInBounds_toArray, List.set_cons_zero, List.set_cons_succ]) (hCont (v188) _ ⟨(kR HO189), bE⟩)
  ·skip
   refine Kd.R_lit_step (Kd.int .u8) _ 5 ?hg (N := 17) ?hd (xs := ([(wrap64 (48 + (Int.tmod a0 10))) % 256] : List Int)) (inner := [.int .u8 ((wrap64 (48 + (Int.tmod a0 10))) % 256)]) (ok := fun _ => True) (okp := fun _ => True) ?hr ?hp (fun _ hk => hk) trivial (Below.refl _ _) (Nat.le_refl _) (by simp) ?_; (case hd => rfl); (case hg => rfl); (case hr => first | (go_simp; done) | (go_simp; rfl)); (case hp => exact (Reps.one (show Kd.M (Kd.int .u8) _ _ _ ((wrap64 (48 + (Int.tmod a0 10))) % 256) [.int .u8 ((wrap64 (48 + (Int.tmod a0 10))) % 256)] from rfl) (Reps.none _ _)))
   intro v188 w9 ho10 hb hg_ hnew_
   clear hg_ hnew_
   (first | rw [← Ny187.out] at ho10 | (simp only [Int.reduceToNat] at ho10; rw [← Ny187.out] at ho10))
   have HO189 := Aside0.mk (Kd.R_lower ho10 (below_size bE))
   replace HB := sB hb
   clear hb ho10
   refine hK.out _ _ trivial (fun hHeld => ?_)
   clear hK K
   refine nz (some 17) ?_
   refine two_ (i := 2) (j := 8) (Ni := some 12) (Nj := some 18) #[true, true, true, true, true, true, true, true, false, false, false] #[true, true, false, true, true, true, true, true, true, false, false] rfl rfl rfl rfl (two_of HT_.out (by kernel_rfl)) (by decide) (by decide) (fun K hK => ?_) (fun K hK => ?_)
   ·skip
    refine goes_ Try.func20 (by kernel_rfl) rfl #[.int .i64 (wrap64 (Int.tdiv a0 10))] (by rfl) rfl rfl mA ?_
    with_reducible refine (ih k (by omega) (wrap64 (Int.tdiv a0 10)) t186 _ (gS HG) A6.out).mono ?_
    rintro e w11 ⟨rfl, hb⟩
    refine ⟨_, rfl, ?_⟩
    replace HO189 := rB HO189 hb
    replace HB := sB hb
    (try clear hb)
    refine hK.out _ _ trivial (fun hHeld => ?_)
    clear hK K
    refine nz (some 12) ?_
    refine on 8 (some 18) HT_ (fun K hK => ?_)
    have hcv12 := own_string (P := Try.prog) Try.underlying35 Try.underlying5 Try.underlying9 (Kd.own_of_R HO189.out)
    refine value_ (w1 := ?_) (v := ?_) (by rfl) rfl ?_ ?_
    rotate_left 2
    ·go_simp
     constructor
     ·rfl
     ·rfl
    clear hcv12
    refine hK.out _ _ trivial (fun hHeld => ?_)
    clear hK K
    refine nz (some 18) ?_
    exact norm_ (by simp only [putAll, Act.put, List.setIfInBounds_toArray, List.set_cons_zero, List.set_cons_succ]) (hCont (v188) _ ⟨(kR HO189), bE⟩)
   ·skip
    have hcv11 := own_string (P := Try.prog) Try.underlying35 Try.underlying5 Try.underlying9 (Kd.own_of_R HO189.out)
    refine value_ (w1 := ?_) (v := ?_) (by rfl) rfl ?_ ?_
    rotate_left 2
    ·go_simp
     constructor
     ·rfl
     ·rfl
    clear hcv11
    refine hK.out _ _ trivial (fun hHeld => ?_)
    clear hK K
    refine nz (some 18) ?_
    refine on 2 (some 12) HT_ (fun K hK => ?_)
    refine goes_ Try.func20 (by kernel_rfl) rfl #[.int .i64 (wrap64 (Int.tdiv a0 10))] (by rfl) rfl rfl mA ?_
    with_reducible refine (ih k (by omega) (wrap64 (Int.tdiv a0 10)) t186 _ (gS HG) A6.out).mono ?_
    rintro e w12 ⟨rfl, hb⟩
    refine ⟨_, rfl, ?_⟩
    replace HO189 := rB HO189 hb
    replace HB := sB hb
    (try clear hb)
    refine hK.out _ _ trivial (fun hHeld => ?_)
    clear hK K
    refine nz (some 12) ?_
    exact norm_ (by simp only [putAll, Act.put, List.setIfInBounds_toArray, List.set_cons_zero, List.set_cons_succ]) (hCont (v188) _ ⟨(kR HO189), bE⟩)
 rintro v188 w13 ⟨h0_, h1_⟩
 have HO189 : Aside0 (Kd.R (Kd.int .u8) 5 w13 w.heap.size (fun _ => True) v188 y187) := ⟨h0_⟩
 replace HB : Aside0 (Below w.heap.size w w13) := ⟨h1_⟩
 clear h0_ h1_
 have hHeld := trivial
 refine norm_ (a' := ?_) ?_ ?_
 rotate_left
 ·simp only [putAll, Act.put, List.setIfInBounds_toArray, List.set_cons_zero, List.set_cons_succ]
  rfl
 refine pz 9 (some 19) HT_ ?_
 refine pz 10 (some 2) HT_ ?_
 refine done_ (done_of HT_.out (by kernel_rfl)) ?_
 try go_wp2
 go_ret
 exact ⟨eA, bE⟩
mutual
def newellaw02_TokenNumbers.l0 : Nat → Int → ByteArray → Int → Option (Bool)
 | 0, _, _, _ => none
 | k + 1, x0, x3, x4 => if x4 > 0 then (if 0 ≤ (Int.tmod x4 16) then (if (Int.tmod x4 16) ≤ (wrap64 ((Int.tmod x4 16) + 1)) then (if (wrap64 ((Int.tmod x4 16) + 1)) ≤ 16 then (if ((⟨#[48, 49, 50, 51, 52, 53, 54, 55, 56, 57, 97, 98, 99, 100, 101, 102]⟩ : ByteArray).extract ((Int.tmod x4 16) : Int).toNat ((wrap64 ((Int.tmod x4 16) + 1)) : Int).toNat).size + x3.size ≤ 9223372036854775807 then (newellaw02_TokenNumbers.l0 k x0 (((⟨#[48, 49, 50, 51, 52, 53, 54, 55, 56, 57, 97, 98, 99, 100, 101, 102]⟩ : ByteArray).extract ((Int.tmod x4 16) : Int).toNat ((wrap64 ((Int.tmod x4 16) + 1)) : Int).toNat) ++ x3) (wrap64 (Int.tdiv x4 16))) else (none)) else (none)) else (none)) else (none)) else (if x3.toList = ([] : List UInt8) then (if 0 ≤ (Int.tmod x4 16) then (if (Int.tmod x4 16) ≤ (wrap64 ((Int.tmod x4 16) + 1)) then (if (wrap64 ((Int.tmod x4 16) + 1)) ≤ 16 then (if ((⟨#[48, 49, 50, 51, 52, 53, 54, 55, 56, 57, 97, 98, 99, 100, 101, 102]⟩ : ByteArray).extract ((Int.tmod x4 16) : Int).toNat ((wrap64 ((Int.tmod x4 16) + 1)) : Int).toNat).size + x3.size ≤ 9223372036854775807 then (newellaw02_TokenNumbers.l0 k x0 (((⟨#[48, 49, 50, 51, 52, 53, 54, 55, 56, 57, 97, 98, 99, 100, 101, 102]⟩ : ByteArray).extract ((Int.tmod x4 16) : Int).toNat ((wrap64 ((Int.tmod x4 16) + 1)) : Int).toNat) ++ x3) (wrap64 (Int.tdiv x4 16))) else (none)) else (none)) else (none)) else (none)) else ((newelhelp_Digits.f k x0).bind fun t218 => (if 2 + t218.size ≤ 9223372036854775807 then (if ((⟨#[38, 35]⟩ : ByteArray) ++ t218).size + 1 ≤ 9223372036854775807 then ((token_Entities.f (((⟨#[38, 35]⟩ : ByteArray) ++ t218) ++ (⟨#[59]⟩ : ByteArray))).bind fun bt219 => (if 3 + x3.size ≤ 9223372036854775807 then (if ((⟨#[38, 35, 120]⟩ : ByteArray) ++ x3).size + 1 ≤ 9223372036854775807 then ((token_Entities.f (((⟨#[38, 35, 120]⟩ : ByteArray) ++ x3) ++ (⟨#[59]⟩ : ByteArray))).bind fun bt221 => (if x0 ≤ 1114111 then (if x0 < 55296 then (if x0 ≥ 32 then (newellaw02_TokenNumbers.j1 k x0 t218 bt219.1 bt219.2 bt221.1 bt221.2 true) else (if x0 = 9 then (newellaw02_TokenNumbers.j1 k x0 t218 bt219.1 bt219.2 bt221.1 bt221.2 true) else (if x0 = 10 then (newellaw02_TokenNumbers.j1 k x0 t218 bt219.1 bt219.2 bt221.1 bt221.2 true) else (newellaw02_TokenNumbers.j1 k x0 t218 bt219.1 bt219.2 bt221.1 bt221.2 (x0 == 13))))) else (if x0 > 57343 then (if x0 ≥ 32 then (newellaw02_TokenNumbers.j1 k x0 t218 bt219.1 bt219.2 bt221.1 bt221.2 true) else (if x0 = 9 then (newellaw02_TokenNumbers.j1 k x0 t218 bt219.1 bt219.2 bt221.1 bt221.2 true) else (if x0 = 10 then (newellaw02_TokenNumbers.j1 k x0 t218 bt219.1 bt219.2 bt221.1 bt221.2 true) else (newellaw02_TokenNumbers.j1 k x0 t218 bt219.1 bt219.2 bt221.1 bt221.2 (x0 == 13))))) else (newellaw02_TokenNumbers.j1 k x0 t218 bt219.1 bt219.2 bt221.1 bt221.2 false))) else (newellaw02_TokenNumbers.j1 k x0 t218 bt219.1 bt219.2 bt221.1 bt221.2 false))) else (none)) else (none))) else (none)) else (none))))
def newellaw02_TokenNumbers.j1 : Nat → Int → ByteArray → ByteArray → Int → ByteArray → Int → Bool → Option (Bool)
 | 0, _, _, _, _, _, _, _ => none
 | k + 1, x0, x5, x6, x7, x8, x9, x10 => if x10 = true then (if x9 = 0 then (if (x5.size : Int) ≤ 6 then (if x7 = 0 then (if x6.toList = x8.toList then (if (x5.size : Int) > 6 then (if x7 = 5 then (if x8.size ≤ 1000000 then ((some (runesOf x8 : List Int)).bind fun y223 => ((newellaw02_awake.f).bind fun t226 => (if t226 = true then (if (y223.length : Int) = 1 then (if 0 < (y223.length : Int) then (some ((wrap64 (rd y223 0)) == x0)) else (none)) else (some false)) else (some false)))) else (none)) else (some false)) else (if x8.size ≤ 1000000 then ((some (runesOf x8 : List Int)).bind fun y228 => ((newellaw02_awake.f).bind fun t231 => (if t231 = true then (if (y228.length : Int) = 1 then (if 0 < (y228.length : Int) then (some ((wrap64 (rd y228 0)) == x0)) else (none)) else (some false)) else (some false)))) else (none))) else (some false)) else (some false)) else (if (x5.size : Int) > 6 then (if x7 = 5 then (if x8.size ≤ 1000000 then ((some (runesOf x8 : List Int)).bind fun y233 => ((newellaw02_awake.f).bind fun t236 => (if t236 = true then (if (y233.length : Int) = 1 then (if 0 < (y233.length : Int) then (some ((wrap64 (rd y233 0)) == x0)) else (none)) else (some false)) else (some false)))) else (none)) else (some false)) else (if x8.size ≤ 1000000 then ((some (runesOf x8 : List Int)).bind fun y238 => ((newellaw02_awake.f).bind fun t241 => (if t241 = true then (if (y238.length : Int) = 1 then (if 0 < (y238.length : Int) then (some ((wrap64 (rd y238 0)) == x0)) else (none)) else (some false)) else (some false)))) else (none)))) else (some false)) else ((newellaw02_awake.f).bind fun t243 => (if t243 = true then (if x7 = 5 then (some (x9 == 5)) else (some false)) else (some false)))
end
def newellaw02_TokenNumbers.f (k : Nat) (a0 : Int) : Option (Bool) := newellaw02_TokenNumbers.l0 k (wrap64 (Int.tmod (IntKind.u64.wrap (a0)) 1200000)) (⟨#[]⟩ : ByteArray) (wrap64 (Int.tmod (IntKind.u64.wrap (a0)) 1200000))
theorem newellaw02_TokenNumbers.calls (k : Nat) (a0 : Int) (r : Bool) (w : World) (hG : Glob w) (h : newellaw02_TokenNumbers.f k a0 = some r) (hr_ : r = true) :
 Calls Try.prog 5 #[.int .i64 a0] w fun e w' => e = .returned (.bool r) ∧ Below w.heap.size w w' := by
 have HG := Aside0.mk hG
 clear hG
 have HB := Aside0.mk (Below.refl w.heap.size w)
 have H : (newellaw02_TokenNumbers.l0 k (wrap64 (Int.tmod (IntKind.u64.wrap (a0)) 1200000)) (⟨#[]⟩ : ByteArray) (wrap64 (Int.tmod (IntKind.u64.wrap (a0)) 1200000))) = some r := h
 clear h
 have H' := Aside0.mk H
 clear H
 go_enter Try.func5, Try.ntmps5
 go_wp2
 go_loopg [3, 4] k (fun kq v3 v4 w' => ∃ (x3_1 : ByteArray) (x4_1 : Int), v3 = .string x3_1 ∧ v4 = .int .i64 x4_1 ∧ Aside0 (newellaw02_TokenNumbers.l0 kq (wrap64 (Int.tmod (IntKind.u64.wrap (a0)) 1200000)) x3_1 x4_1 = some r) ∧ Aside0 (kq ≤ k) ∧ Aside0 (Below w.heap.size w w'))
 case atStart => exact ⟨((⟨#[]⟩ : ByteArray)), (wrap64 (Int.tmod (IntKind.u64.wrap (a0)) 1200000)), cA, cA, H', ⟨Nat.le_refl _⟩, ⟨bE⟩⟩
 clear H'
 obtain ⟨x3_1, x4_1, rfl, rfl, HA, HK1, HB⟩ := hrel
 cases gk with
 | zero => exact absurd HA.out (by simp [newellaw02_TokenNumbers.l0])
 | succ k1 =>
  have H := HA.out
  clear HA
  simp only [newellaw02_TokenNumbers.l0] at H
  by_cases c2 : x4_1 > 0
  ·rw [if_pos c2] at H
   have c2b0 := dT c2
   clear c2
   obtain ⟨ji3, hji3⟩ : ∃ j_ : Int, (Int.tmod x4_1 16) = j_ := ⟨_, rfl⟩
   rw [hji3] at H
   by_cases c4 : 0 ≤ (ji3)
   rotate_left
   ·rw [if_neg c4] at H
    exact absurd H (by simp)
   rw [if_pos c4] at H
   have c4b0 := eq_true c4
   have c4b1 := dT c4
   clear c4
   by_cases c5 : (ji3) ≤ (wrap64 ((ji3) + 1))
   rotate_left
   ·rw [if_neg c5] at H
    exact absurd H (by simp)
   rw [if_pos c5] at H
   have c5b0 := eq_true c5
   have c5b1 := dT c5
   by_cases c6 : (wrap64 ((ji3) + 1)) ≤ 16
   rotate_left
   ·rw [if_neg c6] at H
    exact absurd H (by simp)
   rw [if_pos c6] at H
   have c6b0 := eq_true c6
   have c6b1 := dT c6
   by_cases c7 : ((⟨#[48, 49, 50, 51, 52, 53, 54, 55, 56, 57, 97, 98, 99, 100, 101, 102]⟩ : ByteArray).extract ((ji3) : Int).toNat ((wrap64 ((ji3) + 1)) : Int).toNat).size + x3_1.size ≤ 9223372036854775807
   rotate_left
   ·rw [if_neg c7] at H
    exact absurd H (by simp)
   rw [if_pos c7] at H
   have c7b0 := eq_true c7
   have c7b1 := dT c7
   try have c7b2 : (9223372036854775807 < ((⟨#[48, 49, 50, 51, 52, 53, 54, 55, 56, 57, 97, 98, 99, 100, 101, 102]⟩ : ByteArray).extract ((ji3) : Int).toNat ((wrap64 ((ji3) + 1)) : Int).toNat).size + x3_1.size) = False := eq_false (Nat.not_lt.2 c7)
   have H' := Aside0.mk H
   clear H
   go_wp2
   go_roundg k1
   case measure => have := HK1.out; omega
   case rel => exact ⟨(((⟨#[48, 49, 50, 51, 52, 53, 54, 55, 56, 57, 97, 98, 99, 100, 101, 102]⟩ : ByteArray).extract ((ji3) : Int).toNat ((wrap64 ((ji3) + 1)) : Int).toNat) ++ x3_1), (wrap64 (Int.tdiv x4_1 16)), (by first | rfl | (simp; done) | (simp only [← hji3] <;> (first | rfl | simp)) | (simp [*]; done)), cA, H', ⟨by have := HK1.out; omega⟩, ⟨bE⟩⟩
  rw [if_neg c2] at H
  have c2b0 := dF c2
  clear c2
  by_cases c8 : x3_1.toList = ([] : List UInt8)
  ·rw [if_pos c8] at H
   obtain ⟨c8b0, c8b1⟩ := eqT c8
   (try (have c8b2 : x3_1.toList.isEmpty = true := by simpa using c8))
   clear c8
   obtain ⟨ji9, hji9⟩ : ∃ j_ : Int, (Int.tmod x4_1 16) = j_ := ⟨_, rfl⟩
   rw [hji9] at H
   by_cases c10 : 0 ≤ (ji9)
   rotate_left
   ·rw [if_neg c10] at H
    exact absurd H (by simp)
   rw [if_pos c10] at H
   have c10b0 := eq_true c10
   have c10b1 := dT c10
   clear c10
   by_cases c11 : (ji9) ≤ (wrap64 ((ji9) + 1))
   rotate_left
   ·rw [if_neg c11] at H
    exact absurd H (by simp)
   rw [if_pos c11] at H
   have c11b0 := eq_true c11
   have c11b1 := dT c11
   by_cases c12 : (wrap64 ((ji9) + 1)) ≤ 16
   rotate_left
   ·rw [if_neg c12] at H
    exact absurd H (by simp)
   rw [if_pos c12] at H
   have c12b0 := eq_true c12
   have c12b1 := dT c12
   by_cases c13 : ((⟨#[48, 49, 50, 51, 52, 53, 54, 55, 56, 57, 97, 98, 99, 100, 101, 102]⟩ : ByteArray).extract ((ji9) : Int).toNat ((wrap64 ((ji9) + 1)) : Int).toNat).size + x3_1.size ≤ 9223372036854775807
   rotate_left
   ·rw [if_neg c13] at H
    exact absurd H (by simp)
   rw [if_pos c13] at H
   have c13b0 := eq_true c13
   have c13b1 := dT c13
   try have c13b2 : (9223372036854775807 < ((⟨#[48, 49, 50, 51, 52, 53, 54, 55, 56, 57, 97, 98, 99, 100, 101, 102]⟩ : ByteArray).extract ((ji9) : Int).toNat ((wrap64 ((ji9) + 1)) : Int).toNat).size + x3_1.size) = False := eq_false (Nat.not_lt.2 c13)
   have H' := Aside0.mk H
   clear H
   go_wp2
   go_roundg k1
   case measure => have := HK1.out; omega
   case rel => exact ⟨(((⟨#[48, 49, 50, 51, 52, 53, 54, 55, 56, 57, 97, 98, 99, 100, 101, 102]⟩ : ByteArray).extract ((ji9) : Int).toNat ((wrap64 ((ji9) + 1)) : Int).toNat) ++ x3_1), (wrap64 (Int.tdiv x4_1 16)), (by first | rfl | (simp; done) | (simp only [← hji9] <;> (first | rfl | simp)) | (simp [*]; done)), cA, H', ⟨by have := HK1.out; omega⟩, ⟨bE⟩⟩
  rw [if_neg c8] at H
  obtain ⟨c8b0, c8b1⟩ := eqF c8
  (try (have c8b2 : x3_1.toList.isEmpty = false := by simpa using c8))
  replace H := bi H
  obtain ⟨t218, A140, H⟩ := H
  try dsimp only at H
  have A14 := Aside0.mk A140
  clear A140
  by_cases c15 : 2 + t218.size ≤ 9223372036854775807
  rotate_left
  ·rw [if_neg c15] at H
   exact absurd H (by simp)
  rw [if_pos c15] at H
  have c15b0 := eq_true c15
  have c15b1 := dT c15
  try have c15b2 : (9223372036854775807 < 2 + t218.size) = False := eq_false (Nat.not_lt.2 c15)
  by_cases c16 : ((⟨#[38, 35]⟩ : ByteArray) ++ t218).size + 1 ≤ 9223372036854775807
  rotate_left
  ·rw [if_neg c16] at H
   exact absurd H (by simp)
  rw [if_pos c16] at H
  have c16b0 := eq_true c16
  have c16b1 := dT c16
  try have c16b2 : (9223372036854775807 < ((⟨#[38, 35]⟩ : ByteArray) ++ t218).size + 1) = False := eq_false (Nat.not_lt.2 c16)
  have c16n : (2 + t218.size) + 1 ≤ 9223372036854775807 := by have z_ := c16; simp only [ByteArray.size_append] at z_; exact z_
  have c16m : (9223372036854775807 < (2 + t218.size) + 1) = False := eq_false (Nat.not_lt.2 c16n)
  clear c16 c16b0 c16b1
  try clear c16b2
  replace H := bi H
  obtain ⟨⟨t219, t220⟩, A170, H⟩ := H
  try dsimp only at H
  have A17 := Aside0.mk A170
  clear A170
  by_cases c18 : 3 + x3_1.size ≤ 9223372036854775807
  rotate_left
  ·rw [if_neg c18] at H
   exact absurd H (by simp)
  rw [if_pos c18] at H
  have c18b0 := eq_true c18
  have c18b1 := dT c18
  try have c18b2 : (9223372036854775807 < 3 + x3_1.size) = False := eq_false (Nat.not_lt.2 c18)
  by_cases c19 : ((⟨#[38, 35, 120]⟩ : ByteArray) ++ x3_1).size + 1 ≤ 9223372036854775807
  rotate_left
  ·rw [if_neg c19] at H
   exact absurd H (by simp)
  rw [if_pos c19] at H
  have c19b0 := eq_true c19
  have c19b1 := dT c19
  try have c19b2 : (9223372036854775807 < ((⟨#[38, 35, 120]⟩ : ByteArray) ++ x3_1).size + 1) = False := eq_false (Nat.not_lt.2 c19)
  have c19n : (3 + x3_1.size) + 1 ≤ 9223372036854775807 := by have z_ := c19; simp only [ByteArray.size_append] at z_; exact z_
  have c19m : (9223372036854775807 < (3 + x3_1.size) + 1) = False := eq_false (Nat.not_lt.2 c19n)
  clear c19 c19b0 c19b1
  try clear c19b2
  replace H := bi H
  obtain ⟨⟨t221, t222⟩, A200, H⟩ := H
  try dsimp only at H
  have A20 := Aside0.mk A200
  clear A200
  have HC21 := Aside0.mk H
  clear H
  go_upto_region 10 with (first | (refine gl (some 34) Try.func20 #[.int .i64 (wrap64 (Int.tmod (IntKind.u64.wrap (a0)) 1200000))] ?_; (with_reducible refine (newelhelp_Digits.calls k1 (wrap64 (Int.tmod (IntKind.u64.wrap (a0)) 1200000)) t218 _ (gS HG) A14.out).mono ?_); rintro e w22 ⟨rfl, hb⟩; refine ⟨_, rfl, ?_⟩; replace HB := sB hb; (try clear hb)) | (refine gl (some 39) Try.func14 #[.string (((⟨#[38, 35]⟩ : ByteArray) ++ t218) ++ (⟨#[59]⟩ : ByteArray))] ?_; (with_reducible refine (token_Entities.calls (((⟨#[38, 35]⟩ : ByteArray) ++ t218) ++ (⟨#[59]⟩ : ByteArray)) t219 t220 _ (gS HG) A17.out).mono ?_); rintro e w23 ⟨rfl, hb⟩; refine ⟨_, rfl, ?_⟩; replace HB := sB hb; (try clear hb)) | (refine gl (some 46) Try.func14 #[.string (((⟨#[38, 35, 120]⟩ : ByteArray) ++ x3_1) ++ (⟨#[59]⟩ : ByteArray))] ?_; (with_reducible refine (token_Entities.calls (((⟨#[38, 35, 120]⟩ : ByteArray) ++ x3_1) ++ (⟨#[59]⟩ : ByteArray)) t221 t222 _ (gS HG) A20.out).mono ?_); rintro e w24 ⟨rfl, hb⟩; refine ⟨_, rfl, ?_⟩; replace HB := sB hb; (try clear hb)))
  (try simp only [Act.put, List.setIfInBounds_toArray, List.set_cons_zero, List.set_cons_succ])
  go_cut [10] (fun v10 wc => ∃ (kq : Nat) (x10_20 : Bool), v10 = .bool x10_20 ∧ Aside0 (newellaw02_TokenNumbers.j1 kq (wrap64 (Int.tmod (IntKind.u64.wrap (a0)) 1200000)) t218 t219 t220 t221 t222 x10_20 = some r) ∧ Aside0 (kq ≤ k1) ∧ Aside0 (Below w.heap.size w wc))
  case first =>
   have H := HC21.out
   clear HC21
   by_cases c25 : (wrap64 (Int.tmod (IntKind.u64.wrap (a0)) 1200000)) ≤ 1114111
   rotate_left
   ·rw [if_neg c25] at H
    have c25b0 := dF c25
    clear c25
    (first | rw [c25b0] | (simp only [i64_w, i32_w]; rw [c25b0]) | skip)
    have H' := Aside0.mk H
    clear H
    go_wp2
    go_meet
    case rel => exact ⟨_, (false), cA, H', ⟨by have := HK1.out; first | omega | exact Nat.le_refl _⟩, ⟨bE⟩⟩
   rw [if_pos c25] at H
   have c25b0 := dT c25
   clear c25
   (first | rw [c25b0] | (simp only [i64_w, i32_w]; rw [c25b0]) | skip)
   by_cases c26 : (wrap64 (Int.tmod (IntKind.u64.wrap (a0)) 1200000)) < 55296
   ·rw [if_pos c26] at H
    have c26b0 := dT c26
    clear c26
    by_cases c27 : (wrap64 (Int.tmod (IntKind.u64.wrap (a0)) 1200000)) ≥ 32
    ·rw [if_pos c27] at H
     have c27b0 := dT c27
     clear c27
     have H' := Aside0.mk H
     clear H
     go_wp2
     go_meet
     case rel => exact ⟨_, (true), cA, H', ⟨by have := HK1.out; first | omega | exact Nat.le_refl _⟩, ⟨bE⟩⟩
    rw [if_neg c27] at H
    have c27b0 := dF c27
    clear c27
    by_cases c28 : (wrap64 (Int.tmod (IntKind.u64.wrap (a0)) 1200000)) = 9
    ·rw [if_pos c28] at H
     obtain ⟨c28b0, c28b1⟩ := eqT c28
     clear c28
     have H' := Aside0.mk H
     clear H
     go_wp2
     go_meet
     case rel => exact ⟨_, (true), cA, H', ⟨by have := HK1.out; first | omega | exact Nat.le_refl _⟩, ⟨bE⟩⟩
    rw [if_neg c28] at H
    obtain ⟨c28b0, c28b1⟩ := eqF c28
    by_cases c29 : (wrap64 (Int.tmod (IntKind.u64.wrap (a0)) 1200000)) = 10
    rotate_left
    ·rw [if_neg c29] at H
     obtain ⟨c29b0, c29b1⟩ := eqF c29
     have H' := Aside0.mk H
     clear H
     go_wp2
     go_meet
     case rel => exact ⟨_, (((wrap64 (Int.tmod (IntKind.u64.wrap (a0)) 1200000)) == 13)), cA, H', ⟨by have := HK1.out; first | omega | exact Nat.le_refl _⟩, ⟨bE⟩⟩
    rw [if_pos c29] at H
    obtain ⟨c29b0, c29b1⟩ := eqT c29
    clear c29
    have H' := Aside0.mk H
    clear H
    go_wp2
    go_meet
    case rel => exact ⟨_, (true), cA, H', ⟨by have := HK1.out; first | omega | exact Nat.le_refl _⟩, ⟨bE⟩⟩
   rw [if_neg c26] at H
   have c26b0 := dF c26
   clear c26
   by_cases c30 : (wrap64 (Int.tmod (IntKind.u64.wrap (a0)) 1200000)) > 57343
   rotate_left
   ·rw [if_neg c30] at H
    have c30b0 := dF c30
    clear c30
    have H' := Aside0.mk H
    clear H
    go_wp2
    go_meet
    case rel => exact ⟨_, (false), cA, H', ⟨by have := HK1.out; first | omega | exact Nat.le_refl _⟩, ⟨bE⟩⟩
   rw [if_pos c30] at H
   have c30b0 := dT c30
   clear c30
   by_cases c31 : (wrap64 (Int.tmod (IntKind.u64.wrap (a0)) 1200000)) ≥ 32
   ·rw [if_pos c31] at H
    have c31b0 := dT c31
    clear c31
    have H' := Aside0.mk H
    clear H
    go_wp2
    go_meet
    case rel => exact ⟨_, (true), cA, H', ⟨by have := HK1.out; first | omega | exact Nat.le_refl _⟩, ⟨bE⟩⟩
   rw [if_neg c31] at H
   have c31b0 := dF c31
   clear c31
   by_cases c32 : (wrap64 (Int.tmod (IntKind.u64.wrap (a0)) 1200000)) = 9
   ·rw [if_pos c32] at H
    obtain ⟨c32b0, c32b1⟩ := eqT c32
    clear c32
    have H' := Aside0.mk H
    clear H
    go_wp2
    go_meet
    case rel => exact ⟨_, (true), cA, H', ⟨by have := HK1.out; first | omega | exact Nat.le_refl _⟩, ⟨bE⟩⟩
   rw [if_neg c32] at H
   obtain ⟨c32b0, c32b1⟩ := eqF c32
   by_cases c33 : (wrap64 (Int.tmod (IntKind.u64.wrap (a0)) 1200000)) = 10
   rotate_left
   ·rw [if_neg c33] at H
    obtain ⟨c33b0, c33b1⟩ := eqF c33
    have H' := Aside0.mk H
    clear H
    go_wp2
    go_meet
    case rel => exact ⟨_, (((wrap64 (Int.tmod (IntKind.u64.wrap (a0)) 1200000)) == 13)), cA, H', ⟨by have := HK1.out; first | omega | exact Nat.le_refl _⟩, ⟨bE⟩⟩
   rw [if_pos c33] at H
   obtain ⟨c33b0, c33b1⟩ := eqT c33
   clear c33
   have H' := Aside0.mk H
   clear H
   go_wp2
   go_meet
   case rel => exact ⟨_, (true), cA, H', ⟨by have := HK1.out; first | omega | exact Nat.le_refl _⟩, ⟨bE⟩⟩
  clear HC21
  try clear c1
  try clear c2
  try clear c2b0
  try clear p2
  try clear c3
  try clear c4
  try clear c4b0
  try clear c4b1
  try clear c5
  try clear c5b0
  try clear c5b1
  try clear c6
  try clear c6b0
  try clear c6b1
  try clear p6
  try clear c7
  try clear c7b0
  try clear c7b1
  try clear c7b2
  try clear c8
  try clear c8b0
  try clear c8b1
  try clear c8b2
  try clear c10
  try clear c10b0
  try clear c10b1
  try clear c11
  try clear c11b0
  try clear c11b1
  try clear c12
  try clear c12b0
  try clear c12b1
  try clear c13
  try clear c13b0
  try clear c13b1
  try clear c13b2
  try clear c14
  try clear c15
  try clear c15b0
  try clear c15b1
  try clear c15b2
  try clear c16
  try clear c16b0
  try clear c16b1
  try clear c16b2
  try clear c18
  try clear c18b0
  try clear c18b1
  try clear c18b2
  try clear c19
  try clear c19b0
  try clear c19b1
  try clear c19b2
  try clear c20
  try clear c25
  try clear c25b0
  try clear c26
  try clear c26b0
  try clear c27
  try clear c27b0
  try clear c28
  try clear c28b0
  try clear c28b1
  try clear c29
  try clear c29b0
  try clear c29b1
  try clear c30
  try clear c30b0
  try clear c31
  try clear c31b0
  try clear c32
  try clear c32b0
  try clear c32b1
  try clear c33
  try clear c33b0
  try clear c33b1
  obtain ⟨kq, x10_20, rfl, HA, HJ20, HB⟩ := hcut
  cases kq with
  | zero => exact absurd HA.out (by simp [newellaw02_TokenNumbers.j1])
  | succ kj20 =>
   have H := HA.out
   clear HA
   simp only [newellaw02_TokenNumbers.j1] at H
   (try simp only [toList_lit] at H)
   by_cases c34 : x10_20 = true
   rotate_left
   ·replace c34 := Bool.eq_false_iff.mpr c34
    subst c34
    have H1 : ((newellaw02_awake.f).bind fun t243 => (if t243 = true then (if t220 = 5 then (some (t222 == 5)) else (some false)) else (some false))) = some r := by rw [if_neg (show ¬ (false = true) by decide)] at H; exact H
    clear H
    have H := H1
    clear H1
    replace H := bi H
    obtain ⟨t243, A790, H⟩ := H
    try dsimp only at H
    have A79 := Aside0.mk A790
    clear A790
    by_cases c80 : t243 = true
    rotate_left
    ·replace c80 := Bool.eq_false_iff.mpr c80
     subst c80
     have H1 : (some false) = some r := by rw [if_neg (show ¬ (false = true) by decide)] at H; exact H
     clear H
     have H := H1
     clear H1
     exfalso
     obtain rfl := Option.some.inj H
     exact absurd hr_ (by decide)
    subst c80
    have H1 : (if t220 = 5 then (some (t222 == 5)) else (some false)) = some r := by rw [if_pos rfl] at H; exact H
    clear H
    have H := H1
    clear H1
    by_cases c81 : t220 = 5
    rotate_left
    ·rw [if_neg c81] at H
     obtain ⟨c81b0, c81b1⟩ := eqF c81
     exfalso
     obtain rfl := Option.some.inj H
     exact absurd hr_ (by decide)
    rw [if_pos c81] at H
    obtain ⟨c81b0, c81b1⟩ := eqT c81
    clear c81
    obtain rfl := Option.some.inj H
    go_wp2_with (first | (refine gl (some 77) Try.func11 #[] ?_; (with_reducible refine (newellaw02_awake.calls  true _ (gS HG) A79.out).mono ?_); rintro e w82 ⟨rfl, hb⟩; refine ⟨_, rfl, ?_⟩; replace HB := sB hb; (try clear hb)))
    go_ret
    exact ⟨eA, bE⟩
   subst c34
   have H1 : (if t222 = 0 then (if (t218.size : Int) ≤ 6 then (if t220 = 0 then (if t219.toList = t221.toList then (if (t218.size : Int) > 6 then (if t220 = 5 then (if t221.size ≤ 1000000 then ((some (runesOf t221 : List Int)).bind fun y223 => ((newellaw02_awake.f).bind fun t226 => (if t226 = true then (if (y223.length : Int) = 1 then (if 0 < (y223.length : Int) then (some ((wrap64 (rd y223 0)) == (wrap64 (Int.tmod (IntKind.u64.wrap (a0)) 1200000)))) else (none)) else (some false)) else (some false)))) else (none)) else (some false)) else (if t221.size ≤ 1000000 then ((some (runesOf t221 : List Int)).bind fun y228 => ((newellaw02_awake.f).bind fun t231 => (if t231 = true then (if (y228.length : Int) = 1 then (if 0 < (y228.length : Int) then (some ((wrap64 (rd y228 0)) == (wrap64 (Int.tmod (IntKind.u64.wrap (a0)) 1200000)))) else (none)) else (some false)) else (some false)))) else (none))) else (some false)) else (some false)) else (if (t218.size : Int) > 6 then (if t220 = 5 then (if t221.size ≤ 1000000 then ((some (runesOf t221 : List Int)).bind fun y233 => ((newellaw02_awake.f).bind fun t236 => (if t236 = true then (if (y233.length : Int) = 1 then (if 0 < (y233.length : Int) then (some ((wrap64 (rd y233 0)) == (wrap64 (Int.tmod (IntKind.u64.wrap (a0)) 1200000)))) else (none)) else (some false)) else (some false)))) else (none)) else (some false)) else (if t221.size ≤ 1000000 then ((some (runesOf t221 : List Int)).bind fun y238 => ((newellaw02_awake.f).bind fun t241 => (if t241 = true then (if (y238.length : Int) = 1 then (if 0 < (y238.length : Int) then (some ((wrap64 (rd y238 0)) == (wrap64 (Int.tmod (IntKind.u64.wrap (a0)) 1200000)))) else (none)) else (some false)) else (some false)))) else (none)))) else (some false)) = some r := by rw [if_pos rfl] at H; exact H
   clear H
   have H := H1
   clear H1
   by_cases c35 : t222 = 0
   rotate_left
   ·rw [if_neg c35] at H
    obtain ⟨c35b0, c35b1⟩ := eqF c35
    exfalso
    obtain rfl := Option.some.inj H
    exact absurd hr_ (by decide)
   rw [if_pos c35] at H
   obtain ⟨c35b0, c35b1⟩ := eqT c35
   clear c35
   by_cases c36 : (t218.size : Int) ≤ 6
   rotate_left
   ·rw [if_neg c36] at H
    have c36b0 := dF c36
    have c36b1 : decide (t218.size ≤ 6) = false := decide_eq_false (by omega)
    clear c36
    by_cases c59 : (t218.size : Int) > 6
    rotate_left
    ·rw [if_neg c59] at H
     have c59b0 := dF c59
     have c59b1 : decide (6 < t218.size) = false := decide_eq_false (by omega)
     clear c59
     by_cases c70 : t221.size ≤ 1000000
     rotate_left
     ·rw [if_neg c70] at H
      exact absurd H (by simp)
     rw [if_pos c70] at H
     have c70b0 := eq_true c70
     have c70b1 := dT c70
     clear c70
     obtain ⟨y238, hy238⟩ : ∃ y_ : List Int, y_ = (runesOf t221) := ⟨_, rfl⟩
     replace H : ((newellaw02_awake.f).bind fun t241 => (if t241 = true then (if (y238.length : Int) = 1 then (if 0 < (y238.length : Int) then (some ((wrap64 (rd y238 0)) == (wrap64 (Int.tmod (IntKind.u64.wrap (a0)) 1200000)))) else (none)) else (some false)) else (some false))) = some r := by first | (rw [hy238]; with_reducible exact H) | (have H2_ := (Option.bind_some _ _).symm.trans H; rw [hy238]; with_reducible exact H2_) | (have H2_ := (Option.bind_some _ _).symm.trans H; with_reducible exact H2_) | with_reducible exact H | (rw [hy238]; exact H) | exact H
     have Ny238 := Aside0.mk hy238
     clear hy238
     replace H := bi H
     obtain ⟨t241, A710, H⟩ := H
     try dsimp only at H
     have A71 := Aside0.mk A710
     clear A710
     by_cases c72 : t241 = true
     rotate_left
     ·replace c72 := Bool.eq_false_iff.mpr c72
      subst c72
      have H1 : (some false) = some r := by rw [if_neg (show ¬ (false = true) by decide)] at H; exact H
      clear H
      have H := H1
      clear H1
      exfalso
      obtain rfl := Option.some.inj H
      exact absurd hr_ (by decide)
     subst c72
     have H1 : (if (y238.length : Int) = 1 then (if 0 < (y238.length : Int) then (some ((wrap64 (rd y238 0)) == (wrap64 (Int.tmod (IntKind.u64.wrap (a0)) 1200000)))) else (none)) else (some false)) = some r := by rw [if_pos rfl] at H; exact H
     clear H
     have H := H1
     clear H1
     by_cases c73 : (y238.length : Int) = 1
     rotate_left
     ·rw [if_neg c73] at H
      obtain ⟨c73b0, c73b1⟩ := eqF c73
      exfalso
      obtain rfl := Option.some.inj H
      exact absurd hr_ (by decide)
     rw [if_pos c73] at H
     obtain ⟨c73b0, c73b1⟩ := eqT c73
     clear c73
     by_cases c74 : 0 < (y238.length : Int)
     rotate_left
     ·rw [if_neg c74] at H
      exact absurd H (by simp)
     rw [if_pos c74] at H
     have c74b0 := dT c74
     have c74b1 : decide (0 < y238.length) = true := decide_eq_true (by omega)
     clear c74
     obtain rfl := Option.some.inj H
     go_wp2_with (first | ((with_reducible refine gate_dst (N := 112) rfl ?_); (try (refine gate_guard (by rfl) ?_; dsimp only)); refine Kd_R_runes rfl (N := 112) rfl 9 42 21 _ rfl t221 rfl Try.underlying9 Try.underlying42 Try.underlying21 (by first | (with_reducible assumption) | exact dA | omega) ?_; intro v239 w75 ho76 hb hg_ hnew_; clear hg_ hnew_; (first | rw [← Ny238.out] at ho76 | (simp only [Int.reduceToNat] at ho76; rw [← Ny238.out] at ho76)); have HO240 := Aside0.mk (Kd.R_lower ho76 (below_size bE)); replace HB := sB hb; clear hb ho76) | (refine gl (some 113) Try.func11 #[] ?_; (with_reducible refine (newellaw02_awake.calls  true _ (gS HG) A71.out).mono ?_); rintro e w77 ⟨rfl, hb⟩; refine ⟨_, rfl, ?_⟩; replace HO240 := rB HO240 hb; replace HB := sB hb; (try clear hb); obtain ⟨Ao78, co78, eo78⟩ := Kd.R_slice HO240.out; subst eo78; have p242 : 0 ≤ (0 : Int) := (by omega); have q242 : 0 < (y238.length : Int) := dA; obtain ⟨ad242, e242, hx242_0⟩ := Kd.at_int (Kd.R_reads' HO240.out).2.2 0 p242 q242; cases e242; have qi242 : (0 < y238.length) = True := eq_true (by omega); (try rw [show ((0 : Int)).toNat = 0 from rfl] at hx242_0); (try rw [Addr.add_zero'] at hx242_0); replace p242 := eq_true p242; replace q242 := eq_true q242))
     go_ret
     exact ⟨eA, bE⟩
    rw [if_pos c59] at H
    have c59b0 := dT c59
    have c59b1 : decide (6 < t218.size) = true := decide_eq_true (by omega)
    clear c59
    by_cases c60 : t220 = 5
    rotate_left
    ·rw [if_neg c60] at H
     obtain ⟨c60b0, c60b1⟩ := eqF c60
     exfalso
     obtain rfl := Option.some.inj H
     exact absurd hr_ (by decide)
    rw [if_pos c60] at H
    obtain ⟨c60b0, c60b1⟩ := eqT c60
    clear c60
    by_cases c61 : t221.size ≤ 1000000
    rotate_left
    ·rw [if_neg c61] at H
     exact absurd H (by simp)
    rw [if_pos c61] at H
    have c61b0 := eq_true c61
    have c61b1 := dT c61
    clear c61
    obtain ⟨y233, hy233⟩ : ∃ y_ : List Int, y_ = (runesOf t221) := ⟨_, rfl⟩
    replace H : ((newellaw02_awake.f).bind fun t236 => (if t236 = true then (if (y233.length : Int) = 1 then (if 0 < (y233.length : Int) then (some ((wrap64 (rd y233 0)) == (wrap64 (Int.tmod (IntKind.u64.wrap (a0)) 1200000)))) else (none)) else (some false)) else (some false))) = some r := by first | (rw [hy233]; with_reducible exact H) | (have H2_ := (Option.bind_some _ _).symm.trans H; rw [hy233]; with_reducible exact H2_) | (have H2_ := (Option.bind_some _ _).symm.trans H; with_reducible exact H2_) | with_reducible exact H | (rw [hy233]; exact H) | exact H
    have Ny233 := Aside0.mk hy233
    clear hy233
    replace H := bi H
    obtain ⟨t236, A620, H⟩ := H
    try dsimp only at H
    have A62 := Aside0.mk A620
    clear A620
    by_cases c63 : t236 = true
    rotate_left
    ·replace c63 := Bool.eq_false_iff.mpr c63
     subst c63
     have H1 : (some false) = some r := by rw [if_neg (show ¬ (false = true) by decide)] at H; exact H
     clear H
     have H := H1
     clear H1
     exfalso
     obtain rfl := Option.some.inj H
     exact absurd hr_ (by decide)
    subst c63
    have H1 : (if (y233.length : Int) = 1 then (if 0 < (y233.length : Int) then (some ((wrap64 (rd y233 0)) == (wrap64 (Int.tmod (IntKind.u64.wrap (a0)) 1200000)))) else (none)) else (some false)) = some r := by rw [if_pos rfl] at H; exact H
    clear H
    have H := H1
    clear H1
    by_cases c64 : (y233.length : Int) = 1
    rotate_left
    ·rw [if_neg c64] at H
     obtain ⟨c64b0, c64b1⟩ := eqF c64
     exfalso
     obtain rfl := Option.some.inj H
     exact absurd hr_ (by decide)
    rw [if_pos c64] at H
    obtain ⟨c64b0, c64b1⟩ := eqT c64
    clear c64
    by_cases c65 : 0 < (y233.length : Int)
    rotate_left
    ·rw [if_neg c65] at H
     exact absurd H (by simp)
    rw [if_pos c65] at H
    have c65b0 := dT c65
    have c65b1 : decide (0 < y233.length) = true := decide_eq_true (by omega)
    clear c65
    obtain rfl := Option.some.inj H
    go_wp2_with (first | ((with_reducible refine gate_dst (N := 112) rfl ?_); (try (refine gate_guard (by rfl) ?_; dsimp only)); refine Kd_R_runes rfl (N := 112) rfl 9 42 21 _ rfl t221 rfl Try.underlying9 Try.underlying42 Try.underlying21 (by first | (with_reducible assumption) | exact dA | omega) ?_; intro v234 w66 ho67 hb hg_ hnew_; clear hg_ hnew_; (first | rw [← Ny233.out] at ho67 | (simp only [Int.reduceToNat] at ho67; rw [← Ny233.out] at ho67)); have HO235 := Aside0.mk (Kd.R_lower ho67 (below_size bE)); replace HB := sB hb; clear hb ho67) | (refine gl (some 113) Try.func11 #[] ?_; (with_reducible refine (newellaw02_awake.calls  true _ (gS HG) A62.out).mono ?_); rintro e w68 ⟨rfl, hb⟩; refine ⟨_, rfl, ?_⟩; replace HO235 := rB HO235 hb; replace HB := sB hb; (try clear hb); obtain ⟨Ao69, co69, eo69⟩ := Kd.R_slice HO235.out; subst eo69; have p237 : 0 ≤ (0 : Int) := (by omega); have q237 : 0 < (y233.length : Int) := dA; obtain ⟨ad237, e237, hx237_0⟩ := Kd.at_int (Kd.R_reads' HO235.out).2.2 0 p237 q237; cases e237; have qi237 : (0 < y233.length) = True := eq_true (by omega); (try rw [show ((0 : Int)).toNat = 0 from rfl] at hx237_0); (try rw [Addr.add_zero'] at hx237_0); replace p237 := eq_true p237; replace q237 := eq_true q237))
    go_ret
    exact ⟨eA, bE⟩
   rw [if_pos c36] at H
   have c36b0 := dT c36
   have c36b1 : decide (t218.size ≤ 6) = true := decide_eq_true (by omega)
   clear c36
   by_cases c37 : t220 = 0
   rotate_left
   ·rw [if_neg c37] at H
    obtain ⟨c37b0, c37b1⟩ := eqF c37
    exfalso
    obtain rfl := Option.some.inj H
    exact absurd hr_ (by decide)
   rw [if_pos c37] at H
   obtain ⟨c37b0, c37b1⟩ := eqT c37
   clear c37
   by_cases c38 : t219.toList = t221.toList
   rotate_left
   ·rw [if_neg c38] at H
    obtain ⟨c38b0, c38b1⟩ := eqF c38
    exfalso
    obtain rfl := Option.some.inj H
    exact absurd hr_ (by decide)
   rw [if_pos c38] at H
   obtain ⟨c38b0, c38b1⟩ := eqT c38
   clear c38
   by_cases c39 : (t218.size : Int) > 6
   rotate_left
   ·rw [if_neg c39] at H
    have c39b0 := dF c39
    have c39b1 : decide (6 < t218.size) = false := decide_eq_false (by omega)
    clear c39
    by_cases c50 : t221.size ≤ 1000000
    rotate_left
    ·rw [if_neg c50] at H
     exact absurd H (by simp)
    rw [if_pos c50] at H
    have c50b0 := eq_true c50
    have c50b1 := dT c50
    clear c50
    obtain ⟨y228, hy228⟩ : ∃ y_ : List Int, y_ = (runesOf t221) := ⟨_, rfl⟩
    replace H : ((newellaw02_awake.f).bind fun t231 => (if t231 = true then (if (y228.length : Int) = 1 then (if 0 < (y228.length : Int) then (some ((wrap64 (rd y228 0)) == (wrap64 (Int.tmod (IntKind.u64.wrap (a0)) 1200000)))) else (none)) else (some false)) else (some false))) = some r := by first | (rw [hy228]; with_reducible exact H) | (have H2_ := (Option.bind_some _ _).symm.trans H; rw [hy228]; with_reducible exact H2_) | (have H2_ := (Option.bind_some _ _).symm.trans H; with_reducible exact H2_) | with_reducible exact H | (rw [hy228]; exact H) | exact H
    have Ny228 := Aside0.mk hy228
    clear hy228
    replace H := bi H
    obtain ⟨t231, A510, H⟩ := H
    try dsimp only at H
    have A51 := Aside0.mk A510
    clear A510
    by_cases c52 : t231 = true
    rotate_left
    ·replace c52 := Bool.eq_false_iff.mpr c52
     subst c52
     have H1 : (some false) = some r := by rw [if_neg (show ¬ (false = true) by decide)] at H; exact H
     clear H
     have H := H1
     clear H1
     exfalso
     obtain rfl := Option.some.inj H
     exact absurd hr_ (by decide)
    subst c52
    have H1 : (if (y228.length : Int) = 1 then (if 0 < (y228.length : Int) then (some ((wrap64 (rd y228 0)) == (wrap64 (Int.tmod (IntKind.u64.wrap (a0)) 1200000)))) else (none)) else (some false)) = some r := by rw [if_pos rfl] at H; exact H
    clear H
    have H := H1
    clear H1
    by_cases c53 : (y228.length : Int) = 1
    rotate_left
    ·rw [if_neg c53] at H
     obtain ⟨c53b0, c53b1⟩ := eqF c53
     exfalso
     obtain rfl := Option.some.inj H
     exact absurd hr_ (by decide)
    rw [if_pos c53] at H
    obtain ⟨c53b0, c53b1⟩ := eqT c53
    clear c53
    by_cases c54 : 0 < (y228.length : Int)
    rotate_left
    ·rw [if_neg c54] at H
     exact absurd H (by simp)
    rw [if_pos c54] at H
    have c54b0 := dT c54
    have c54b1 : decide (0 < y228.length) = true := decide_eq_true (by omega)
    clear c54
    obtain rfl := Option.some.inj H
    go_wp2_with (first | ((with_reducible refine gate_dst (N := 112) rfl ?_); (try (refine gate_guard (by rfl) ?_; dsimp only)); refine Kd_R_runes rfl (N := 112) rfl 9 42 21 _ rfl t221 rfl Try.underlying9 Try.underlying42 Try.underlying21 (by first | (with_reducible assumption) | exact dA | omega) ?_; intro v229 w55 ho56 hb hg_ hnew_; clear hg_ hnew_; (first | rw [← Ny228.out] at ho56 | (simp only [Int.reduceToNat] at ho56; rw [← Ny228.out] at ho56)); have HO230 := Aside0.mk (Kd.R_lower ho56 (below_size bE)); replace HB := sB hb; clear hb ho56) | (refine gl (some 113) Try.func11 #[] ?_; (with_reducible refine (newellaw02_awake.calls  true _ (gS HG) A51.out).mono ?_); rintro e w57 ⟨rfl, hb⟩; refine ⟨_, rfl, ?_⟩; replace HO230 := rB HO230 hb; replace HB := sB hb; (try clear hb); obtain ⟨Ao58, co58, eo58⟩ := Kd.R_slice HO230.out; subst eo58; have p232 : 0 ≤ (0 : Int) := (by omega); have q232 : 0 < (y228.length : Int) := dA; obtain ⟨ad232, e232, hx232_0⟩ := Kd.at_int (Kd.R_reads' HO230.out).2.2 0 p232 q232; cases e232; have qi232 : (0 < y228.length) = True := eq_true (by omega); (try rw [show ((0 : Int)).toNat = 0 from rfl] at hx232_0); (try rw [Addr.add_zero'] at hx232_0); replace p232 := eq_true p232; replace q232 := eq_true q232))
    go_ret
    exact ⟨eA, bE⟩
   rw [if_pos c39] at H
   have c39b0 := dT c39
   have c39b1 : decide (6 < t218.size) = true := decide_eq_true (by omega)
   clear c39
   by_cases c40 : t220 = 5
   rotate_left
   ·rw [if_neg c40] at H
    obtain ⟨c40b0, c40b1⟩ := eqF c40
    exfalso
    obtain rfl := Option.some.inj H
    exact absurd hr_ (by decide)
   rw [if_pos c40] at H
   obtain ⟨c40b0, c40b1⟩ := eqT c40
   clear c40
   by_cases c41 : t221.size ≤ 1000000
   rotate_left
   ·rw [if_neg c41] at H
    exact absurd H (by simp)
   rw [if_pos c41] at H
   have c41b0 := eq_true c41
   have c41b1 := dT c41
   clear c41
   obtain ⟨y223, hy223⟩ : ∃ y_ : List Int, y_ = (runesOf t221) := ⟨_, rfl⟩
   replace H : ((newellaw02_awake.f).bind fun t226 => (if t226 = true then (if (y223.length : Int) = 1 then (if 0 < (y223.length : Int) then (some ((wrap64 (rd y223 0)) == (wrap64 (Int.tmod (IntKind.u64.wrap (a0)) 1200000)))) else (none)) else (some false)) else (some false))) = some r := by first | (rw [hy223]; with_reducible exact H) | (have H2_ := (Option.bind_some _ _).symm.trans H; rw [hy223]; with_reducible exact H2_) | (have H2_ := (Option.bind_some _ _).symm.trans H; with_reducible exact H2_) | with_reducible exact H | (rw [hy223]; exact H) | exact H
   have Ny223 := Aside0.mk hy223
   clear hy223
   replace H := bi H
   obtain ⟨t226, A420, H⟩ := H
   try dsimp only at H
   have A42 := Aside0.mk A420
   clear A420
   by_cases c43 : t226 = true
   rotate_left
   ·replace c43 := Bool.eq_false_iff.mpr c43
    subst c43
    have H1 : (some false) = some r := by rw [if_neg (show ¬ (false = true) by decide)] at H; exact H
    clear H
    have H := H1
    clear H1
    exfalso
    obtain rfl := Option.some.inj H
    exact absurd hr_ (by decide)
   subst c43
   have H1 : (if (y223.length : Int) = 1 then (if 0 < (y223.length : Int) then (some ((wrap64 (rd y223 0)) == (wrap64 (Int.tmod (IntKind.u64.wrap (a0)) 1200000)))) else (none)) else (some false)) = some r := by rw [if_pos rfl] at H; exact H
   clear H
   have H := H1
   clear H1
   by_cases c44 : (y223.length : Int) = 1
   rotate_left
   ·rw [if_neg c44] at H
    obtain ⟨c44b0, c44b1⟩ := eqF c44
    exfalso
    obtain rfl := Option.some.inj H
    exact absurd hr_ (by decide)
   rw [if_pos c44] at H
   obtain ⟨c44b0, c44b1⟩ := eqT c44
   clear c44
   by_cases c45 : 0 < (y223.length : Int)
   rotate_left
   ·rw [if_neg c45] at H
    exact absurd H (by simp)
   rw [if_pos c45] at H
   have c45b0 := dT c45
   have c45b1 : decide (0 < y223.length) = true := decide_eq_true (by omega)
   clear c45
   obtain rfl := Option.some.inj H
   go_wp2_with (first | ((with_reducible refine gate_dst (N := 112) rfl ?_); (try (refine gate_guard (by rfl) ?_; dsimp only)); refine Kd_R_runes rfl (N := 112) rfl 9 42 21 _ rfl t221 rfl Try.underlying9 Try.underlying42 Try.underlying21 (by first | (with_reducible assumption) | exact dA | omega) ?_; intro v224 w46 ho47 hb hg_ hnew_; clear hg_ hnew_; (first | rw [← Ny223.out] at ho47 | (simp only [Int.reduceToNat] at ho47; rw [← Ny223.out] at ho47)); have HO225 := Aside0.mk (Kd.R_lower ho47 (below_size bE)); replace HB := sB hb; clear hb ho47) | (refine gl (some 113) Try.func11 #[] ?_; (with_reducible refine (newellaw02_awake.calls  true _ (gS HG) A42.out).mono ?_); rintro e w48 ⟨rfl, hb⟩; refine ⟨_, rfl, ?_⟩; replace HO225 := rB HO225 hb; replace HB := sB hb; (try clear hb); obtain ⟨Ao49, co49, eo49⟩ := Kd.R_slice HO225.out; subst eo49; have p227 : 0 ≤ (0 : Int) := (by omega); have q227 : 0 < (y223.length : Int) := dA; obtain ⟨ad227, e227, hx227_0⟩ := Kd.at_int (Kd.R_reads' HO225.out).2.2 0 p227 q227; cases e227; have qi227 : (0 < y223.length) = True := eq_true (by omega); (try rw [show ((0 : Int)).toNat = 0 from rfl] at hx227_0); (try rw [Addr.add_zero'] at hx227_0); replace p227 := eq_true p227; replace q227 := eq_true q227))
   go_ret
   exact ⟨eA, bE⟩
end Go.Proofs.Ytomikblbfappnaa.Q
namespace Go.Proofs.Ytomikblbfappnaa.Q
open Go.RowKit Go.Proofs.YtomikblbfappnaaW.PrintWords Go.Proofs.YtomikblbfappnaaW.PrintLast Go.Proofs.YtomikblbfappnaaW.Own Go.Proofs.YtomikblbfappnaaW.PrintMore
set_option linter.unusedVariables false
set_option linter.unusedSimpArgs false
namespace Rd
open Go Go.RowKit
theorem glob {W : World} (h : W.ShapedOpen Try.prog) : Glob W :=
  cell_of_shapedOpen_int (g := 0) (t := 3) (zero := #[.int .i64 0]) (k := .i64) h (of_decide_eq_true (by kernel_rfl)) (by kernel_rfl) rfl (by kernel_rfl) (by kernel_rfl) Try.underlying3
end Rd
end Go.Proofs.Ytomikblbfappnaa.Q
namespace Go.Proofs.Ytomikblbfappnaa.Q
open Go.RowKit Go.Proofs.YtomikblbfappnaaW.PrintWords Go.Proofs.YtomikblbfappnaaW.PrintLast Go.Proofs.YtomikblbfappnaaW.Own Go.Proofs.YtomikblbfappnaaW.PrintMore
set_option linter.unusedVariables false
set_option linter.unusedSimpArgs false
def newellaw02_TokenNumbers.Pure : Prop := ∀ (a0 : Int), ((Lit.int .i64 a0).wf = true) → ∃ k, newellaw02_TokenNumbers.f k a0 = some true
end Go.Proofs.Ytomikblbfappnaa.Q
namespace Go.Proofs.Ytomikblbfappnaa.Pure
open Go Go.RowKit Go.Proofs.Ytomikblbfappnaa.Q Go.Proofs.YtomikblbfappnaaW.PrintWords
theorem upto_split {c : UInt8} : ∀ {a b : List UInt8}, (∀ x ∈ a, x ≠ c) → Tk.upto [c] (a ++ c :: b) = some (a, b)
  | a, b, h => by
    have e : Lib.index (a ++ c :: b) [c] = (a.length : Int) := by
      refine Lib.index_first (by simp) ?_ ?_
      · unfold Lib.occAt
        rw [List.drop_left]
        simp [List.isPrefixOf]
      · intro j hj
        unfold Lib.occAt
        rw [List.drop_append_of_le_length (by omega), List.drop_eq_getElem_cons hj]
        simp only [List.cons_append, List.isPrefixOf, Bool.and_true]
        exact beq_eq_false_iff_ne.2 fun e => h _ (List.getElem_mem hj) e.symm
    unfold Tk.upto
    rw [e, if_pos (by omega), Int.toNat_natCast, List.take_left]
    congr 2
    rw [show a.length + [c].length = (a ++ [c]).length by simp, show a ++ c :: b = (a ++ [c]) ++ b by simp, List.drop_left]
theorem ents_fuel : ∀ (n m : Nat) (l : List UInt8), l.length < n → l.length < m → Tk.ents n l = Tk.ents m l := by
  intro n
  induction n with
  | zero => intro m l h; omega
  | succ n ih =>
    intro m l h1 h2
    obtain ⟨m, rfl⟩ : ∃ k, m = k + 1 := ⟨m - 1, by omega⟩
    cases hu : Tk.upto [38] l with
    | none => rw [ents_none hu, ents_none hu]
    | some p =>
      obtain ⟨a, b⟩ := p
      have e1 := upto_sum hu
      cases hv : Tk.upto [59] b with
      | none => rw [ents_open hu hv, ents_open hu hv]
      | some q =>
        obtain ⟨x, r⟩ := q
        have e2 := upto_sum hv
        simp only [List.length_cons, List.length_nil] at e1 e2
        rw [ents_step hu hv, ents_step hu hv, ih m r (by omega) (by omega)]
theorem entities_fuel {n : Nat} {l : List UInt8} (h : l.length < n) : Tk.ents n l = Tk.entities l := ents_fuel _ _ _ h (Nat.lt_succ_self _)
theorem entities_amp (x c t : List UInt8) (h : ∀ y ∈ x, y ≠ 59) (hc : Tk.entity x = some c) : Tk.entities (38 :: (x ++ 59 :: t)) = (Tk.entities t).map fun r => c ++ r := by
  have h1 : Tk.upto [38] ([] ++ 38 :: (x ++ 59 :: t)) = some ([], x ++ 59 :: t) := upto_split fun y hy => absurd hy (by simp)
  have h2 : Tk.upto [59] (x ++ 59 :: t) = some (x, t) := upto_split h
  rw [List.nil_append] at h1
  unfold Tk.entities
  have e1 := upto_sum h1
  have e2 := upto_sum h2
  simp only [List.length_cons, List.length_nil] at e1 e2
  rw [ents_step h1 h2, hc, Option.bind_some, entities_fuel (by simp only [List.length_cons, List.length_append]; omega)]
  rfl
end Go.Proofs.Ytomikblbfappnaa.Pure
namespace Go.Proofs.Ytomikblbfappnaa.Q
open Go.RowKit Go.Proofs.YtomikblbfappnaaW.PrintWords Go.Proofs.YtomikblbfappnaaW.PrintLast Go.Proofs.YtomikblbfappnaaW.Own Go.Proofs.YtomikblbfappnaaW.PrintMore
attribute [local go_sem] max2_int min2_int max_two min_two max_three min_three max_four min_four   -- for this text's walks alone
set_option linter.unusedVariables false
set_option linter.unusedSimpArgs false
set_option maxHeartbeats 20000000
set_option maxRecDepth 100000
def IsS58 (w0 W : World) (g : Nat) (f0 : ByteArray) (f1 : Int) : Prop := W.heap[g]? = some (.cells #[.string f0, .int .i64 f1] 58 (0, 0)) ∧ w0.heap.size ≤ g
theorem IsS58.grown {w0 W : World} {g : Nat} {f0 : ByteArray} {f1 : Int} {W1 : World} {row : Option Nat} (h : IsS58 w0 W g f0 f1) (hw : W.grownBy W1 row) (hne : some g ≠ row) : IsS58 w0 W1 g f0 f1 := by
 obtain ⟨hb, hg⟩ := h
 exact ⟨blk_grown hb hw hne, hg⟩
theorem IsS58.below {w0 W : World} {g : Nat} {f0 : ByteArray} {f1 : Int} {W1 : World} (h : IsS58 w0 W g f0 f1) (hw : Below W.heap.size W W1) : IsS58 w0 W1 g f0 f1 := h.grown (grown_of_below hw none) (by simp)
theorem IsS58.alloc {w0 W : World} {g : Nat} {f0 : ByteArray} {f1 : Int} (h : IsS58 w0 W g f0 f1) (o : Obj) : IsS58 w0 (W.alloc o) g f0 f1 := h.below (below_alloc (Below.refl _ _) o)
theorem IsS58.drewN {w0 W : World} {g : Nat} {f0 : ByteArray} {f1 : Int} (h : IsS58 w0 W g f0 f1) (m : Nat) : IsS58 w0 (W.drewN m) g f0 f1 := h
theorem IsS58.own_ne {w0 W : World} {g : Nat} {f0 : ByteArray} {f1 : Int} {α : Type} {d : Kd α} {e : Nat} {base : Nat} {ok : Nat → Prop} {v : Value} {xs : List α} (h : IsS58 w0 W g f0 f1) (ho : d.R e W base ok v xs) (ht : e ≠ 58) : some g ≠ v.ownBlock := by
 obtain ⟨hb, hg⟩ := h
 exact Kd.R_ne ho hb ht
theorem newelref01_walk_upto.start_ {P : Program} {n : Nat} {vs_ : Array Value} {Q : Ending → World → Prop} {wI : World} (h : ∀ w, w = wI → Calls P n vs_ w Q) : Calls P n vs_ wI Q := h wI rfl
end Go.Proofs.Ytomikblbfappnaa.Q
namespace Go.Proofs.Ytomikblbfappnaa.Pure
open Go Go.RowKit Go.Proofs.Ytomikblbfappnaa.Q Go.Proofs.YtomikblbfappnaaW.PrintWords
theorem may_iff (v : Nat) : Tk.may v = true ↔ (v = 9 ∨ v = 10 ∨ v = 13 ∨ (32 ≤ v ∧ v ≤ 1114111 ∧ (v < 55296 ∨ 57343 < v))) := by
  unfold Tk.may
  simp only [Bool.or_eq_true, Bool.and_eq_true, beq_iff_eq, decide_eq_true_eq]
  omega
theorem upto_cons_eq (y : UInt8) (m : List UInt8) : Tk.upto [y] (y :: m) = some ([], m) := by
  have hp : List.isPrefixOf [y] (y :: m) = true := by simp [List.isPrefixOf]
  have hi : Lib.index (y :: m) [y] = 0 := by rw [Lib.index, if_pos hp]
  unfold Tk.upto
  rw [hi]; rfl
theorem awake_nums : newellaw02_awake.f = some true := by kernel_rfl
def hx (d : Nat) : UInt8 := UInt8.ofNat (if d < 10 then 48 + d else 87 + d)
def H : Nat → Nat → List UInt8 → List UInt8
  | 0, _, acc => acc
  | f + 1, v, acc => if v = 0 then acc else H f (v / 16) (hx (v % 16) :: acc)
def hexS (n : Nat) : List UInt8 := if n = 0 then [48] else H 6 n []
def D : Nat → Nat → List UInt8
  | 0, _ => []
  | f + 1, n => if n < 10 then [UInt8.ofNat (48 + n)] else D f (n / 10) ++ [UInt8.ofNat (48 + n % 10)]
theorem hx_digit (d : Nat) (h : d < 16) : Tk.digitOf 16 (hx d) = some d := by
  have a : (List.range 16).all (fun d => decide (Tk.digitOf 16 (hx d) = some d)) = true := by kernel_rfl
  exact of_decide_eq_true (List.all_eq_true.1 a d (List.mem_range.2 h))
theorem hx_cut (d : Nat) (h : d < 16) : (⟨#[48, 49, 50, 51, 52, 53, 54, 55, 56, 57, 97, 98, 99, 100, 101, 102]⟩ : ByteArray).extract d (d + 1) = Tk.bs [hx d] := by
  have a : (List.range 16).all (fun d => decide ((⟨#[48, 49, 50, 51, 52, 53, 54, 55, 56, 57, 97, 98, 99, 100, 101, 102]⟩ : ByteArray).extract d (d + 1) = Tk.bs [hx d])) = true := by kernel_rfl
  exact of_decide_eq_true (List.all_eq_true.1 a d (List.mem_range.2 h))
theorem hx_plain (d : Nat) (h : d < 16) : hx d ≠ 59 ∧ hx d ≠ 38 := by
  have a : (List.range 16).all (fun d => decide (hx d ≠ 59 ∧ hx d ≠ 38)) = true := by kernel_rfl
  exact of_decide_eq_true (List.all_eq_true.1 a d (List.mem_range.2 h))
theorem dd_digit (d : Nat) (h : d < 10) : Tk.digitOf 10 (UInt8.ofNat (48 + d)) = some d := by
  have a : (List.range 10).all (fun d => decide (Tk.digitOf 10 (UInt8.ofNat (48 + d)) = some d)) = true := by kernel_rfl
  exact of_decide_eq_true (List.all_eq_true.1 a d (List.mem_range.2 h))
theorem dd_plain (d : Nat) (h : d < 10) : UInt8.ofNat (48 + d) ≠ 59 ∧ UInt8.ofNat (48 + d) ≠ 120 := by
  have a : (List.range 10).all (fun d => decide (UInt8.ofNat (48 + d) ≠ 59 ∧ UInt8.ofNat (48 + d) ≠ 120)) = true := by kernel_rfl
  exact of_decide_eq_true (List.all_eq_true.1 a d (List.mem_range.2 h))
theorem number_append (b : Nat) : ∀ (l r : List UInt8) (v : Nat), Tk.number b v (l ++ r) = (Tk.number b v l).bind fun w => Tk.number b w r
  | [], r, v => by rw [List.nil_append, Tk.number, Option.bind_some]
  | c :: l, r, v => by
    rw [List.cons_append, Tk.number, Tk.number]
    cases Tk.digitOf b c with
    | none => rfl
    | some d => rw [Option.bind_some, Option.bind_some, number_append b l r]
theorem number_one (b : Nat) (c : UInt8) (v d : Nat) (h : Tk.digitOf b c = some d) : Tk.number b v [c] = some (v * b + d) := by
  rw [Tk.number, h, Option.bind_some, Tk.number]
theorem H_acc : ∀ (f v : Nat) (acc : List UInt8), H f v acc = H f v [] ++ acc
  | 0, _, _ => rfl
  | f + 1, v, acc => by
    rw [H, H]
    by_cases h : v = 0
    · rw [if_pos h, if_pos h]; rfl
    · rw [if_neg h, if_neg h, H_acc f (v / 16) (_ :: acc), H_acc f (v / 16) [_], List.append_assoc]; rfl
theorem H_number : ∀ (f v : Nat), v < 16 ^ f → Tk.number 16 0 (H f v []) = some v
  | 0, v, h => by
    have : v = 0 := by rw [Nat.pow_zero] at h; omega
    rw [this]; rfl
  | f + 1, v, h => by
    rw [H]
    by_cases h0 : v = 0
    · rw [if_pos h0, h0]; rfl
    · have h1 : v / 16 < 16 ^ f := by rw [Nat.pow_succ] at h; exact Nat.div_lt_of_lt_mul (by rw [Nat.mul_comm]; exact h)
      rw [if_neg h0, H_acc, number_append, H_number f (v / 16) h1, Option.bind_some, number_one 16 _ _ _ (hx_digit (v % 16) (Nat.mod_lt _ (by decide)))]
      congr 1
      clear h h1
      omega
theorem H_len : ∀ (f v : Nat) (acc : List UInt8), (H f v acc).length ≤ f + acc.length
  | 0, _, _ => by rw [H]; omega
  | f + 1, v, acc => by
    rw [H]
    split
    · omega
    · have := H_len f (v / 16) (hx (v % 16) :: acc)
      rw [List.length_cons] at this
      omega
theorem H_plain : ∀ (f v : Nat) (acc : List UInt8), (∀ c ∈ acc, c ≠ 59) → ∀ c ∈ H f v acc, c ≠ 59
  | 0, _, _, h, c, hc => h c hc
  | f + 1, v, acc, h, c, hc => by
    rw [H] at hc
    split at hc
    · exact h c hc
    · refine H_plain f _ _ (fun d hd => ?_) c hc
      rcases List.mem_cons.1 hd with rfl | hd
      · exact (hx_plain _ (Nat.mod_lt _ (by decide))).1
      · exact h d hd
theorem H_ne (f v : Nat) (acc : List UInt8) (h : acc ≠ []) : H f v acc ≠ [] := by
  rw [H_acc]
  intro e
  exact h (List.append_eq_nil_iff.1 e).2
theorem hexS_told (n : Nat) (h : n < 1200000) : Tk.number 16 0 (hexS n) = some n ∧ (hexS n).length ≤ 6 ∧ hexS n ≠ [] ∧ ∀ c ∈ hexS n, c ≠ 59 := by
  unfold hexS
  by_cases h0 : n = 0
  · rw [if_pos h0, h0]
    exact ⟨rfl, by decide, by decide, by decide⟩
  · rw [if_neg h0]
    refine ⟨H_number 6 n (show n < 16 ^ 6 by omega), H_len 6 n [], ?_, H_plain 6 n [] (fun c hc => absurd hc (by simp))⟩
    rw [H, if_neg h0]
    exact H_ne _ _ _ (by simp)
theorem D_ne (f n : Nat) : D (f + 1) n ≠ [] := by
  rw [D]; split <;> simp
theorem D_number : ∀ (f n : Nat), n < 10 ^ f → Tk.number 10 0 (D f n) = some n
  | 0, n, h => by
    have : n = 0 := by rw [Nat.pow_zero] at h; omega
    rw [this]; rfl
  | f + 1, n, h => by
    rw [D]
    by_cases h0 : n < 10
    · rw [if_pos h0, number_one 10 _ _ _ (dd_digit n h0), Nat.zero_mul, Nat.zero_add]
    · have h1 : n / 10 < 10 ^ f := by rw [Nat.pow_succ] at h; exact Nat.div_lt_of_lt_mul (by rw [Nat.mul_comm]; exact h)
      rw [if_neg h0, number_append, D_number f (n / 10) h1, Option.bind_some, number_one 10 _ _ _ (dd_digit (n % 10) (Nat.mod_lt _ (by decide)))]
      congr 1
      clear h h1
      omega
theorem D_plain : ∀ (f n : Nat), ∀ c ∈ D f n, c ≠ 59 ∧ c ≠ 120
  | 0, _, c, hc => by simp [D] at hc
  | f + 1, n, c, hc => by
    rw [D] at hc
    split at hc
    · rename_i h
      rw [List.mem_singleton] at hc
      rw [hc]
      exact dd_plain n h
    · rcases List.mem_append.1 hc with hc | hc
      · exact D_plain f _ c hc
      · rw [List.mem_singleton] at hc
        rw [hc]
        exact dd_plain _ (Nat.mod_lt _ (by decide))
theorem str1 (x : Int) (n : Nat) (h : x = (n : Int)) : strOfNums [x] = Tk.bs [UInt8.ofNat n] := by
  subst h; rfl
theorem D_told : ∀ (f n : Nat), f ≤ 10 → n < 10 ^ (f + 1) → newelhelp_Digits.f (f + 1) (n : Int) = some (Tk.bs (D (f + 1) n)) ∧ (D (f + 1) n).length ≤ f + 1
  | f, n, hf, h => by
    have hN : n < 100000000000 := Nat.lt_of_lt_of_le h (Nat.le_trans (Nat.pow_le_pow_right (by decide) (show f + 1 ≤ 11 by omega)) (by decide))
    rw [newelhelp_Digits.f, D]
    by_cases h0 : n < 10
    · have hw : wrap64 (48 + (n : Int)) % 256 = ((48 + n : Nat) : Int) := by unfold wrap64; omega
      rw [if_pos (by omega), if_pos h0, str1 _ _ hw]
      exact ⟨rfl, by simp⟩
    · rw [if_neg (by omega), if_neg h0]
      cases f with
      | zero => exact absurd h (by simpa using h0)
      | succ f =>
        have h1 : n / 10 < 10 ^ (f + 1) := by rw [Nat.pow_succ] at h; exact Nat.div_lt_of_lt_mul (by rw [Nat.mul_comm]; exact h)
        obtain ⟨e1, e2⟩ := D_told f (n / 10) (by omega) h1
        clear h h1
        have hd : wrap64 (Int.tdiv (n : Int) 10) = ((n / 10 : Nat) : Int) := by rw [Int.tdiv_eq_ediv_of_nonneg (by omega)]; unfold wrap64; omega
        have hm : wrap64 (48 + Int.tmod (n : Int) 10) % 256 = ((48 + n % 10 : Nat) : Int) := by rw [Int.tmod_eq_emod_of_nonneg (by omega)]; unfold wrap64; omega
        rw [hd, e1, Option.bind_some, Option.bind_some, str1 _ _ hm, bs_size, bs_size, bs_append]
        have hl : (D (f + 1) (n / 10)).length + [UInt8.ofNat (48 + n % 10)].length ≤ 9223372036854775807 := by simp only [List.length_cons, List.length_nil]; omega
        rw [if_pos hl]
        exact ⟨rfl, by simp only [List.length_append, List.length_cons, List.length_nil]; omega⟩
theorem entities_one (x : List UInt8) (h : ∀ c ∈ x, c ≠ 59) : entsV (38 :: (x ++ [59])) = match Tk.entity x with | some c => (c, 0) | none => ([], 5) := by
  unfold entsV
  cases he : Tk.entity x with
  | some c =>
    rw [entities_amp x c [] h he]
    show (match (Tk.entities []).map (fun r => c ++ r) with | some t => (t, (0 : Int)) | none => ([], 5)) = (c, 0)
    have : Tk.entities [] = some [] := rfl
    rw [this]; simp
  | none =>
    have h1 : Tk.upto [38] (38 :: (x ++ [59])) = some ([], x ++ [59]) := upto_cons_eq 38 _
    have h2 : Tk.upto [59] (x ++ 59 :: []) = some (x, []) := upto_split h
    have : Tk.entities (38 :: (x ++ [59])) = none := by
      unfold Tk.entities
      rw [ents_step h1 h2, he]; rfl
    rw [this]
theorem ent_10 (x : List UInt8) (h0 : x ≠ []) (hx : ∀ c ∈ x, c ≠ 120) : Tk.entity (35 :: x) = Tk.numbered 10 x := by
  cases x with
  | nil => exact absurd rfl h0
  | cons c r =>
    have hc : c ≠ 120 := hx c (by simp)
    unfold Tk.entity
    split
    · rename_i heq
      simp only [List.cons.injEq, true_and] at heq
      exact absurd heq.1 hc
    · rename_i heq
      simp only [List.cons.injEq, true_and] at heq
      rw [heq]
    · rename_i h2
      exact absurd rfl (h2 (c :: r))
theorem ent_16 (x : List UInt8) : Tk.entity (35 :: 120 :: x) = Tk.numbered 16 x := rfl
theorem numb_is (b n : Nat) (x : List UInt8) (h0 : x ≠ []) (hn : Tk.number b 0 x = some n) : Tk.numbered b x = if x.length ≤ 6 ∧ Tk.may n = true then some ((Utf8.encode (n : Int)).data.toList) else none := by
  unfold Tk.numbered
  rw [hn, Option.bind_some]
  obtain ⟨m, hm⟩ : ∃ m, m = Tk.may n := ⟨_, rfl⟩
  rw [← hm]
  by_cases hl : x.length ≤ 6
  · rw [if_neg (by rintro (h | h); exact h0 h; omega)]
    cases m with
    | true => rw [if_pos rfl, if_pos ⟨hl, rfl⟩]
    | false => rw [if_neg (by decide), if_neg (fun h => by cases h.2)]
  · rw [if_pos (.inr (by omega)), if_neg (fun h => hl h.1)]
theorem ent_dec (n : Nat) (h : n < 1200000) : Tk.entity (35 :: D 7 n) = if (D 7 n).length ≤ 6 ∧ Tk.may n = true then some ((Utf8.encode (n : Int)).data.toList) else none := by
  have hn := D_number 7 n (show n < 10 ^ 7 by omega)
  have hne := D_ne 6 n
  have hp := fun c hc => (D_plain 7 n c hc).2
  revert hn hne hp
  generalize D 7 n = x
  intro hn hne hp
  rw [ent_10 x hne hp]
  exact numb_is 10 n x hne hn
theorem ent_hex (n : Nat) (h : n < 1200000) : Tk.entity (35 :: 120 :: hexS n) = if Tk.may n = true then some ((Utf8.encode (n : Int)).data.toList) else none := by
  obtain ⟨h1, h2, h3, _⟩ := hexS_told n h
  revert h1 h2 h3
  generalize hexS n = x
  intro h1 h2 h3
  rw [ent_16, numb_is 16 n x h3 h1]
  obtain ⟨m, hm⟩ : ∃ m, m = Tk.may n := ⟨_, rfl⟩
  rw [← hm]
  cases m with
  | true => rw [if_pos ⟨h2, rfl⟩, if_pos rfl]
  | false => rw [if_neg (fun h => by cases h.2), if_neg (by decide)]
theorem runes_one (v : Nat) (h : Tk.may v = true) : runesOf (Utf8.encode (v : Int)) = [(v : Int)] ∧ (Utf8.encode (v : Int)).size ≤ 4 := by
  rw [may_iff] at h
  have hv : Utf8.valid (v : Int) = true := by
    unfold Utf8.valid
    simp only [Bool.or_eq_true, Bool.and_eq_true, decide_eq_true_eq]
    omega
  have key : ∀ s : ByteArray, 0 < s.size → Utf8.decode s 0 = (v, s.size) → runesOf s = [(v : Int)] := by
    intro s hs hd
    unfold runesOf
    obtain ⟨m, hm⟩ : ∃ m, s.size = m + 1 := ⟨s.size - 1, by omega⟩
    rw [hm, runesL, if_pos hs, hd]
    dsimp only
    rw [Nat.zero_add]
    cases m with
    | zero => rfl
    | succ m => rw [runesL, if_neg (Nat.lt_irrefl _)]; rfl
  unfold Utf8.encode
  rw [if_pos hv, Int.toNat_natCast]
  dsimp only
  have un : ∀ x, x < 256 → (UInt8.ofNat x).toNat = x := fun x hx => by rw [UInt8.toNat_ofNat']; omega
  by_cases h1 : v < 128
  · rw [if_pos h1]
    refine ⟨key _ (show 0 < 1 by decide) ?_, show 1 ≤ 4 by decide⟩
    unfold Utf8.decode
    have g0 : ((⟨#[UInt8.ofNat v]⟩ : ByteArray).get! (0 + 0)).toNat = v := un v (by omega)
    simp only [g0]
    rw [if_pos (show v < 0x80 by omega)]; rfl
  rw [if_neg h1]
  by_cases h2 : v < 2048
  · rw [if_pos (show v < 0x800 from h2)]
    refine ⟨key _ (show 0 < 2 by decide) ?_, show 2 ≤ 4 by decide⟩
    unfold Utf8.decode
    have g0 : ((⟨#[UInt8.ofNat (0xC0 + v / 64), UInt8.ofNat (0x80 + v % 64)]⟩ : ByteArray).get! (0 + 0)).toNat = 0xC0 + v / 64 := un _ (by omega)
    have g1 : ((⟨#[UInt8.ofNat (0xC0 + v / 64), UInt8.ofNat (0x80 + v % 64)]⟩ : ByteArray).get! (0 + 1)).toNat = 0x80 + v % 64 := un _ (by omega)
    have z : (⟨#[UInt8.ofNat (0xC0 + v / 64), UInt8.ofNat (0x80 + v % 64)]⟩ : ByteArray).size = 2 := rfl
    have hc : (0xC0 + v / 64) % 32 * 64 + (0x80 + v % 64) % 64 = v := by omega
    simp only [g0, g1, z]
    rw [if_neg (by omega), show (0xC0 + v / 64) / 32 = 6 by omega, show (0x80 + v % 64) / 64 = 2 by omega, if_pos (by decide), hc, if_pos (show v ≥ 0x80 by omega)]
  rw [if_neg (show ¬ v < 0x800 from h2)]
  by_cases h3 : v < 65536
  · rw [if_pos (show v < 0x10000 from h3)]
    refine ⟨key _ (show 0 < 3 by decide) ?_, show 3 ≤ 4 by decide⟩
    unfold Utf8.decode
    have g0 : ((⟨#[UInt8.ofNat (0xE0 + v / 4096), UInt8.ofNat (0x80 + v / 64 % 64), UInt8.ofNat (0x80 + v % 64)]⟩ : ByteArray).get! (0 + 0)).toNat = 0xE0 + v / 4096 := un _ (by omega)
    have g1 : ((⟨#[UInt8.ofNat (0xE0 + v / 4096), UInt8.ofNat (0x80 + v / 64 % 64), UInt8.ofNat (0x80 + v % 64)]⟩ : ByteArray).get! (0 + 1)).toNat = 0x80 + v / 64 % 64 := un _ (by omega)
    have g2 : ((⟨#[UInt8.ofNat (0xE0 + v / 4096), UInt8.ofNat (0x80 + v / 64 % 64), UInt8.ofNat (0x80 + v % 64)]⟩ : ByteArray).get! (0 + 2)).toNat = 0x80 + v % 64 := un _ (by omega)
    have z : (⟨#[UInt8.ofNat (0xE0 + v / 4096), UInt8.ofNat (0x80 + v / 64 % 64), UInt8.ofNat (0x80 + v % 64)]⟩ : ByteArray).size = 3 := rfl
    simp only [g0, g1, g2, z]
    have hc : (0xE0 + v / 4096) % 16 * 4096 + (0x80 + v / 64 % 64) % 64 * 64 + (0x80 + v % 64) % 64 = v := by omega
    rw [if_neg (by omega), show (0xE0 + v / 4096) / 32 = 7 by omega, show (0xE0 + v / 4096) / 16 = 14 by omega, show (0x80 + v / 64 % 64) / 64 = 2 by omega, show (0x80 + v % 64) / 64 = 2 by omega, if_neg (by decide), if_pos (by decide), hc, hv, decide_eq_true (show v ≥ 0x800 by omega), if_pos (show (true && true) = true from rfl)]
  rw [if_neg (show ¬ v < 0x10000 from h3)]
  refine ⟨key _ (show 0 < 4 by decide) ?_, show 4 ≤ 4 by decide⟩
  unfold Utf8.decode
  have g0 : ((⟨#[UInt8.ofNat (0xF0 + v / 262144), UInt8.ofNat (0x80 + v / 4096 % 64), UInt8.ofNat (0x80 + v / 64 % 64), UInt8.ofNat (0x80 + v % 64)]⟩ : ByteArray).get! (0 + 0)).toNat = 0xF0 + v / 262144 := un _ (by omega)
  have g1 : ((⟨#[UInt8.ofNat (0xF0 + v / 262144), UInt8.ofNat (0x80 + v / 4096 % 64), UInt8.ofNat (0x80 + v / 64 % 64), UInt8.ofNat (0x80 + v % 64)]⟩ : ByteArray).get! (0 + 1)).toNat = 0x80 + v / 4096 % 64 := un _ (by omega)
  have g2 : ((⟨#[UInt8.ofNat (0xF0 + v / 262144), UInt8.ofNat (0x80 + v / 4096 % 64), UInt8.ofNat (0x80 + v / 64 % 64), UInt8.ofNat (0x80 + v % 64)]⟩ : ByteArray).get! (0 + 2)).toNat = 0x80 + v / 64 % 64 := un _ (by omega)
  have g3 : ((⟨#[UInt8.ofNat (0xF0 + v / 262144), UInt8.ofNat (0x80 + v / 4096 % 64), UInt8.ofNat (0x80 + v / 64 % 64), UInt8.ofNat (0x80 + v % 64)]⟩ : ByteArray).get! (0 + 3)).toNat = 0x80 + v % 64 := un _ (by omega)
  have z : (⟨#[UInt8.ofNat (0xF0 + v / 262144), UInt8.ofNat (0x80 + v / 4096 % 64), UInt8.ofNat (0x80 + v / 64 % 64), UInt8.ofNat (0x80 + v % 64)]⟩ : ByteArray).size = 4 := rfl
  simp only [g0, g1, g2, g3, z]
  have hc : (0xF0 + v / 262144) % 8 * 262144 + (0x80 + v / 4096 % 64) % 64 * 4096 + (0x80 + v / 64 % 64) % 64 * 64 + (0x80 + v % 64) % 64 = v := by omega
  rw [if_neg (by omega), show (0xF0 + v / 262144) / 32 = 7 by omega, show (0xF0 + v / 262144) / 16 = 15 by omega, show (0xF0 + v / 262144) / 8 = 30 by omega, show (0x80 + v / 4096 % 64) / 64 = 2 by omega, show (0x80 + v / 64 % 64) / 64 = 2 by omega, show (0x80 + v % 64) / 64 = 2 by omega, if_neg (by decide), if_neg (by decide), if_pos (by decide), hc, hv, decide_eq_true (show v ≥ 0x10000 by omega), if_pos (show (true && true) = true from rfl)]
theorem hex_loop (n : Nat) (hn : n < 1200000) (R : Option Bool) (hR : ∀ k, 8 ≤ k → newellaw02_TokenNumbers.l0 k (n : Int) (Tk.bs (hexS n)) 0 = R) : ∀ (f v : Nat) (acc : List UInt8), v < 16 ^ f → f ≤ 6 → acc.length ≤ 6 - f → (acc ≠ [] ∨ v ≠ 0) → H f v acc = hexS n → newellaw02_TokenNumbers.l0 (8 + f) (n : Int) (Tk.bs acc) (v : Int) = R := by
  intro f
  induction f with
  | zero =>
    intro v acc hv _ _ h0 he
    have : v = 0 := by rw [Nat.pow_zero] at hv; omega
    subst this
    rw [H] at he
    rw [he]
    exact hR 8 (Nat.le_refl _)
  | succ f ih =>
    intro v acc hv hf hl h0 he
    by_cases hz : v = 0
    · subst hz
      rw [H, if_pos rfl] at he
      rw [he]
      exact hR _ (by omega)
    · have h1 : v / 16 < 16 ^ f := by rw [Nat.pow_succ] at hv; exact Nat.div_lt_of_lt_mul (by rw [Nat.mul_comm]; exact hv)
      have hb : v < 16777216 := Nat.lt_of_lt_of_le hv (Nat.le_trans (Nat.pow_le_pow_right (by decide) hf) (by decide))
      rw [H, if_neg hz] at he
      have hi := ih (v / 16) (hx (v % 16) :: acc) h1 (by omega) (by rw [List.length_cons]; omega) (.inl (by simp)) he
      clear hv h1 he ih
      have hm : Int.tmod (v : Int) 16 = ((v % 16 : Nat) : Int) := by rw [Int.tmod_eq_emod_of_nonneg (by omega)]; omega
      have hd : wrap64 (Int.tdiv (v : Int) 16) = ((v / 16 : Nat) : Int) := by rw [Int.tdiv_eq_ediv_of_nonneg (by omega)]; unfold wrap64; omega
      have hw : wrap64 (((v % 16 : Nat) : Int) + 1) = ((v % 16 + 1 : Nat) : Int) := by unfold wrap64; omega
      rw [show 8 + (f + 1) = (8 + f) + 1 by omega, newellaw02_TokenNumbers.l0, if_pos (by omega), hm, hw, hd, if_pos (by omega), if_pos (by omega), if_pos (by omega), Int.toNat_natCast, Int.toNat_natCast, hx_cut _ (Nat.mod_lt _ (by decide)), bs_size, bs_size, if_pos (by simp only [List.length_cons, List.length_nil]; omega), bs_append]
      exact hi
theorem last_of (n : Nat) (hn : n < 1200000) (k : Nat) (X Y : List UInt8) (h2 : Y.length ≤ 6) (h3 : Y ≠ []) (h4 : ∀ c ∈ Y, c ≠ 59) (d1 : newelhelp_Digits.f (k + 7) (n : Int) = some (Tk.bs X)) (d2 : X.length ≤ 7) (d3 : ∀ c ∈ X, c ≠ 59) (hX : Tk.entity (35 :: X) = if X.length ≤ 6 ∧ Tk.may n = true then some ((Utf8.encode (n : Int)).data.toList) else none) (hY : Tk.entity (35 :: 120 :: Y) = if Tk.may n = true then some ((Utf8.encode (n : Int)).data.toList) else none) : newellaw02_TokenNumbers.l0 (k + 8) (n : Int) (Tk.bs Y) 0 = some true := by
  have hS : ∀ (x c : List UInt8), x.length ≤ 8 → (∀ c ∈ x, c ≠ 59) → Tk.entity x = some c → token_Entities.f (Tk.bs (38 :: (x ++ [59]))) = some (Tk.bs c, 0) := by
    intro x c hx h he
    have := entities_one x h
    rw [he] at this
    unfold token_Entities.f
    rw [if_pos (by rw [bs_size]; simp only [List.length_cons, List.length_append, List.length_nil]; omega)]
    show some (Tk.bs (entsV (38 :: (x ++ [59]))).1, (entsV (38 :: (x ++ [59]))).2) = _
    rw [this]
  have hN : ∀ (x : List UInt8), x.length ≤ 8 → (∀ c ∈ x, c ≠ 59) → Tk.entity x = none → token_Entities.f (Tk.bs (38 :: (x ++ [59]))) = some (Tk.bs [], 5) := by
    intro x hx h he
    have := entities_one x h
    rw [he] at this
    unfold token_Entities.f
    rw [if_pos (by rw [bs_size]; simp only [List.length_cons, List.length_append, List.length_nil]; omega)]
    show some (Tk.bs (entsV (38 :: (x ++ [59]))).1, (entsV (38 :: (x ++ [59]))).2) = _
    rw [this]
  have pX : ∀ c ∈ 35 :: X, c ≠ 59 := fun c hc => by
    rcases List.mem_cons.1 hc with rfl | hc
    · decide
    · exact d3 c hc
  have pY : ∀ c ∈ 35 :: 120 :: Y, c ≠ 59 := fun c hc => by
    rcases List.mem_cons.1 hc with rfl | hc
    · decide
    · rcases List.mem_cons.1 hc with rfl | hc
      · decide
      · exact h4 c hc
  have lX : (35 :: X).length ≤ 8 := by rw [List.length_cons]; omega
  have lY : (35 :: 120 :: Y).length ≤ 8 := by rw [List.length_cons, List.length_cons]; omega
  have z1 : ((⟨#[38, 35]⟩ : ByteArray) ++ Tk.bs (X)) ++ (⟨#[59]⟩ : ByteArray) = Tk.bs (38 :: (35 :: X ++ [59])) := by
    rw [show (⟨#[38, 35]⟩ : ByteArray) = Tk.bs [38, 35] from rfl, show (⟨#[59]⟩ : ByteArray) = Tk.bs [59] from rfl, bs_append, bs_append]; rfl
  have z2 : ((⟨#[38, 35, 120]⟩ : ByteArray) ++ Tk.bs (Y)) ++ (⟨#[59]⟩ : ByteArray) = Tk.bs (38 :: (35 :: 120 :: Y ++ [59])) := by
    rw [show (⟨#[38, 35, 120]⟩ : ByteArray) = Tk.bs [38, 35, 120] from rfl, show (⟨#[59]⟩ : ByteArray) = Tk.bs [59] from rfl, bs_append, bs_append]; rfl
  have s1 : ((⟨#[38, 35]⟩ : ByteArray) ++ Tk.bs (X)).size + 1 ≤ 9223372036854775807 := by
    rw [show (⟨#[38, 35]⟩ : ByteArray) = Tk.bs [38, 35] from rfl, bs_append, bs_size]; simp only [List.length_append, List.length_cons, List.length_nil]; omega
  have s2 : ((⟨#[38, 35, 120]⟩ : ByteArray) ++ Tk.bs (Y)).size + 1 ≤ 9223372036854775807 := by
    rw [show (⟨#[38, 35, 120]⟩ : ByteArray) = Tk.bs [38, 35, 120] from rfl, bs_append, bs_size]; simp only [List.length_append, List.length_cons, List.length_nil]; omega
  have sd := bs_size (X)
  have sh := bs_size (Y)
  have hmi := may_iff n
  obtain ⟨m, hm⟩ : ∃ m, m = Tk.may n := ⟨_, rfl⟩
  rw [← hm] at hX hY hmi
  have small : (X).length ≤ 6 ∨ 6 < (X).length := by omega
  obtain ⟨L, hL⟩ : ∃ L, L = (X).length := ⟨_, rfl⟩
  rw [← hL] at hX sd small d2
  have fin : ∀ (A : ByteArray) (x : Int) (B : ByteArray) (y : Int), token_Entities.f (((⟨#[38, 35]⟩ : ByteArray) ++ Tk.bs (X)) ++ (⟨#[59]⟩ : ByteArray)) = some (A, x) → token_Entities.f (((⟨#[38, 35, 120]⟩ : ByteArray) ++ Tk.bs (Y)) ++ (⟨#[59]⟩ : ByteArray)) = some (B, y) → newellaw02_TokenNumbers.j1 (k + 7) (n : Int) (Tk.bs (X)) A x B y m = some true → newellaw02_TokenNumbers.l0 (k + 8) (n : Int) (Tk.bs (Y)) 0 = some true := by
    intro A x B y f1 f2 hj
    rw [newellaw02_TokenNumbers.l0, if_neg (by decide), if_neg (by rw [bs_toList]; exact h3), d1, Option.bind_some, sd, if_pos (by omega), if_pos s1, f1, Option.bind_some, sh, if_pos (by omega), if_pos s2, f2, Option.bind_some]
    dsimp only
    cases m with
    | true =>
      have hmm := hmi.1 rfl
      by_cases c1 : n < 55296
      · rw [if_pos (by omega), if_pos (by omega)]
        by_cases c2 : 32 ≤ n
        · rw [if_pos (by omega)]; exact hj
        · rw [if_neg (by omega)]
          by_cases c3 : n = 9
          · rw [if_pos (by omega)]; exact hj
          · rw [if_neg (by omega)]
            by_cases c4 : n = 10
            · rw [if_pos (by omega)]; exact hj
            · rw [if_neg (by omega), beq_iff_eq.2 (show (n : Int) = 13 by omega)]; exact hj
      · rw [if_pos (by omega), if_neg (by omega), if_pos (by omega), if_pos (by omega)]; exact hj
    | false =>
      have hmm : ¬ (n = 9 ∨ n = 10 ∨ n = 13 ∨ (32 ≤ n ∧ n ≤ 1114111 ∧ (n < 55296 ∨ 57343 < n))) := fun h => absurd (hmi.2 h) (by decide)
      by_cases c0 : n ≤ 1114111
      · rw [if_pos (by omega)]
        by_cases c1 : n < 55296
        · rw [if_pos (by omega), if_neg (by omega), if_neg (by omega), if_neg (by omega), beq_eq_false_iff_ne.2 (show (n : Int) ≠ 13 by omega)]; exact hj
        · rw [if_neg (by omega), if_neg (by omega)]; exact hj
      · rw [if_neg (by omega)]; exact hj
  rw [z1, z2] at fin
  cases m with
  | false =>
    rw [if_neg (show ¬ (L ≤ 6 ∧ (false : Bool) = true) from fun h => by cases h.2)] at hX
    rw [if_neg (show ¬ ((false : Bool) = true) by decide)] at hY
    refine fin _ _ _ _ (hN _ lX pX hX) (hN _ lY pY hY) ?_
    rw [newellaw02_TokenNumbers.j1, if_neg (by decide), awake_nums, Option.bind_some, if_pos rfl, if_pos rfl]
    rfl
  | true =>
    obtain ⟨r1, r2⟩ := runes_one n hm.symm
    obtain ⟨E, hE⟩ : ∃ E, E = (Utf8.encode (n : Int)).data.toList := ⟨_, rfl⟩
    have hB : Tk.bs E = Utf8.encode (n : Int) := by rw [hE]; exact bs_data _
    rw [← hE] at hX hY
    rw [← hB] at r1 r2
    clear hE hB
    rw [if_pos rfl] at hY
    have hrd : rd [(n : Int)] 0 = (n : Int) := rfl
    have hw : wrap64 (n : Int) = (n : Int) := by unfold wrap64; omega
    have tail : (if (Tk.bs E).size ≤ 1000000 then ((some (runesOf (Tk.bs E) : List Int)).bind fun y228 => ((newellaw02_awake.f).bind fun t231 => (if t231 = true then (if (y228.length : Int) = 1 then (if 0 < (y228.length : Int) then (some ((wrap64 (rd y228 0)) == (n : Int))) else (none)) else (some false)) else (some false)))) else (none)) = some true := by
      rw [if_pos (by omega), Option.bind_some, r1, awake_nums, Option.bind_some, if_pos rfl, if_pos (show (([(n : Int)].length : Nat) : Int) = 1 from rfl), if_pos (show (0 : Int) < (([(n : Int)].length : Nat) : Int) from Int.zero_lt_one), hrd, hw]
      simp
    rcases small with hs | hs
    · rw [if_pos ⟨hs, rfl⟩] at hX
      refine fin _ _ _ _ (hS _ _ lX pX hX) (hS _ _ lY pY hY) ?_
      rw [newellaw02_TokenNumbers.j1, if_pos rfl, if_pos rfl, sd, if_pos (by omega), if_pos rfl, if_pos rfl, if_neg (by omega)]
      exact tail
    · rw [if_neg (show ¬ (L ≤ 6 ∧ (true : Bool) = true) from fun h => by have := h.1; omega)] at hX
      refine fin _ _ _ _ (hN _ lX pX hX) (hS _ _ lY pY hY) ?_
      rw [newellaw02_TokenNumbers.j1, if_pos rfl, if_pos rfl, sd, if_neg (by omega), if_pos (by omega), if_pos rfl]
      exact tail
theorem last_step (n : Nat) (hn : n < 1200000) (k : Nat) (hk : 8 ≤ k) : newellaw02_TokenNumbers.l0 k (n : Int) (Tk.bs (hexS n)) 0 = some true := by
  obtain ⟨k, rfl⟩ : ∃ m, k = m + 8 := ⟨k - 8, by omega⟩
  obtain ⟨h1, h2, h3, h4⟩ := hexS_told n hn
  obtain ⟨d1, d2⟩ : newelhelp_Digits.f 7 (n : Int) = some (Tk.bs (D 7 n)) ∧ (D 7 n).length ≤ 7 := D_told 6 n (by decide) (show n < 10 ^ (6 + 1) by omega)
  exact last_of n hn k (D 7 n) (hexS n) h2 h3 h4 (at_rounds (newelhelp_Digits.mono _) (by omega) d1) d2 (fun c hc => (D_plain 7 n c hc).1) (ent_dec n hn) (ent_hex n hn)
theorem TokenNumbers : newellaw02_TokenNumbers.Pure := by
  intro a0 ha
  obtain ⟨n, hn, he⟩ : ∃ n : Nat, n < 1200000 ∧ wrap64 (Int.tmod (IntKind.u64.wrap a0) 1200000) = (n : Int) := by
    have h0 : 0 ≤ IntKind.u64.wrap a0 := by rw [IntKind.wrap_u64]; omega
    rw [Int.tmod_eq_emod_of_nonneg h0]
    generalize IntKind.u64.wrap a0 = x at *
    refine ⟨(x % 1200000).toNat, by omega, ?_⟩
    unfold wrap64
    omega
  unfold newellaw02_TokenNumbers.f
  rw [he]
  have hl := hex_loop n hn (some true) (last_step n hn)
  by_cases h0 : n = 0
  · subst h0
    refine ⟨9, ?_⟩
    have := last_step 0 (by decide) 8 (Nat.le_refl _)
    refine Eq.trans ?_ this
    have hm : Int.tmod ((0 : Nat) : Int) 16 = ((0 : Nat) : Int) := rfl
    have hw : wrap64 (((0 : Nat) : Int) + 1) = ((0 + 1 : Nat) : Int) := by unfold wrap64; omega
    have hd : wrap64 (Int.tdiv ((0 : Nat) : Int) 16) = 0 := by rw [show Int.tdiv ((0 : Nat) : Int) 16 = 0 from rfl]; unfold wrap64; omega
    have hc := hx_cut 0 (by decide)
    rw [newellaw02_TokenNumbers.l0, if_neg (by decide), if_pos (show (⟨#[]⟩ : ByteArray).toList = [] from bs_toList []), hm, hw, hd, if_pos (by decide), if_pos (by decide), if_pos (by decide), Int.toNat_natCast, Int.toNat_natCast, hc]
    exact if_pos (by decide)
  · refine ⟨8 + 6, hl 6 n [] (show n < 16 ^ 6 by omega) (Nat.le_refl _) (by simp) (.inr h0) ?_⟩
    unfold hexS
    rw [if_neg h0]
end Go.Proofs.Ytomikblbfappnaa.Pure
