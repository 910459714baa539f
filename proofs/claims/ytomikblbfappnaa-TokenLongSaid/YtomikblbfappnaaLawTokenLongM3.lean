/- Texts put together: what functions of the program compute, and plain words about them. -/
import Derived.Test.YtomikblbfappnaaLawTokenLongM1
import Derived.Test.YtomikblbfappnaaLawTokenLongM2
import Derived.Test.YtomikblbfappnaaProg
import Derived.Test.YtomikblbfappnaaRows
import Derived.ChangeArms
import Derived.Deep.DeepHandedRow
import Derived.Shelf.Vars
import Derived.Below
import Derived.Deep.Draws
import Derived.Deep.AppendLies
import Derived.Maps.AppendAt
import Derived.OwnWalk
import Derived.Laws.BytesArg
import Derived.Laws.MakeOwn
import Derived.Laws.OwnMore
import Derived.Deep.OwnRows
import Derived.Tactics
import Derived.Lib.ConvBytes
import Derived.Laws.Slices
import Derived.WalkKit
import Derived.KernelRfl
import Derived.RowKit3
import Derived.Deep.LoopGhost
import Derived.Deep.QuietTactic
import Derived.BigQuiet
import Derived.WideLaws
import Derived.Deep.DeepCutAuto
import Derived.Deep.CutBlock
import Derived.Deep.RegionHeld3
import Derived.Laws.Rows
import Derived.Lib.AppendStr
import Derived.ArgAppend
import Derived.Laws.IdiomCopy
import Derived.OrdersHeld
import Derived.Laws.BitsLemmas
import Derived.RowKit
namespace Go.Proofs.Ytomikblbfappnaa.Q
open Go.RowKit Go.Proofs.YtomikblbfappnaaW.PrintWords Go.Proofs.YtomikblbfappnaaW.PrintLast Go.Proofs.YtomikblbfappnaaW.Own Go.Proofs.YtomikblbfappnaaW.PrintMore
attribute [local go_sem] max2_int min2_int max_two min_two max_three min_three max_four min_four   -- for this text's walks alone
set_option linter.unusedVariables false
set_option linter.unusedSimpArgs false
set_option maxHeartbeats 20000000
set_option maxRecDepth 100000
theorem behind_le {x l r : List UInt8} (h : Tk.behind x l = some r) : r.length ≤ l.length := behind_len h
theorem token_walk_next.w0 (B g : Nat) {ok : Nat → Prop} (fst : Bool) (l : List UInt8) (res : Option (S32 × List UInt8)) (q : List UInt8) (L : List S32) (w : World) (h : WalkAt w B g ok (Tk.bs l) L) (hG : Glob w) (hl : l.length ≤ 100000) (hL : L.length ≤ 100000) (hok : ∀ k, w.heap.size ≤ k → ok k) (h0 : Tk.behind [60, 33, 45, 45] l = some q) (hx : Tk.comment q = res) :
 Calls Try.prog 25 #[.pointer (some ⟨g, 0, none⟩), .bool fst] w fun e w' => (∀ t r, res = some (t, r) → e = .returned (.bool true) ∧ WalkAt w' B g ok (Tk.bs r) (L ++ [t])) ∧ (res = none → e = .returned (.bool false)) ∧ Below B w w' := by
 have hpos := h.pos
 have HG := Aside0.mk hG
 have HX := Aside0.mk hx
 have H := Aside0.mk h
 have E0 := Aside0.mk h0
 have hlq : q.length ≤ 100000 := Nat.le_trans (behind_le h0) hl
 clear h hG hx h0
 have B0 := Aside0.mk (Below.refl B w)
 have S0 := Aside0.mk (Nat.le_refl w.heap.size)
 go_enter Try.func25, Try.ntmps25
 go_wp2_with (go_at_call 39; refine (token_walk_eat.yesK B g _ [60, 33, 45, 45] q L _ H.out E0.out).mono ?_)
 rintro e w0 ⟨rfl, h1, b1, k1⟩
 have Hn := Aside0.mk h1
 have HGn := Aside0.mk (HG.out.below b1 hpos)
 have Bn := Aside0.mk (B0.out.trans b1)
 have Sn := Aside0.mk (Nat.le_trans S0.out k1.1)
 clear h1 b1 k1 H HG B0 S0
 have H := Hn
 have HG := HGn
 have B0 := Bn
 have S0 := Sn
 clear Hn HGn Bn Sn
 have CF : Calls Try.prog 40 #[.pointer (some ⟨g, 0, none⟩)] w0 fun e w' => (∀ t r, res = some (t, r) → e = .returned (.bool true) ∧ WalkAt w' B g ok (Tk.bs r) (L ++ [t])) ∧ (res = none → e = .returned (.bool false)) ∧ Below B w0 w' := by
  cases hr : res with
  | none =>
   refine (token_walk_comment.no B g q L _ H.out HG.out (by omega) (HX.out.trans hr)).mono ?_
   rintro e w' ⟨rfl, b⟩
   exact ⟨(fun t r h => by cases h), fun _ => rfl, b⟩
  | some p =>
   obtain ⟨t0, r0⟩ := p
   refine (token_walk_comment.yes B g q r0 t0 L _ H.out HG.out (by omega) hL (fun k hk => hok k (Nat.le_trans S0.out hk)) (HX.out.trans hr)).mono ?_
   rintro e w' ⟨rfl, h1, b⟩
   refine ⟨fun t r h => ?_, (fun h => by cases h), b⟩
   obtain ⟨rfl, rfl⟩ := Prod.mk.inj (Option.some.inj h)
   exact ⟨rfl, h1⟩
 have CF1 := Aside0.mk CF
 clear CF
 go_wp2_with (go_at_call 40; refine CF1.out.mono ?_)
 rintro e wz ⟨hy, hn, bz⟩
 have BZ := Aside0.mk (B0.out.trans bz)
 clear bz
 cases hr : res with
 | none =>
  obtain rfl := hn hr
  clear hy hn
  go_wp2
  go_ret
  exact ⟨(fun t r h => by rw [hr] at h; cases h), fun _ => rfl, BZ.out⟩
 | some p =>
  obtain ⟨t0, r0⟩ := p
  obtain ⟨rfl, h1⟩ := hy t0 r0 hr
  have H1 := Aside0.mk h1
  clear hy hn h1
  go_wp2
  go_ret
  refine ⟨fun t r h => ?_, (fun h => by rw [hr] at h; cases h), BZ.out⟩
  rw [hr] at h
  obtain ⟨rfl, rfl⟩ := Prod.mk.inj (Option.some.inj h)
  exact ⟨rfl, H1.out⟩
theorem token_walk_next.w1 (B g : Nat) {ok : Nat → Prop} (fst : Bool) (l : List UInt8) (res : Option (S32 × List UInt8)) (q : List UInt8) (L : List S32) (w : World) (h : WalkAt w B g ok (Tk.bs l) L) (hG : Glob w) (hl : l.length ≤ 100000) (hL : L.length ≤ 100000) (hok : ∀ k, w.heap.size ≤ k → ok k) (h0 : Tk.behind [60, 33, 45, 45] l = none) (h1 : Tk.behind [60, 33, 91, 67, 68, 65, 84, 65, 91] l = some q) (hx : Tk.data q = res) :
 Calls Try.prog 25 #[.pointer (some ⟨g, 0, none⟩), .bool fst] w fun e w' => (∀ t r, res = some (t, r) → e = .returned (.bool true) ∧ WalkAt w' B g ok (Tk.bs r) (L ++ [t])) ∧ (res = none → e = .returned (.bool false)) ∧ Below B w w' := by
 have hpos := h.pos
 have HG := Aside0.mk hG
 have HX := Aside0.mk hx
 have H := Aside0.mk h
 have E0 := Aside0.mk h0
 have E1 := Aside0.mk h1
 have hlq : q.length ≤ 100000 := Nat.le_trans (behind_le h1) hl
 clear h hG hx h0 h1
 have B0 := Aside0.mk (Below.refl B w)
 have S0 := Aside0.mk (Nat.le_refl w.heap.size)
 go_enter Try.func25, Try.ntmps25
 go_wp2_with (go_at_call 39; refine (token_walk_eat.noK B g _ [60, 33, 45, 45] L _ H.out E0.out).mono ?_)
 rintro e w0 ⟨rfl, h1, b1, k1⟩
 have Hn := Aside0.mk h1
 have HGn := Aside0.mk (HG.out.below b1 hpos)
 have Bn := Aside0.mk (B0.out.trans b1)
 have Sn := Aside0.mk (Nat.le_trans S0.out k1.1)
 clear h1 b1 k1 H HG B0 S0
 have H := Hn
 have HG := HGn
 have B0 := Bn
 have S0 := Sn
 clear Hn HGn Bn Sn
 go_wp2_with (go_at_call 39; refine (token_walk_eat.yesK B g _ [60, 33, 91, 67, 68, 65, 84, 65, 91] q L _ H.out E1.out).mono ?_)
 rintro e w1 ⟨rfl, h1, b1, k1⟩
 have Hn := Aside0.mk h1
 have HGn := Aside0.mk (HG.out.below b1 hpos)
 have Bn := Aside0.mk (B0.out.trans b1)
 have Sn := Aside0.mk (Nat.le_trans S0.out k1.1)
 clear h1 b1 k1 H HG B0 S0
 have H := Hn
 have HG := HGn
 have B0 := Bn
 have S0 := Sn
 clear Hn HGn Bn Sn
 have CF : Calls Try.prog 41 #[.pointer (some ⟨g, 0, none⟩)] w1 fun e w' => (∀ t r, res = some (t, r) → e = .returned (.bool true) ∧ WalkAt w' B g ok (Tk.bs r) (L ++ [t])) ∧ (res = none → e = .returned (.bool false)) ∧ Below B w1 w' := by
  cases hr : res with
  | none =>
   refine (token_walk_data.no B g q L _ H.out HG.out (by omega) (HX.out.trans hr)).mono ?_
   rintro e w' ⟨rfl, b⟩
   exact ⟨(fun t r h => by cases h), fun _ => rfl, b⟩
  | some p =>
   obtain ⟨t0, r0⟩ := p
   refine (token_walk_data.yes B g q r0 t0 L _ H.out HG.out (by omega) hL (fun k hk => hok k (Nat.le_trans S0.out hk)) (HX.out.trans hr)).mono ?_
   rintro e w' ⟨rfl, h1, b⟩
   refine ⟨fun t r h => ?_, (fun h => by cases h), b⟩
   obtain ⟨rfl, rfl⟩ := Prod.mk.inj (Option.some.inj h)
   exact ⟨rfl, h1⟩
 have CF1 := Aside0.mk CF
 clear CF
 go_wp2_with (go_at_call 41; refine CF1.out.mono ?_)
 rintro e wz ⟨hy, hn, bz⟩
 have BZ := Aside0.mk (B0.out.trans bz)
 clear bz
 cases hr : res with
 | none =>
  obtain rfl := hn hr
  clear hy hn
  go_wp2
  go_ret
  exact ⟨(fun t r h => by rw [hr] at h; cases h), fun _ => rfl, BZ.out⟩
 | some p =>
  obtain ⟨t0, r0⟩ := p
  obtain ⟨rfl, h1⟩ := hy t0 r0 hr
  have H1 := Aside0.mk h1
  clear hy hn h1
  go_wp2
  go_ret
  refine ⟨fun t r h => ?_, (fun h => by rw [hr] at h; cases h), BZ.out⟩
  rw [hr] at h
  obtain ⟨rfl, rfl⟩ := Prod.mk.inj (Option.some.inj h)
  exact ⟨rfl, H1.out⟩
theorem token_walk_next.w2 (B g : Nat) {ok : Nat → Prop} (fst : Bool) (l : List UInt8) (res : Option (S32 × List UInt8)) (q : List UInt8) (L : List S32) (w : World) (h : WalkAt w B g ok (Tk.bs l) L) (hG : Glob w) (hl : l.length ≤ 100000) (hL : L.length ≤ 100000) (hok : ∀ k, w.heap.size ≤ k → ok k) (h0 : Tk.behind [60, 33, 45, 45] l = none) (h1 : Tk.behind [60, 33, 91, 67, 68, 65, 84, 65, 91] l = none) (h2 : Tk.behind [60, 63] l = some q) (hx : Tk.prolog fst q = res) :
 Calls Try.prog 25 #[.pointer (some ⟨g, 0, none⟩), .bool fst] w fun e w' => (∀ t r, res = some (t, r) → e = .returned (.bool true) ∧ WalkAt w' B g ok (Tk.bs r) (L ++ [t])) ∧ (res = none → e = .returned (.bool false)) ∧ Below B w w' := by
 have hpos := h.pos
 have HG := Aside0.mk hG
 have HX := Aside0.mk hx
 have H := Aside0.mk h
 have E0 := Aside0.mk h0
 have E1 := Aside0.mk h1
 have E2 := Aside0.mk h2
 have hlq : q.length ≤ 100000 := Nat.le_trans (behind_le h2) hl
 clear h hG hx h0 h1 h2
 have B0 := Aside0.mk (Below.refl B w)
 have S0 := Aside0.mk (Nat.le_refl w.heap.size)
 go_enter Try.func25, Try.ntmps25
 go_wp2_with (go_at_call 39; refine (token_walk_eat.noK B g _ [60, 33, 45, 45] L _ H.out E0.out).mono ?_)
 rintro e w0 ⟨rfl, h1, b1, k1⟩
 have Hn := Aside0.mk h1
 have HGn := Aside0.mk (HG.out.below b1 hpos)
 have Bn := Aside0.mk (B0.out.trans b1)
 have Sn := Aside0.mk (Nat.le_trans S0.out k1.1)
 clear h1 b1 k1 H HG B0 S0
 have H := Hn
 have HG := HGn
 have B0 := Bn
 have S0 := Sn
 clear Hn HGn Bn Sn
 go_wp2_with (go_at_call 39; refine (token_walk_eat.noK B g _ [60, 33, 91, 67, 68, 65, 84, 65, 91] L _ H.out E1.out).mono ?_)
 rintro e w1 ⟨rfl, h1, b1, k1⟩
 have Hn := Aside0.mk h1
 have HGn := Aside0.mk (HG.out.below b1 hpos)
 have Bn := Aside0.mk (B0.out.trans b1)
 have Sn := Aside0.mk (Nat.le_trans S0.out k1.1)
 clear h1 b1 k1 H HG B0 S0
 have H := Hn
 have HG := HGn
 have B0 := Bn
 have S0 := Sn
 clear Hn HGn Bn Sn
 go_wp2_with (go_at_call 39; refine (token_walk_eat.yesK B g _ [60, 63] q L _ H.out E2.out).mono ?_)
 rintro e w2 ⟨rfl, h1, b1, k1⟩
 have Hn := Aside0.mk h1
 have HGn := Aside0.mk (HG.out.below b1 hpos)
 have Bn := Aside0.mk (B0.out.trans b1)
 have Sn := Aside0.mk (Nat.le_trans S0.out k1.1)
 clear h1 b1 k1 H HG B0 S0
 have H := Hn
 have HG := HGn
 have B0 := Bn
 have S0 := Sn
 clear Hn HGn Bn Sn
 have CF : Calls Try.prog 42 #[.pointer (some ⟨g, 0, none⟩), .bool fst] w2 fun e w' => (∀ t r, res = some (t, r) → e = .returned (.bool true) ∧ WalkAt w' B g ok (Tk.bs r) (L ++ [t])) ∧ (res = none → e = .returned (.bool false)) ∧ Below B w2 w' := by
  cases hr : res with
  | none =>
   refine (token_walk_prolog.no B g fst q L _ H.out HG.out (by omega) (HX.out.trans hr)).mono ?_
   rintro e w' ⟨rfl, b⟩
   exact ⟨(fun t r h => by cases h), fun _ => rfl, b⟩
  | some p =>
   obtain ⟨t0, r0⟩ := p
   refine (token_walk_prolog.yes B g fst q r0 t0 L _ H.out HG.out (by omega) hL (fun k hk => hok k (Nat.le_trans S0.out hk)) (HX.out.trans hr)).mono ?_
   rintro e w' ⟨rfl, h1, b⟩
   refine ⟨fun t r h => ?_, (fun h => by cases h), b⟩
   obtain ⟨rfl, rfl⟩ := Prod.mk.inj (Option.some.inj h)
   exact ⟨rfl, h1⟩
 have CF1 := Aside0.mk CF
 clear CF
 go_wp2_with (go_at_call 42; refine CF1.out.mono ?_)
 rintro e wz ⟨hy, hn, bz⟩
 have BZ := Aside0.mk (B0.out.trans bz)
 clear bz
 cases hr : res with
 | none =>
  obtain rfl := hn hr
  clear hy hn
  go_wp2
  go_ret
  exact ⟨(fun t r h => by rw [hr] at h; cases h), fun _ => rfl, BZ.out⟩
 | some p =>
  obtain ⟨t0, r0⟩ := p
  obtain ⟨rfl, h1⟩ := hy t0 r0 hr
  have H1 := Aside0.mk h1
  clear hy hn h1
  go_wp2
  go_ret
  refine ⟨fun t r h => ?_, (fun h => by rw [hr] at h; cases h), BZ.out⟩
  rw [hr] at h
  obtain ⟨rfl, rfl⟩ := Prod.mk.inj (Option.some.inj h)
  exact ⟨rfl, H1.out⟩
theorem token_walk_next.w3 (B g : Nat) {ok : Nat → Prop} (fst : Bool) (l : List UInt8) (res : Option (S32 × List UInt8)) (q : List UInt8) (L : List S32) (w : World) (h : WalkAt w B g ok (Tk.bs l) L) (hG : Glob w) (hl : l.length ≤ 100000) (hL : L.length ≤ 100000) (hok : ∀ k, w.heap.size ≤ k → ok k) (h0 : Tk.behind [60, 33, 45, 45] l = none) (h1 : Tk.behind [60, 33, 91, 67, 68, 65, 84, 65, 91] l = none) (h2 : Tk.behind [60, 63] l = none) (h3 : Tk.behind [60, 47] l = some q) (hx : Tk.close q = res) :
 Calls Try.prog 25 #[.pointer (some ⟨g, 0, none⟩), .bool fst] w fun e w' => (∀ t r, res = some (t, r) → e = .returned (.bool true) ∧ WalkAt w' B g ok (Tk.bs r) (L ++ [t])) ∧ (res = none → e = .returned (.bool false)) ∧ Below B w w' := by
 have hpos := h.pos
 have HG := Aside0.mk hG
 have HX := Aside0.mk hx
 have H := Aside0.mk h
 have E0 := Aside0.mk h0
 have E1 := Aside0.mk h1
 have E2 := Aside0.mk h2
 have E3 := Aside0.mk h3
 have hlq : q.length ≤ 100000 := Nat.le_trans (behind_le h3) hl
 clear h hG hx h0 h1 h2 h3
 have B0 := Aside0.mk (Below.refl B w)
 have S0 := Aside0.mk (Nat.le_refl w.heap.size)
 go_enter Try.func25, Try.ntmps25
 go_wp2_with (go_at_call 39; refine (token_walk_eat.noK B g _ [60, 33, 45, 45] L _ H.out E0.out).mono ?_)
 rintro e w0 ⟨rfl, h1, b1, k1⟩
 have Hn := Aside0.mk h1
 have HGn := Aside0.mk (HG.out.below b1 hpos)
 have Bn := Aside0.mk (B0.out.trans b1)
 have Sn := Aside0.mk (Nat.le_trans S0.out k1.1)
 clear h1 b1 k1 H HG B0 S0
 have H := Hn
 have HG := HGn
 have B0 := Bn
 have S0 := Sn
 clear Hn HGn Bn Sn
 go_wp2_with (go_at_call 39; refine (token_walk_eat.noK B g _ [60, 33, 91, 67, 68, 65, 84, 65, 91] L _ H.out E1.out).mono ?_)
 rintro e w1 ⟨rfl, h1, b1, k1⟩
 have Hn := Aside0.mk h1
 have HGn := Aside0.mk (HG.out.below b1 hpos)
 have Bn := Aside0.mk (B0.out.trans b1)
 have Sn := Aside0.mk (Nat.le_trans S0.out k1.1)
 clear h1 b1 k1 H HG B0 S0
 have H := Hn
 have HG := HGn
 have B0 := Bn
 have S0 := Sn
 clear Hn HGn Bn Sn
 go_wp2_with (go_at_call 39; refine (token_walk_eat.noK B g _ [60, 63] L _ H.out E2.out).mono ?_)
 rintro e w2 ⟨rfl, h1, b1, k1⟩
 have Hn := Aside0.mk h1
 have HGn := Aside0.mk (HG.out.below b1 hpos)
 have Bn := Aside0.mk (B0.out.trans b1)
 have Sn := Aside0.mk (Nat.le_trans S0.out k1.1)
 clear h1 b1 k1 H HG B0 S0
 have H := Hn
 have HG := HGn
 have B0 := Bn
 have S0 := Sn
 clear Hn HGn Bn Sn
 go_wp2_with (go_at_call 39; refine (token_walk_eat.yesK B g _ [60, 47] q L _ H.out E3.out).mono ?_)
 rintro e w3 ⟨rfl, h1, b1, k1⟩
 have Hn := Aside0.mk h1
 have HGn := Aside0.mk (HG.out.below b1 hpos)
 have Bn := Aside0.mk (B0.out.trans b1)
 have Sn := Aside0.mk (Nat.le_trans S0.out k1.1)
 clear h1 b1 k1 H HG B0 S0
 have H := Hn
 have HG := HGn
 have B0 := Bn
 have S0 := Sn
 clear Hn HGn Bn Sn
 have CF : Calls Try.prog 43 #[.pointer (some ⟨g, 0, none⟩)] w3 fun e w' => (∀ t r, res = some (t, r) → e = .returned (.bool true) ∧ WalkAt w' B g ok (Tk.bs r) (L ++ [t])) ∧ (res = none → e = .returned (.bool false)) ∧ Below B w3 w' := by
  cases hr : res with
  | none =>
   refine (token_walk_end.no B g q L _ H.out HG.out (by omega) (HX.out.trans hr)).mono ?_
   rintro e w' ⟨rfl, b⟩
   exact ⟨(fun t r h => by cases h), fun _ => rfl, b⟩
  | some p =>
   obtain ⟨t0, r0⟩ := p
   refine (token_walk_end.yes B g q r0 t0 L _ H.out HG.out (by omega) hL (fun k hk => hok k (Nat.le_trans S0.out hk)) (HX.out.trans hr)).mono ?_
   rintro e w' ⟨rfl, h1, b⟩
   refine ⟨fun t r h => ?_, (fun h => by cases h), b⟩
   obtain ⟨rfl, rfl⟩ := Prod.mk.inj (Option.some.inj h)
   exact ⟨rfl, h1⟩
 have CF1 := Aside0.mk CF
 clear CF
 go_wp2_with (go_at_call 43; refine CF1.out.mono ?_)
 rintro e wz ⟨hy, hn, bz⟩
 have BZ := Aside0.mk (B0.out.trans bz)
 clear bz
 cases hr : res with
 | none =>
  obtain rfl := hn hr
  clear hy hn
  go_wp2
  go_ret
  exact ⟨(fun t r h => by rw [hr] at h; cases h), fun _ => rfl, BZ.out⟩
 | some p =>
  obtain ⟨t0, r0⟩ := p
  obtain ⟨rfl, h1⟩ := hy t0 r0 hr
  have H1 := Aside0.mk h1
  clear hy hn h1
  go_wp2
  go_ret
  refine ⟨fun t r h => ?_, (fun h => by rw [hr] at h; cases h), BZ.out⟩
  rw [hr] at h
  obtain ⟨rfl, rfl⟩ := Prod.mk.inj (Option.some.inj h)
  exact ⟨rfl, H1.out⟩
theorem token_walk_next.w4 (B g : Nat) {ok : Nat → Prop} (fst : Bool) (l : List UInt8) (res : Option (S32 × List UInt8)) (q : List UInt8) (L : List S32) (w : World) (h : WalkAt w B g ok (Tk.bs l) L) (hG : Glob w) (hl : l.length ≤ 100000) (hL : L.length ≤ 100000) (hok : ∀ k, w.heap.size ≤ k → ok k) (h0 : Tk.behind [60, 33, 45, 45] l = none) (h1 : Tk.behind [60, 33, 91, 67, 68, 65, 84, 65, 91] l = none) (h2 : Tk.behind [60, 63] l = none) (h3 : Tk.behind [60, 47] l = none) (h4 : Tk.behind [60] l = some q) (hx : Tk.opening q = res) :
 Calls Try.prog 25 #[.pointer (some ⟨g, 0, none⟩), .bool fst] w fun e w' => (∀ t r, res = some (t, r) → e = .returned (.bool true) ∧ WalkAt w' B g ok (Tk.bs r) (L ++ [t])) ∧ (res = none → e = .returned (.bool false)) ∧ Below B w w' := by
 have hpos := h.pos
 have HG := Aside0.mk hG
 have HX := Aside0.mk hx
 have H := Aside0.mk h
 have E0 := Aside0.mk h0
 have E1 := Aside0.mk h1
 have E2 := Aside0.mk h2
 have E3 := Aside0.mk h3
 have E4 := Aside0.mk h4
 have hlq : q.length ≤ 100000 := Nat.le_trans (behind_le h4) hl
 clear h hG hx h0 h1 h2 h3 h4
 have B0 := Aside0.mk (Below.refl B w)
 have S0 := Aside0.mk (Nat.le_refl w.heap.size)
 go_enter Try.func25, Try.ntmps25
 go_wp2_with (go_at_call 39; refine (token_walk_eat.noK B g _ [60, 33, 45, 45] L _ H.out E0.out).mono ?_)
 rintro e w0 ⟨rfl, h1, b1, k1⟩
 have Hn := Aside0.mk h1
 have HGn := Aside0.mk (HG.out.below b1 hpos)
 have Bn := Aside0.mk (B0.out.trans b1)
 have Sn := Aside0.mk (Nat.le_trans S0.out k1.1)
 clear h1 b1 k1 H HG B0 S0
 have H := Hn
 have HG := HGn
 have B0 := Bn
 have S0 := Sn
 clear Hn HGn Bn Sn
 go_wp2_with (go_at_call 39; refine (token_walk_eat.noK B g _ [60, 33, 91, 67, 68, 65, 84, 65, 91] L _ H.out E1.out).mono ?_)
 rintro e w1 ⟨rfl, h1, b1, k1⟩
 have Hn := Aside0.mk h1
 have HGn := Aside0.mk (HG.out.below b1 hpos)
 have Bn := Aside0.mk (B0.out.trans b1)
 have Sn := Aside0.mk (Nat.le_trans S0.out k1.1)
 clear h1 b1 k1 H HG B0 S0
 have H := Hn
 have HG := HGn
 have B0 := Bn
 have S0 := Sn
 clear Hn HGn Bn Sn
 go_wp2_with (go_at_call 39; refine (token_walk_eat.noK B g _ [60, 63] L _ H.out E2.out).mono ?_)
 rintro e w2 ⟨rfl, h1, b1, k1⟩
 have Hn := Aside0.mk h1
 have HGn := Aside0.mk (HG.out.below b1 hpos)
 have Bn := Aside0.mk (B0.out.trans b1)
 have Sn := Aside0.mk (Nat.le_trans S0.out k1.1)
 clear h1 b1 k1 H HG B0 S0
 have H := Hn
 have HG := HGn
 have B0 := Bn
 have S0 := Sn
 clear Hn HGn Bn Sn
 go_wp2_with (go_at_call 39; refine (token_walk_eat.noK B g _ [60, 47] L _ H.out E3.out).mono ?_)
 rintro e w3 ⟨rfl, h1, b1, k1⟩
 have Hn := Aside0.mk h1
 have HGn := Aside0.mk (HG.out.below b1 hpos)
 have Bn := Aside0.mk (B0.out.trans b1)
 have Sn := Aside0.mk (Nat.le_trans S0.out k1.1)
 clear h1 b1 k1 H HG B0 S0
 have H := Hn
 have HG := HGn
 have B0 := Bn
 have S0 := Sn
 clear Hn HGn Bn Sn
 go_wp2_with (go_at_call 39; refine (token_walk_eat.yesK B g _ [60] q L _ H.out E4.out).mono ?_)
 rintro e w4 ⟨rfl, h1, b1, k1⟩
 have Hn := Aside0.mk h1
 have HGn := Aside0.mk (HG.out.below b1 hpos)
 have Bn := Aside0.mk (B0.out.trans b1)
 have Sn := Aside0.mk (Nat.le_trans S0.out k1.1)
 clear h1 b1 k1 H HG B0 S0
 have H := Hn
 have HG := HGn
 have B0 := Bn
 have S0 := Sn
 clear Hn HGn Bn Sn
 go_wp2_with (go_at_call 44; refine (token_walk_begin.all B g q res L _ H.out HG.out hlq hL (fun k hk => hok k (Nat.le_trans S0.out hk)) HX.out).mono ?_)
 rintro e wz ⟨hy, hn, bz⟩
 have BZ := Aside0.mk (B0.out.trans bz)
 clear bz
 cases hr : res with
 | none =>
  obtain rfl := hn hr
  clear hy hn
  go_wp2
  go_ret
  exact ⟨(fun t r h => by rw [hr] at h; cases h), fun _ => rfl, BZ.out⟩
 | some p =>
  obtain ⟨t0, r0⟩ := p
  obtain ⟨rfl, h1⟩ := hy t0 r0 hr
  have H1 := Aside0.mk h1
  clear hy hn h1
  go_wp2
  go_ret
  refine ⟨fun t r h => ?_, (fun h => by rw [hr] at h; cases h), BZ.out⟩
  rw [hr] at h
  obtain ⟨rfl, rfl⟩ := Prod.mk.inj (Option.some.inj h)
  exact ⟨rfl, H1.out⟩
theorem token_walk_next.w5 (B g : Nat) {ok : Nat → Prop} (fst : Bool) (l : List UInt8) (res : Option (S32 × List UInt8)) (L : List S32) (w : World) (h : WalkAt w B g ok (Tk.bs l) L) (hG : Glob w) (hl : l.length ≤ 100000) (hL : L.length ≤ 100000) (hok : ∀ k, w.heap.size ≤ k → ok k) (h0 : Tk.behind [60, 33, 45, 45] l = none) (h1 : Tk.behind [60, 33, 91, 67, 68, 65, 84, 65, 91] l = none) (h2 : Tk.behind [60, 63] l = none) (h3 : Tk.behind [60, 47] l = none) (h4 : Tk.behind [60] l = none) (hx : Tk.text l = res) :
 Calls Try.prog 25 #[.pointer (some ⟨g, 0, none⟩), .bool fst] w fun e w' => (∀ t r, res = some (t, r) → e = .returned (.bool true) ∧ WalkAt w' B g ok (Tk.bs r) (L ++ [t])) ∧ (res = none → e = .returned (.bool false)) ∧ Below B w w' := by
 have hpos := h.pos
 have HG := Aside0.mk hG
 have HX := Aside0.mk hx
 have H := Aside0.mk h
 have E0 := Aside0.mk h0
 have E1 := Aside0.mk h1
 have E2 := Aside0.mk h2
 have E3 := Aside0.mk h3
 have E4 := Aside0.mk h4
 clear h hG hx h0 h1 h2 h3 h4
 have B0 := Aside0.mk (Below.refl B w)
 have S0 := Aside0.mk (Nat.le_refl w.heap.size)
 go_enter Try.func25, Try.ntmps25
 go_wp2_with (go_at_call 39; refine (token_walk_eat.noK B g _ [60, 33, 45, 45] L _ H.out E0.out).mono ?_)
 rintro e w0 ⟨rfl, h1, b1, k1⟩
 have Hn := Aside0.mk h1
 have HGn := Aside0.mk (HG.out.below b1 hpos)
 have Bn := Aside0.mk (B0.out.trans b1)
 have Sn := Aside0.mk (Nat.le_trans S0.out k1.1)
 clear h1 b1 k1 H HG B0 S0
 have H := Hn
 have HG := HGn
 have B0 := Bn
 have S0 := Sn
 clear Hn HGn Bn Sn
 go_wp2_with (go_at_call 39; refine (token_walk_eat.noK B g _ [60, 33, 91, 67, 68, 65, 84, 65, 91] L _ H.out E1.out).mono ?_)
 rintro e w1 ⟨rfl, h1, b1, k1⟩
 have Hn := Aside0.mk h1
 have HGn := Aside0.mk (HG.out.below b1 hpos)
 have Bn := Aside0.mk (B0.out.trans b1)
 have Sn := Aside0.mk (Nat.le_trans S0.out k1.1)
 clear h1 b1 k1 H HG B0 S0
 have H := Hn
 have HG := HGn
 have B0 := Bn
 have S0 := Sn
 clear Hn HGn Bn Sn
 go_wp2_with (go_at_call 39; refine (token_walk_eat.noK B g _ [60, 63] L _ H.out E2.out).mono ?_)
 rintro e w2 ⟨rfl, h1, b1, k1⟩
 have Hn := Aside0.mk h1
 have HGn := Aside0.mk (HG.out.below b1 hpos)
 have Bn := Aside0.mk (B0.out.trans b1)
 have Sn := Aside0.mk (Nat.le_trans S0.out k1.1)
 clear h1 b1 k1 H HG B0 S0
 have H := Hn
 have HG := HGn
 have B0 := Bn
 have S0 := Sn
 clear Hn HGn Bn Sn
 go_wp2_with (go_at_call 39; refine (token_walk_eat.noK B g _ [60, 47] L _ H.out E3.out).mono ?_)
 rintro e w3 ⟨rfl, h1, b1, k1⟩
 have Hn := Aside0.mk h1
 have HGn := Aside0.mk (HG.out.below b1 hpos)
 have Bn := Aside0.mk (B0.out.trans b1)
 have Sn := Aside0.mk (Nat.le_trans S0.out k1.1)
 clear h1 b1 k1 H HG B0 S0
 have H := Hn
 have HG := HGn
 have B0 := Bn
 have S0 := Sn
 clear Hn HGn Bn Sn
 go_wp2_with (go_at_call 39; refine (token_walk_eat.noK B g _ [60] L _ H.out E4.out).mono ?_)
 rintro e w4 ⟨rfl, h1, b1, k1⟩
 have Hn := Aside0.mk h1
 have HGn := Aside0.mk (HG.out.below b1 hpos)
 have Bn := Aside0.mk (B0.out.trans b1)
 have Sn := Aside0.mk (Nat.le_trans S0.out k1.1)
 clear h1 b1 k1 H HG B0 S0
 have H := Hn
 have HG := HGn
 have B0 := Bn
 have S0 := Sn
 clear Hn HGn Bn Sn
 go_wp2_with (go_at_call 45; refine (token_walk_text.all B g l res L _ H.out HG.out hl hL (fun k hk => hok k (Nat.le_trans S0.out hk)) HX.out).mono ?_)
 rintro e wz ⟨hy, hn, bz⟩
 have BZ := Aside0.mk (B0.out.trans bz)
 clear bz
 cases hr : res with
 | none =>
  obtain rfl := hn hr
  clear hy hn
  go_wp2
  go_ret
  exact ⟨(fun t r h => by rw [hr] at h; cases h), fun _ => rfl, BZ.out⟩
 | some p =>
  obtain ⟨t0, r0⟩ := p
  obtain ⟨rfl, h1⟩ := hy t0 r0 hr
  have H1 := Aside0.mk h1
  clear hy hn h1
  go_wp2
  go_ret
  refine ⟨fun t r h => ?_, (fun h => by rw [hr] at h; cases h), BZ.out⟩
  rw [hr] at h
  obtain ⟨rfl, rfl⟩ := Prod.mk.inj (Option.some.inj h)
  exact ⟨rfl, H1.out⟩
theorem token_walk_next.all (B g : Nat) {ok : Nat → Prop} (fst : Bool) (l : List UInt8) (res : Option (S32 × List UInt8)) (L : List S32) (w : World) (h : WalkAt w B g ok (Tk.bs l) L) (hG : Glob w) (hl : l.length ≤ 100000) (hL : L.length ≤ 100000) (hok : ∀ k, w.heap.size ≤ k → ok k) (hx : Tk.next fst l = res) :
 Calls Try.prog 25 #[.pointer (some ⟨g, 0, none⟩), .bool fst] w fun e w' => (∀ t r, res = some (t, r) → e = .returned (.bool true) ∧ WalkAt w' B g ok (Tk.bs r) (L ++ [t])) ∧ (res = none → e = .returned (.bool false)) ∧ Below B w w' := by
 unfold Tk.next at hx
 cases h0 : Tk.behind [60, 33, 45, 45] l with
 | some q => rw [h0] at hx; exact token_walk_next.w0 B g fst l res q L w h hG hl hL hok h0 hx
 | none =>
  rw [h0] at hx
  dsimp only at hx
  cases h1 : Tk.behind [60, 33, 91, 67, 68, 65, 84, 65, 91] l with
  | some q => rw [h1] at hx; exact token_walk_next.w1 B g fst l res q L w h hG hl hL hok h0 h1 hx
  | none =>
   rw [h1] at hx
   dsimp only at hx
   cases h2 : Tk.behind [60, 63] l with
   | some q => rw [h2] at hx; exact token_walk_next.w2 B g fst l res q L w h hG hl hL hok h0 h1 h2 hx
   | none =>
    rw [h2] at hx
    dsimp only at hx
    cases h3 : Tk.behind [60, 47] l with
    | some q => rw [h3] at hx; exact token_walk_next.w3 B g fst l res q L w h hG hl hL hok h0 h1 h2 h3 hx
    | none =>
     rw [h3] at hx
     dsimp only at hx
     cases h4 : Tk.behind [60] l with
     | some q => rw [h4] at hx; exact token_walk_next.w4 B g fst l res q L w h hG hl hL hok h0 h1 h2 h3 h4 hx
     | none =>
      rw [h4] at hx
      dsimp only at hx
      exact token_walk_next.w5 B g fst l res L w h hG hl hL hok h0 h1 h2 h3 h4 hx
theorem allowed_f (c : UInt8) : chars_Allowed.f (c.toNat : Int) = some (Tk.allowed c) := Tk.bytes_all (by kernel_rfl) c
def badB (c : UInt8) : Bool := !Tk.allowed c
theorem token_Split.clo (c : UInt8) (x : Int) (hx : x = (c.toNat : Int)) (w : World) (hG : Glob w) :
 Calls Try.prog 23 #[.int .u8 x] w fun e w' => e = .returned (.bool (badB c)) ∧ Below w.heap.size w w' := by
 have hf := allowed_f c
 rw [← hx] at hf
 obtain ⟨b, hb⟩ : ∃ b, Tk.allowed c = b := ⟨_, rfl⟩
 have hbb : badB c = !b := by unfold badB; rw [hb]
 rw [hb] at hf
 rw [hbb]
 have HF := Aside0.mk hf
 have HG := Aside0.mk hG
 clear hf hG hb hbb hx
 go_enter Try.func23, Try.ntmps23
 go_wp2_with (first | (go_at_call 24; (with_reducible refine (chars_Allowed.calls x b _ HG.out HF.out).mono ?_); rintro e w1 ⟨rfl, ⟨nd, rfl⟩⟩))
 go_ret
 exact ⟨rfl, pw_below_drewN (Below.refl _ _) nd⟩
theorem bytes_rd (l : List UInt8) (i : Nat) (h : i < l.length) : rd (bytesOf (Tk.bs l)) (i : Int) = (l[i].toNat : Int) := by rw [rd_bytesOf, bs_bt l i h]
theorem token_Split.ix (A0 : Option Addr) (c0 : Nat) (l : List UInt8) (w : World) (hr0 : Kd.C (Kd.int .u8) w A0 l.length (bytesOf (Tk.bs l))) (hlen : l.length ≤ 1000000) (hG : Glob w) :
 Calls Try.prog 37 #[.slice A0 l.length c0, .func (.func 23) #[] #[]] w fun e w' => (∃ r : Int, e = .returned (.int .i64 r) ∧ decide (0 ≤ r) = l.any badB) ∧ Below w.heap.size w w' := by
 have HR0 := Aside0.mk hr0
 have HG := Aside0.mk hG
 clear hr0 hG
 go_enter Try.func37, Try.ntmps37
 go_wp2
 go_loopg [8] (l.length + 1) (fun gk v8 w' => ∃ (i : Nat) (x : Int), i ≤ l.length ∧ i + gk = l.length + 1 ∧ v8 = .int .i64 x ∧ Aside0 (x = (i : Int)) ∧ Aside0 ((l.take i).any badB = false) ∧ Aside0 (Below w.heap.size w w'))
 case atStart => exact ⟨0, 0, by omega, by omega, by first | rfl | (simp; done), ⟨rfl⟩, ⟨by rw [List.take_zero]; rfl⟩, ⟨Below.refl _ _⟩⟩
 obtain ⟨i, x, hi, hgk, rfl, HX, HA, HB⟩ := hrel
 have hxi := HX.out
 by_cases hlt : i < l.length
 rotate_left
 ·obtain rfl : i = l.length := by omega
  have d1 : decide (x < (l.length : Int)) = false := decide_eq_false (by omega)
  have hall : l.any badB = false := by have := HA.out; rwa [List.take_length] at this
  have HALL := Lib.hid hall
  clear hall hxi
  go_wp2
  go_ret
  exact ⟨⟨_, rfl, by rw [HALL.out]; rfl⟩, HB.out⟩
 obtain ⟨g1, rfl⟩ : ∃ g1, gk = g1 + 1 := ⟨gk - 1, by omega⟩
 have d1 : decide (x < (l.length : Int)) = true := decide_eq_true (by omega)
 obtain ⟨ad, e_, hx0⟩ := Kd.at_int HR0.out x (by omega) (by omega)
 cases e_
 obtain ⟨y, hy⟩ : ∃ y, rd (bytesOf (Tk.bs l)) x = y := ⟨_, rfl⟩
 have hyc : y = (l[i].toNat : Int) := by rw [← hy, hxi, bytes_rd l i hlt]
 rw [hy] at hx0
 replace hx0 := (HB.out.cell (World.block_lt_of_cell? w _ hx0)).trans hx0
 have p_ := eq_true (show 0 ≤ x by omega)
 have q_ := eq_true (show x < (l.length : Int) by omega)
 have hat := any_take badB l i hlt
 rw [HA.out, Bool.false_or] at hat
 have C2 := token_Split.clo l[i] y hyc wr (HG.out.step HB.out)
 cases hps : badB l[i] with
 | true =>
  rw [hps] at C2
  have hall : l.any badB = true := any_hit hlt hps
  have HALL := Lib.hid hall
  have HX0 : decide (0 ≤ x) = true := decide_eq_true (by omega)
  have HXX := Lib.hid HX0
  have C3 := Aside0.mk C2
  clear hps hall hat hxi C2 HX0 hy hyc
  go_wp2_with (first | (go_at_call 23; (with_reducible refine (C3.out).mono ?_); rintro e w4 ⟨rfl, hb⟩; have B4 := Aside0.mk hb; clear hb))
  go_ret
  exact ⟨⟨_, rfl, by rw [HALL.out, HXX.out]⟩, below_step HB.out B4.out⟩
 | false =>
  rw [hps] at C2 hat
  have HAT := Aside0.mk hat
  have C3 := Aside0.mk C2
  have hw1 : wrap64 (x + 1) = ((i + 1 : Nat) : Int) := by unfold wrap64; omega
  have HW1 := Aside0.mk hw1
  clear hps hat hxi C2 hw1 hy hyc
  go_wp2_with (first | (go_at_call 23; (with_reducible refine (C3.out).mono ?_); rintro e w4 ⟨rfl, hb⟩; have B4 := Aside0.mk hb; clear hb))
  go_roundg g1
  case measure => omega
  case rel => exact ⟨i + 1, _, by omega, by omega, by first | rfl | (simp; done), HW1, HAT, ⟨below_step HB.out B4.out⟩⟩
theorem token_Split.has (A0 : Option Addr) (c0 : Nat) (l : List UInt8) (w : World) (hr0 : Kd.C (Kd.int .u8) w A0 l.length (bytesOf (Tk.bs l))) (hlen : l.length ≤ 1000000) (hG : Glob w) :
 Calls Try.prog 22 #[.slice A0 l.length c0, .func (.func 23) #[] #[]] w fun e w' => e = .returned (.bool (l.any badB)) ∧ Below w.heap.size w w' := by
 have C1 := Aside0.mk (token_Split.ix A0 c0 l w hr0 hlen hG)
 obtain ⟨b, hb⟩ : ∃ b, b = l.any badB := ⟨_, rfl⟩
 rw [← hb] at C1 ⊢
 clear hr0 hG hb
 go_enter Try.func22, Try.ntmps22
 go_wp2_with (first | (go_at_call 37; (with_reducible refine C1.out.mono ?_); rintro e w4 ⟨⟨r, rfl, hr⟩, hb⟩; have HB := Aside0.mk hb; have HR := Lib.hid hr; clear hb hr))
 go_ret
 refine ⟨?_, HB.out⟩
 rw [← HR.out]
 first | rfl | (simp; done)
theorem attrs_len : ∀ (n : Nat) (nm : List UInt8) (ys : List S39) (l : List UInt8) (t : S32) (r : List UInt8), Tk.attrs n nm ys l = some (t, r) → r.length ≤ l.length
 | 0, _, _, _, _, _, h => by simp [Tk.attrs] at h
 | n + 1, nm, ys, l, t, r, h => by
  rw [Tk.attrs] at h
  (try dsimp only at h)
  have hs := skip_len l
  cases h1 : Tk.behind [62] (Tk.skip l) with
  | some q =>
   rw [h1] at h
   obtain ⟨_, rfl⟩ := Prod.mk.inj (Option.some.inj h)
   exact Nat.le_trans (behind_len h1) hs
  | none =>
   rw [h1] at h
   (try dsimp only at h)
   cases h2 : Tk.behind [47, 62] (Tk.skip l) with
   | some q =>
    rw [h2] at h
    obtain ⟨_, rfl⟩ := Prod.mk.inj (Option.some.inj h)
    exact Nat.le_trans (behind_len h2) hs
   | none =>
    rw [h2] at h
    (try dsimp only at h)
    split at h
    ·cases h
    ·obtain ⟨⟨x, q⟩, h3, h⟩ := Option.bind_eq_some_iff.1 h
     (try dsimp only at h)
     split at h
     ·cases h
     ·have := attrs_len n nm _ q t r h
      have := attr_len h3
      omega
theorem next_len {fst : Bool} {l r : List UInt8} {t : S32} (hl : l ≠ []) (h : Tk.next fst l = some (t, r)) : r.length < l.length := by
 unfold Tk.next at h
 cases h1 : Tk.behind [60, 33, 45, 45] l with
 | some q =>
  rw [h1] at h
  have e := behind_sum h1
  unfold Tk.comment at h
  obtain ⟨⟨a, b⟩, h2, h⟩ := Option.bind_eq_some_iff.1 h
  (try dsimp only at h)
  split at h
  ·cases h
  ·obtain ⟨_, rfl⟩ := Prod.mk.inj (Option.some.inj h)
   have := (upto_len h2).2
   simp only [List.length_cons, List.length_nil] at e
   (try dsimp only)
   omega
 | none =>
 rw [h1] at h
 (try dsimp only at h)
 cases h1 : Tk.behind [60, 33, 91, 67, 68, 65, 84, 65, 91] l with
 | some q =>
  rw [h1] at h
  have e := behind_sum h1
  obtain ⟨⟨a, b⟩, h2, h⟩ := Option.map_eq_some_iff.1 (show (Tk.upto [93, 93, 62] q).map _ = some (t, r) from h)
  obtain ⟨_, rfl⟩ := Prod.mk.inj h
  have := (upto_len h2).2
  simp only [List.length_cons, List.length_nil] at e
  (try dsimp only)
  omega
 | none =>
 rw [h1] at h
 (try dsimp only at h)
 cases h1 : Tk.behind [60, 63] l with
 | some q =>
  rw [h1] at h
  have e := behind_sum h1
  obtain ⟨⟨a, b⟩, h2, h⟩ := Option.bind_eq_some_iff.1 (show (Tk.upto [63, 62] q).bind _ = some (t, r) from h)
  (try dsimp only at h)
  split at h
  ·obtain ⟨_, rfl⟩ := Prod.mk.inj (Option.some.inj h)
   have := (upto_len h2).2
   simp only [List.length_cons, List.length_nil] at e
   (try dsimp only)
   omega
  ·cases h
 | none =>
 rw [h1] at h
 (try dsimp only at h)
 cases h1 : Tk.behind [60, 47] l with
 | some q =>
  rw [h1] at h
  have e := behind_sum h1
  (try dsimp only at h)
  unfold Tk.close at h
  split at h
  ·cases h
  ·obtain ⟨b, h2, h⟩ := Option.map_eq_some_iff.1 h
   obtain ⟨_, rfl⟩ := Prod.mk.inj h
   have e2 := behind_len h2
   have e3 := skip_len (q.drop (Tk.head q).length)
   rw [List.length_drop] at e3
   simp only [List.length_cons, List.length_nil] at e
   omega
 | none =>
 rw [h1] at h
 (try dsimp only at h)
 cases h1 : Tk.behind [60] l with
 | some q =>
  rw [h1] at h
  have e := behind_sum h1
  (try dsimp only at h)
  unfold Tk.opening at h
  split at h
  ·cases h
  ·have e2 := attrs_len _ _ _ _ _ _ h
   rw [List.length_drop] at e2
   simp only [List.length_cons, List.length_nil] at e
   omega
 | none =>
 rw [h1] at h
 (try dsimp only at h)
 unfold Tk.text at h
 (try dsimp only at h)
 obtain ⟨x, _, h⟩ := Option.map_eq_some_iff.1 h
 obtain ⟨_, rfl⟩ := Prod.mk.inj h
 cases l with
 | nil => exact absurd rfl hl
 | cons c q =>
  have hc : (c != 60) = true := by
   by_cases hc : c = 60
   ·subst hc; simp [Tk.behind, List.isPrefixOf] at h1
   ·simpa using hc
  rw [List.takeWhile_cons, if_pos hc, List.length_drop, List.length_cons, List.length_cons]
  omega
def token_Split.f (a0 : ByteArray) : Option (List S32 × Int) := if a0.size ≤ 9223372036854775807 then some (Tk.split a0.data.toList) else none
theorem token_Split.loop (l : List UInt8) (P : Option (List S32)) (hl : l.length ≤ 20000) (hbad : l.any badB = false) (hP : Tk.pieces (l.length + 1) true l = P) (w : World) (hG : Glob w) :
 Calls Try.prog 12 #[.string (Tk.bs l)] w fun e w' => (∀ t, P = some t → ∃ v0_ : Value, e = .returned (.tuple #[v0_, .int .i64 0]) ∧ Kd.S k32 32 w' w.heap.size (fun _ => True) v0_ t) ∧ (P = none → e = .returned (.tuple #[.slice none 0 0, .int .i64 5])) ∧ Below w.heap.size w w' := by
 have hsz := bs_size l
 have hpos := hG.lt
 obtain ⟨s, hs⟩ : ∃ s, s = Tk.bs l := ⟨_, rfl⟩
 have d1 : decide ((20000 : Int) < (s.size : Int)) = false := decide_eq_false (by rw [hs, hsz]; omega)
 have d1' : decide (20000 < s.size) = false := decide_eq_false (by rw [hs, hsz]; omega)
 have kb := fun W => print_bytes (P := Try.prog) 9 35 5 Try.underlying9 Try.underlying35 Try.underlying5 s W
 have hr : Kd.C (Kd.int .u8) (Lib.bytesWorld w 5 s) (some ⟨w.heap.size, 0, none⟩) s.size (bytesOf s) := Kd.C_of_reads (enc := Value.int .u8) (d := (0 : Int)) (h1 := fun _ => rfl) (bytes_reads w 5 s (by rw [hs, hsz]; omega))
 have hb : Below w.heap.size w (Lib.bytesWorld w 5 s) := bytes_below (Below.refl _ _) (Nat.le_refl _) _ _
 have hu := Try.underlying54
 have HSZ := Lib.hid (show s.size = l.length by rw [hs, hsz])
 have HS := Lib.hid hs
 have HBAD := Lib.hid hbad
 have HP := Lib.hid hP
 have HR := Aside0.mk hr
 have HBB := Aside0.mk hb
 have HG := Aside0.mk hG
 rw [← hs]
 clear hs hsz hr hb hG hbad hP
 go_enter Try.func12, Try.ntmps12
 go_wp2
 refine wp_scope_loop 0 (by rfl) ?_
 go_wp2_with (fail)
 have hC := HR.out
 rw [HSZ.out, HS.out] at hC
 rw [HSZ.out]
 refine (token_Split.has _ _ l _ (by rw [← HS.out] at hC ⊢; exact hC) (by omega) (HG.out.step HBB.out)).mono ?_
 rintro e wc ⟨rfl, b1⟩
 rw [HBAD.out]
 have HBC := Aside0.mk (HBB.out.trans (b1.mono HBB.out.size))
 clear b1 hC HBB HR kb d1 d1'
 go_wp2_with (fail)
 have hb0 : Below wc.heap.size wc (wc.alloc (.cells #[.string s, .slice none 0 0] 54)) := below_alloc (Below.refl _ _) _
 have X0 : (wc.alloc (.cells #[.string s, .slice none 0 0] 54)).heap[wc.heap.size]? = some (.cells #[.string s, .slice none 0 0] 54 (0, 0)) := heap_alloc_new wc _
 obtain ⟨g, hg⟩ : ∃ g, g = wc.heap.size := ⟨_, rfl⟩
 obtain ⟨B, hBe⟩ : ∃ B, B = w.heap.size := ⟨_, rfl⟩
 obtain ⟨wb, hwb⟩ : ∃ wb, wb = w := ⟨_, rfl⟩
 have hgB : B ≤ g := by have := HBC.out.size; omega
 have H2 := Aside0.mk (show WalkAt (wc.alloc (.cells #[.string s, .slice none 0 0] 54)) B g (fun _ => True) (Tk.bs l) [] from by rw [← HS.out]; exact ⟨_, by rw [hg]; exact X0, Kd.S_nil _ _ _ _ _, hgB, by omega⟩)
 have B2 := Aside0.mk (show Below B wb (wc.alloc (.cells #[.string s, .slice none 0 0] 54)) from by rw [hBe, hwb]; exact HBC.out.trans (hb0.mono HBC.out.size))
 have HGb := Aside0.mk (show Glob wb from by rw [hwb]; exact HG.out)
 have hposB : 0 < B := by omega
 rw [← hg]
 rw [← hBe, ← hwb]
 clear hb0 X0 HBC HG
 generalize wc.alloc _ = w0 at *
 have HBE := Lib.hid hBe
 have HWB := Lib.hid hwb
 clear hg hBe hwb
 refine wp_label ?_
 rename_i hlb
 refine hlb _ _ ?_
 refine wp_at_label ?_
 refine LoopAt.intro (fun aB_ kq_ a1 w1 => ∃ (u2 u3 u16 u17 u18 u19 u20 u21 u22 u23 u24 u25 u26 u27 u28 u29 u30 u31 u32 u33 u34 u35 : Value), (∃ (m : List UInt8) (L : List S32) (fst : Bool), m.length < kq_ ∧ Aside0 (fst = decide (m.length = l.length)) ∧ Aside0 (L.length + m.length ≤ l.length) ∧ Aside0 (P = (Tk.pieces kq_ fst m).map fun t => L ++ t) ∧ Aside0 (WalkAt w1 B g (fun _ => True) (Tk.bs m) L) ∧ Aside0 (Below B wb w1)) ∧ a1 = ((((((((((((((((((((((aB_.put (some 2) u2).put (some 3) u3).put (some 16) u16).put (some 17) u17).put (some 18) u18).put (some 19) u19).put (some 20) u20).put (some 21) u21).put (some 22) u22).put (some 23) u23).put (some 24) u24).put (some 25) u25).put (some 26) u26).put (some 27) u27).put (some 28) u28).put (some 29) u29).put (some 30) u30).put (some 31) u31).put (some 32) u32).put (some 33) u33).put (some 34) u34).put (some 35) u35)) (l.length + 1) ?_ ?_
 ·(repeat apply Exists.intro)
  (try simp only [Act.put, List.setIfInBounds_toArray, List.set_cons_zero, List.set_cons_succ])
  refine ⟨?_, rfl⟩
  exact ⟨l, [], true, Nat.lt_succ_self _, ⟨by simp⟩, ⟨by simp⟩, ⟨by rw [HP.out]; simp⟩, H2, B2⟩
 ·intro gk a1 wr hinv
  obtain ⟨u2, u3, u16, u17, u18, u19, u20, u21, u22, u23, u24, u25, u26, u27, u28, u29, u30, u31, u32, u33, u34, u35, hrel, ha⟩ := hinv
  subst ha
  (try simp only [Act.put, List.setIfInBounds_toArray, List.set_cons_zero, List.set_cons_succ])
  intro Js0 Ks0 hJs0 hKs0
  clear H2 B2 HP
  obtain ⟨m, L, fst, hmk, HFS, HLM, HP, H, HB⟩ := hrel
  obtain ⟨g1, rfl⟩ : ∃ g1, gk = g1 + 1 := ⟨gk - 1, by omega⟩
  have hlm := HLM.out
  have hsl := HSZ.out
  have hmz := bs_size m
  have c0 := H.out.cell0
  have HG1 := Aside0.mk (HGb.out.below HB.out (by show 0 < B; omega))
  by_cases hm : m = []
  ·have hPL : P = some L := by
    rw [HP.out, Tk.pieces, if_pos hm]; simp
   have HPL := Lib.hid hPL
   have e1 := bs_none hm
   have H0 := H.out
   obtain ⟨v, h1, h2, _⟩ := H0
   obtain ⟨A1, c1, rfl⟩ := Kd.S_slice h2
   have c1' := (blk_cell h1 1).trans rfl
   have H2 := Aside0.mk h2
   clear h1 h2 hPL hm HP hlm hsl hmz
   go_wp2_with (fail)
   (try simp only [Exit.inBlock, Exit.then, jump_ret])
   go_ret2
   have HBf := HB.out
   have H2f := H2.out
   rw [HBE.out, HWB.out] at HBf
   rw [HBE.out] at H2f
   refine ⟨fun t h => ?_, (fun h => by rw [HPL.out] at h; cases h), HBf⟩
   rw [HPL.out] at h
   obtain rfl := Option.some.inj h
   exact ⟨_, rfl, Kd.S_mono H2f (fun _ _ => trivial)⟩
  obtain ⟨e1, e2, e3, e4⟩ := bs_some hm
  have hP1 : P = ((Tk.next fst m).bind fun p => (Tk.pieces g1 false p.2).map fun t => p.1 :: t).map fun t => L ++ t := by
   rw [HP.out, Tk.pieces, if_neg hm]
  have hfs : ((((Tk.bs m).size : Nat) : Int) == ((s.size : Nat) : Int)) = fst := by
   rw [HFS.out, hmz, hsl]
   rw [Bool.eq_iff_iff, beq_iff_eq, decide_eq_true_eq]
   omega
  have hfs2 : ((Tk.bs m).size == s.size) = fst := by
   rw [HFS.out, hmz, hsl]
   rw [Bool.eq_iff_iff, beq_iff_eq, decide_eq_true_eq]
  have HP1 := Lib.hid hP1
  obtain ⟨res, hres⟩ : ∃ res, Tk.next fst m = res := ⟨_, rfl⟩
  have CN := Aside0.mk (token_walk_next.all B g fst m res L wr H.out HG1.out (by omega) (by omega) (fun _ _ => trivial) hres)
  have HRS := Lib.hid hres
  have HM := Lib.hid hm
  clear hP1 hres hm HP hsl hmz
  go_wp2_with (go_at_call 25; (with_reducible refine CN.out.mono ?_))
  rintro e wn ⟨hy, hn, bn⟩
  have B3 := Aside0.mk (HB.out.trans bn)
  clear bn CN
  cases hr : res with
  | none =>
   obtain rfl := hn hr
   have hPN : P = none := by rw [HP1.out, HRS.out, hr]; rfl
   have HPN := Lib.hid hPN
   clear hy hn hPN hr
   go_wp2_with (fail)
   (try simp only [Exit.inBlock, Exit.then, jump_ret])
   go_ret2
   have HBf := B3.out
   rw [HBE.out, HWB.out] at HBf
   exact ⟨(fun t h => by rw [HPN.out] at h; cases h), fun _ => rfl, HBf⟩
  | some p =>
   obtain ⟨t0, r0⟩ := p
   obtain ⟨rfl, h1⟩ := hy t0 r0 hr
   have H3 := Aside0.mk h1
   have hrl := next_len HM.out (HRS.out.trans hr)
   have hPN : P = (Tk.pieces g1 false r0).map fun t => (L ++ [t0]) ++ t := by
    rw [HP1.out, HRS.out, hr]
    cases hq : Tk.pieces g1 false r0 with
    | none => simp [hq]
    | some t => simp [hq]
   have HPN := Aside0.mk hPN
   clear hy hn h1 hPN hr hfs hfs2
   go_wp2_with (fail)
   refine wp_goto (And.intro rfl ?_)
   refine hKs0 _ _ ?_
   go_roundg g1
   case measure => omega
   case rel => exact ⟨r0, L ++ [t0], false, by omega, ⟨by rw [eq_comm, decide_eq_false_iff_not]; omega⟩, ⟨by rw [List.length_append, List.length_singleton]; omega⟩, HPN, H3, B3⟩
theorem token_Split.big (l : List UInt8) (hl : 20000 < l.length) (hl2 : l.length ≤ 9223372036854775807) (w : World) :
 Calls Try.prog 12 #[.string (Tk.bs l)] w fun e w' => e = .returned (.tuple #[.slice none 0 0, .int .i64 3]) ∧ w = w' := by
 have hsz := bs_size l
 obtain ⟨s, hs⟩ : ∃ s, s = Tk.bs l := ⟨_, rfl⟩
 rw [← hs] at hsz ⊢
 have d1 : decide ((20000 : Int) < (s.size : Int)) = true := decide_eq_true (by omega)
 have d1' : decide (20000 < s.size) = true := decide_eq_true (by omega)
 clear hs hsz
 go_enter Try.func12, Try.ntmps12
 go_wp2
 refine wp_scope_loop 0 (by rfl) ?_
 go_wp2_with (fail)
 (try simp only [Exit.inBlock, Exit.then, jump_ret])
 go_ret2
 exact ⟨rfl, rfl⟩
theorem token_Split.bad (l : List UInt8) (hl : l.length ≤ 20000) (hbad : l.any badB = true) (w : World) (hG : Glob w) :
 Calls Try.prog 12 #[.string (Tk.bs l)] w fun e w' => e = .returned (.tuple #[.slice none 0 0, .int .i64 4]) ∧ Below w.heap.size w w' := by
 have hsz := bs_size l
 obtain ⟨s, hs⟩ : ∃ s, s = Tk.bs l := ⟨_, rfl⟩
 have d1 : decide ((20000 : Int) < (s.size : Int)) = false := decide_eq_false (by rw [hs, hsz]; omega)
 have d1' : decide (20000 < s.size) = false := decide_eq_false (by rw [hs, hsz]; omega)
 have kb := fun W => print_bytes (P := Try.prog) 9 35 5 Try.underlying9 Try.underlying35 Try.underlying5 s W
 have hr : Kd.C (Kd.int .u8) (Lib.bytesWorld w 5 s) (some ⟨w.heap.size, 0, none⟩) s.size (bytesOf s) := Kd.C_of_reads (enc := Value.int .u8) (d := (0 : Int)) (h1 := fun _ => rfl) (bytes_reads w 5 s (by rw [hs, hsz]; omega))
 have hb : Below w.heap.size w (Lib.bytesWorld w 5 s) := bytes_below (Below.refl _ _) (Nat.le_refl _) _ _
 have HSZ := Lib.hid (show s.size = l.length by rw [hs, hsz])
 have HS := Lib.hid hs
 have HBAD := Lib.hid hbad
 have HR := Aside0.mk hr
 have HBB := Aside0.mk hb
 have HG := Aside0.mk hG
 rw [← hs]
 clear hs hsz hr hb hG hbad
 go_enter Try.func12, Try.ntmps12
 go_wp2
 refine wp_scope_loop 0 (by rfl) ?_
 go_wp2_with (fail)
 have hC := HR.out
 rw [HSZ.out, HS.out] at hC
 rw [HSZ.out]
 refine (token_Split.has _ _ l _ (by rw [← HS.out] at hC ⊢; exact hC) (by omega) (HG.out.step HBB.out)).mono ?_
 rintro e wc ⟨rfl, b1⟩
 rw [HBAD.out]
 have HBC := Aside0.mk (HBB.out.trans (b1.mono HBB.out.size))
 clear b1 hC HBB HR kb d1 d1'
 go_wp2_with (fail)
 (try simp only [Exit.inBlock, Exit.then, jump_ret])
 go_ret2
 exact ⟨rfl, HBC.out⟩
theorem badB_eq (l : List UInt8) : l.any badB = l.any (fun c => !Tk.allowed c) := rfl
theorem token_Split.calls (a0 : ByteArray) (r1 : List S32) (r2 : Int) (w : World) (hG : Glob w) (h : token_Split.f a0 = some (r1, r2)) :
 Calls Try.prog 12 #[.string a0] w fun e w' => ∃ v0_ : Value, e = .returned (.tuple #[v0_, .int .i64 r2]) ∧ Kd.S k32 32 w' w.heap.size (fun _ => True) v0_ r1 ∧ Below w.heap.size w w' := by
 unfold token_Split.f at h
 have hl2 : a0.size ≤ 9223372036854775807 := by
  refine Classical.byContradiction fun hc => ?_
  rw [if_neg hc] at h
  cases h
 rw [if_pos hl2] at h
 have hx := Option.some.inj h
 rw [Lib.size_eq] at hl2
 have ha : a0 = Tk.bs a0.data.toList := (bs_data a0).symm
 rw [ha]
 rw [ha] at hx
 generalize a0.data.toList = l at *
 clear ha h
 have hx : Tk.split l = (r1, r2) := hx
 unfold Tk.split at hx
 by_cases hl : 20000 < l.length
 ·rw [if_pos hl] at hx
  obtain ⟨rfl, rfl⟩ := Prod.mk.inj hx
  refine (token_Split.big l hl hl2 w).mono ?_
  rintro e w' ⟨rfl, rfl⟩
  exact ⟨_, rfl, Kd.S_nil _ _ _ _ _, Below.refl _ _⟩
 rw [if_neg hl] at hx
 by_cases hb : l.any badB = true
 ·rw [if_pos (by rw [← badB_eq]; exact hb)] at hx
  obtain ⟨rfl, rfl⟩ := Prod.mk.inj hx
  refine (token_Split.bad l (by omega) hb w hG).mono ?_
  rintro e w' ⟨rfl, b⟩
  exact ⟨_, rfl, Kd.S_nil _ _ _ _ _, b⟩
 rw [if_neg (by rw [← badB_eq]; exact hb)] at hx
 refine (token_Split.loop l _ (by omega) (Bool.eq_false_iff.2 hb) rfl w hG).mono ?_
 rintro e w' ⟨hy, hn, b⟩
 cases hp : Tk.pieces (l.length + 1) true l with
 | none =>
  rw [hp] at hx
  obtain ⟨rfl, rfl⟩ := Prod.mk.inj hx
  exact ⟨_, hn hp, Kd.S_nil _ _ _ _ _, b⟩
 | some t =>
  rw [hp] at hx
  obtain ⟨rfl, rfl⟩ := Prod.mk.inj hx
  obtain ⟨v, he, hr⟩ := hy t hp
  exact ⟨v, he, hr, b⟩
def newellaw02_awake.f  : Option (Bool) := (token_Split.f (⟨#[60, 97, 62, 120, 60, 47, 97, 62]⟩ : ByteArray)).bind fun bt112 => (if bt112.2 = 0 then (if (bt112.1.length : Int) = 3 then (if 0 < (bt112.1.length : Int) then (if ((rd_T32 bt112.1 0).f1).toList = ([97] : List UInt8) then (if 1 < (bt112.1.length : Int) then (some (((rd_T32 bt112.1 1).f2).toList == ([120] : List UInt8))) else (none)) else (some false)) else (none)) else (some false)) else (some false))
theorem newellaw02_awake.calls  (r : Bool) (w : World) (hG : Glob w) (h : newellaw02_awake.f  = some r) :
 Calls Try.prog 11 #[] w fun e w' => e = .returned (.bool r) ∧ Below w.heap.size w w' := by
 have HG := Aside0.mk hG
 clear hG
 have HB := Aside0.mk (Below.refl w.heap.size w)
 have H : ((token_Split.f (⟨#[60, 97, 62, 120, 60, 47, 97, 62]⟩ : ByteArray)).bind fun bt112 => (if bt112.2 = 0 then (if (bt112.1.length : Int) = 3 then (if 0 < (bt112.1.length : Int) then (if ((rd_T32 bt112.1 0).f1).toList = ([97] : List UInt8) then (if 1 < (bt112.1.length : Int) then (some (((rd_T32 bt112.1 1).f2).toList == ([120] : List UInt8))) else (none)) else (some false)) else (none)) else (some false)) else (some false))) = some r := h
 clear h
 replace H := bi H
 obtain ⟨⟨t112, t113⟩, A10, H⟩ := H
 try dsimp only at H
 have A1 := Aside0.mk A10
 clear A10
 by_cases c2 : t113 = 0
 rotate_left
 ·rw [if_neg c2] at H
  obtain ⟨c2b0, c2b1⟩ := eqF c2
  obtain rfl := Option.some.inj H
  go_enter Try.func11, Try.ntmps11
  go_wp2_with (first | (refine gl (some 4) Try.func12 #[.string (⟨#[60, 97, 62, 120, 60, 47, 97, 62]⟩ : ByteArray)] ?_; (with_reducible refine (token_Split.calls (⟨#[60, 97, 62, 120, 60, 47, 97, 62]⟩ : ByteArray) t112 t113 _ (gS HG) A1.out).mono ?_); rintro e w13 ⟨v114, rfl, ho0, hb⟩; refine ⟨_, rfl, ?_⟩; have HO115 := Aside0.mk (Kd.S_lower ho0 (below_size bE)); replace HB := sB hb; (try clear hb); (try clear ho0)))
  go_ret
  exact ⟨eA, bE⟩
 rw [if_pos c2] at H
 obtain ⟨c2b0, c2b1⟩ := eqT c2
 clear c2
 by_cases c3 : (t112.length : Int) = 3
 rotate_left
 ·rw [if_neg c3] at H
  obtain ⟨c3b0, c3b1⟩ := eqF c3
  obtain rfl := Option.some.inj H
  go_enter Try.func11, Try.ntmps11
  go_wp2_with (first | (refine gl (some 4) Try.func12 #[.string (⟨#[60, 97, 62, 120, 60, 47, 97, 62]⟩ : ByteArray)] ?_; (with_reducible refine (token_Split.calls (⟨#[60, 97, 62, 120, 60, 47, 97, 62]⟩ : ByteArray) t112 t113 _ (gS HG) A1.out).mono ?_); rintro e w11 ⟨v114, rfl, ho0, hb⟩; refine ⟨_, rfl, ?_⟩; have HO115 := Aside0.mk (Kd.S_lower ho0 (below_size bE)); replace HB := sB hb; (try clear hb); (try clear ho0); obtain ⟨Ao12, co12, eo12⟩ := Kd.S_slice HO115.out; subst eo12))
  go_ret
  exact ⟨eA, bE⟩
 rw [if_pos c3] at H
 obtain ⟨c3b0, c3b1⟩ := eqT c3
 clear c3
 by_cases c4 : 0 < (t112.length : Int)
 rotate_left
 ·rw [if_neg c4] at H
  exact absurd H (by simp)
 rw [if_pos c4] at H
 have c4b0 := dT c4
 have c4b1 : decide (0 < t112.length) = true := decide_eq_true (by omega)
 clear c4
 by_cases c5 : ((rd_T32 t112 0).f1).toList = ([97] : List UInt8)
 rotate_left
 ·rw [if_neg c5] at H
  obtain ⟨c5b0, c5b1⟩ := eqF c5
  obtain rfl := Option.some.inj H
  go_enter Try.func11, Try.ntmps11
  go_wp2_with (first | (refine gl (some 4) Try.func12 #[.string (⟨#[60, 97, 62, 120, 60, 47, 97, 62]⟩ : ByteArray)] ?_; (with_reducible refine (token_Split.calls (⟨#[60, 97, 62, 120, 60, 47, 97, 62]⟩ : ByteArray) t112 t113 _ (gS HG) A1.out).mono ?_); rintro e w9 ⟨v114, rfl, ho0, hb⟩; refine ⟨_, rfl, ?_⟩; have HO115 := Aside0.mk (Kd.S_lower ho0 (below_size bE)); replace HB := sB hb; (try clear hb); (try clear ho0); obtain ⟨Ao10, co10, eo10⟩ := Kd.S_slice HO115.out; subst eo10; have p116 : 0 ≤ (0 : Int) := (by omega); have q116 : 0 < (t112.length : Int) := dA; obtain ⟨ad116, A116_3, c116_3, e116, hx116_0, hx116_1, hx116_2, hx116_3, hx116_4, hl116_3, hi116_3⟩ := at_T32 (Kd.S_reads' HO115.out).2.2 0 p116 q116; cases e116; obtain ⟨ce116, hce116, hMe116, hcc116⟩ := Kd.S_get HO115.out z32 0 p116 (by first | exact q116 | exact dA | (have e_ := (Kd.S_reads' HO115.out).1; omega)); obtain ⟨ve116_3, rfl, ge116_3⟩ := k32_openM hMe116; have hv116_3 := hcc116 3 _ rfl; rw [add_field _ _ 3 (by omega)] at hv116_3; replace hv116_3 := Option.some.inj (hv116_3.symm.trans hx116_3); rw [hv116_3] at ge116_3; have HL116_3 := Aside0.mk (show Kd.R k39 39 _ _ _ _ ((rd_T32 t112 0).f3) from ge116_3); clear hv116_3 ge116_3; clear hcc116 hce116; have qi116 : (0 < t112.length) = True := eq_true (by omega); (try rw [show ((0 : Int)).toNat = 0 from rfl] at hx116_0); (try rw [show 0 * 5 = 0 from rfl] at hx116_0); (try rw [Addr.add_zero'] at hx116_0); (try rw [show ((0 : Int)).toNat = 0 from rfl] at hx116_1); (try rw [show 0 * 5 = 0 from rfl] at hx116_1); (try rw [Addr.add_zero'] at hx116_1); (try rw [show ((0 : Int)).toNat = 0 from rfl] at hx116_2); (try rw [show 0 * 5 = 0 from rfl] at hx116_2); (try rw [Addr.add_zero'] at hx116_2); (try rw [show ((0 : Int)).toNat = 0 from rfl] at hx116_3); (try rw [show 0 * 5 = 0 from rfl] at hx116_3); (try rw [Addr.add_zero'] at hx116_3); (try rw [show ((0 : Int)).toNat = 0 from rfl] at hx116_4); (try rw [show 0 * 5 = 0 from rfl] at hx116_4); (try rw [Addr.add_zero'] at hx116_4); have HR116_3 := Aside0.mk hi116_3; have HC116_3 := Aside0.mk hl116_3; clear hi116_3 hl116_3; replace p116 := eq_true p116; replace q116 := eq_true q116))
  go_ret
  exact ⟨eA, bE⟩
 rw [if_pos c5] at H
 obtain ⟨c5b0, c5b1⟩ := eqT c5
 clear c5
 by_cases c6 : 1 < (t112.length : Int)
 rotate_left
 ·rw [if_neg c6] at H
  exact absurd H (by simp)
 rw [if_pos c6] at H
 have c6b0 := dT c6
 have c6b1 : decide (1 < t112.length) = true := decide_eq_true (by omega)
 clear c6
 obtain rfl := Option.some.inj H
 go_enter Try.func11, Try.ntmps11
 go_wp2_with (first | (refine gl (some 4) Try.func12 #[.string (⟨#[60, 97, 62, 120, 60, 47, 97, 62]⟩ : ByteArray)] ?_; (with_reducible refine (token_Split.calls (⟨#[60, 97, 62, 120, 60, 47, 97, 62]⟩ : ByteArray) t112 t113 _ (gS HG) A1.out).mono ?_); rintro e w7 ⟨v114, rfl, ho0, hb⟩; refine ⟨_, rfl, ?_⟩; have HO115 := Aside0.mk (Kd.S_lower ho0 (below_size bE)); replace HB := sB hb; (try clear hb); (try clear ho0); obtain ⟨Ao8, co8, eo8⟩ := Kd.S_slice HO115.out; subst eo8; have p116 : 0 ≤ (0 : Int) := (by omega); have q116 : 0 < (t112.length : Int) := dA; obtain ⟨ad116, A116_3, c116_3, e116, hx116_0, hx116_1, hx116_2, hx116_3, hx116_4, hl116_3, hi116_3⟩ := at_T32 (Kd.S_reads' HO115.out).2.2 0 p116 q116; cases e116; obtain ⟨ce116, hce116, hMe116, hcc116⟩ := Kd.S_get HO115.out z32 0 p116 (by first | exact q116 | exact dA | (have e_ := (Kd.S_reads' HO115.out).1; omega)); obtain ⟨ve116_3, rfl, ge116_3⟩ := k32_openM hMe116; have hv116_3 := hcc116 3 _ rfl; rw [add_field _ _ 3 (by omega)] at hv116_3; replace hv116_3 := Option.some.inj (hv116_3.symm.trans hx116_3); rw [hv116_3] at ge116_3; have HL116_3 := Aside0.mk (show Kd.R k39 39 _ _ _ _ ((rd_T32 t112 0).f3) from ge116_3); clear hv116_3 ge116_3; clear hcc116 hce116; have qi116 : (0 < t112.length) = True := eq_true (by omega); (try rw [show ((0 : Int)).toNat = 0 from rfl] at hx116_0); (try rw [show 0 * 5 = 0 from rfl] at hx116_0); (try rw [Addr.add_zero'] at hx116_0); (try rw [show ((0 : Int)).toNat = 0 from rfl] at hx116_1); (try rw [show 0 * 5 = 0 from rfl] at hx116_1); (try rw [Addr.add_zero'] at hx116_1); (try rw [show ((0 : Int)).toNat = 0 from rfl] at hx116_2); (try rw [show 0 * 5 = 0 from rfl] at hx116_2); (try rw [Addr.add_zero'] at hx116_2); (try rw [show ((0 : Int)).toNat = 0 from rfl] at hx116_3); (try rw [show 0 * 5 = 0 from rfl] at hx116_3); (try rw [Addr.add_zero'] at hx116_3); (try rw [show ((0 : Int)).toNat = 0 from rfl] at hx116_4); (try rw [show 0 * 5 = 0 from rfl] at hx116_4); (try rw [Addr.add_zero'] at hx116_4); have HR116_3 := Aside0.mk hi116_3; have HC116_3 := Aside0.mk hl116_3; clear hi116_3 hl116_3; replace p116 := eq_true p116; replace q116 := eq_true q116; have p117 : 0 ≤ (1 : Int) := (by omega); have q117 : 1 < (t112.length : Int) := dA; obtain ⟨ad117, A117_3, c117_3, e117, hx117_0, hx117_1, hx117_2, hx117_3, hx117_4, hl117_3, hi117_3⟩ := at_T32 (Kd.S_reads' HO115.out).2.2 1 p117 q117; obtain rfl : ad116 = ad117 := (by injection e117); obtain ⟨ce117, hce117, hMe117, hcc117⟩ := Kd.S_get HO115.out z32 1 p117 (by first | exact q117 | exact dA | (have e_ := (Kd.S_reads' HO115.out).1; omega)); obtain ⟨ve117_3, rfl, ge117_3⟩ := k32_openM hMe117; have hv117_3 := hcc117 3 _ rfl; rw [add_field _ _ 3 (by omega)] at hv117_3; replace hv117_3 := Option.some.inj (hv117_3.symm.trans hx117_3); rw [hv117_3] at ge117_3; have HL117_3 := Aside0.mk (show Kd.R k39 39 _ _ _ _ ((rd_T32 t112 1).f3) from ge117_3); clear hv117_3 ge117_3; clear hcc117 hce117; (try simp only [show (1 : Int).toNat = 1 from rfl, Nat.reduceMul, Nat.reduceEqDiff, Go.Addr.add, ↓reduceIte] at hx117_0); (try simp only [show (1 : Int).toNat = 1 from rfl, Nat.reduceMul, Nat.reduceEqDiff, Go.Addr.add, ↓reduceIte] at hx117_1); (try simp only [show (1 : Int).toNat = 1 from rfl, Nat.reduceMul, Nat.reduceEqDiff, Go.Addr.add, ↓reduceIte] at hx117_2); (try simp only [show (1 : Int).toNat = 1 from rfl, Nat.reduceMul, Nat.reduceEqDiff, Go.Addr.add, ↓reduceIte] at hx117_3); (try simp only [show (1 : Int).toNat = 1 from rfl, Nat.reduceMul, Nat.reduceEqDiff, Go.Addr.add, ↓reduceIte] at hx117_4); have qi117 : (1 < t112.length) = True := eq_true (by omega); (try rw [show ((1 : Int)).toNat = 1 from rfl] at hx117_0); (try rw [show 1 * 5 = 5 from rfl] at hx117_0); (try rw [show ((1 : Int)).toNat = 1 from rfl] at hx117_1); (try rw [show 1 * 5 = 5 from rfl] at hx117_1); (try rw [show ((1 : Int)).toNat = 1 from rfl] at hx117_2); (try rw [show 1 * 5 = 5 from rfl] at hx117_2); (try rw [show ((1 : Int)).toNat = 1 from rfl] at hx117_3); (try rw [show 1 * 5 = 5 from rfl] at hx117_3); (try rw [show ((1 : Int)).toNat = 1 from rfl] at hx117_4); (try rw [show 1 * 5 = 5 from rfl] at hx117_4); have HR117_3 := Aside0.mk hi117_3; have HC117_3 := Aside0.mk hl117_3; clear hi117_3 hl117_3; replace p117 := eq_true p117; replace q117 := eq_true q117))
 go_ret
 exact ⟨eA, bE⟩
def newellaw02_TokenLong.l0 : Nat → Int → Int → Int → List Int → Int → Int → Option (Bool)
 | 0, _, _, _, _, _, _ => none
 | k + 1, x0, x1, x2, x7, x24, x25 => if x25 < x24 then (if 0 ≤ x25 then (if x25 < (x7.length : Int) then (newellaw02_TokenLong.l0 k x0 x1 x2 (x7.set (x25 : Int).toNat 120) x24 (wrap64 (x25 + 1))) else (none)) else (none)) else ((token_Split.f (strOfNums x7)).bind fun bt140 => (if x0 > 20000 then ((some (([60, 97, 62, 116, 101, 120, 116, 60, 47, 97, 62] : List Int) : List Int)).bind fun y144 => (if 0 ≤ (wrap64 (Int.tmod (IntKind.u64.wrap (x2)) 11)) then (if (wrap64 (Int.tmod (IntKind.u64.wrap (x2)) 11)) < (y144.length : Int) then ((token_Split.f (strOfNums (y144.set ((wrap64 (Int.tmod (IntKind.u64.wrap (x2)) 11)) : Int).toNat x1))).bind fun bt148 => (if x1 < 32 then (if x1 = 9 then ((newellaw02_awake.f).bind fun t152 => (if t152 = true then (if bt140.2 = 3 then (some ((bt148.2 == 4) == false)) else (some false)) else (some false))) else (if x1 = 10 then ((newellaw02_awake.f).bind fun t153 => (if t153 = true then (if bt140.2 = 3 then (some ((bt148.2 == 4) == false)) else (some false)) else (some false))) else ((newellaw02_awake.f).bind fun t154 => (if t154 = true then (if bt140.2 = 3 then (some ((bt148.2 == 4) == (x1 != 13))) else (some false)) else (some false))))) else ((newellaw02_awake.f).bind fun t155 => (if t155 = true then (if bt140.2 = 3 then (some ((bt148.2 == 4) == false)) else (some false)) else (some false))))) else (none)) else (none))) else ((some (([60, 97, 62, 116, 101, 120, 116, 60, 47, 97, 62] : List Int) : List Int)).bind fun y156 => (if 0 ≤ (wrap64 (Int.tmod (IntKind.u64.wrap (x2)) 11)) then (if (wrap64 (Int.tmod (IntKind.u64.wrap (x2)) 11)) < (y156.length : Int) then ((token_Split.f (strOfNums (y156.set ((wrap64 (Int.tmod (IntKind.u64.wrap (x2)) 11)) : Int).toNat x1))).bind fun bt160 => (if x1 < 32 then (if x1 = 9 then ((newellaw02_awake.f).bind fun t164 => (if t164 = true then (if bt140.2 = 0 then (some ((bt160.2 == 4) == false)) else (some false)) else (some false))) else (if x1 = 10 then ((newellaw02_awake.f).bind fun t165 => (if t165 = true then (if bt140.2 = 0 then (some ((bt160.2 == 4) == false)) else (some false)) else (some false))) else ((newellaw02_awake.f).bind fun t166 => (if t166 = true then (if bt140.2 = 0 then (some ((bt160.2 == 4) == (x1 != 13))) else (some false)) else (some false))))) else ((newellaw02_awake.f).bind fun t167 => (if t167 = true then (if bt140.2 = 0 then (some ((bt160.2 == 4) == false)) else (some false)) else (some false))))) else (none)) else (none)))))
def newellaw02_TokenLong.f (k : Nat) (a0 : Int) (a1 : Int) (a2 : Int) : Option (Bool) := if 0 ≤ (wrap64 (19995 + (wrap64 (Int.tmod (IntKind.u64.wrap (a0)) 10)))) then (if (wrap64 (19995 + (wrap64 (Int.tmod (IntKind.u64.wrap (a0)) 10))) : Int).toNat ≤ 281474976710656 then ((some (List.replicate (wrap64 (19995 + (wrap64 (Int.tmod (IntKind.u64.wrap (a0)) 10))) : Int).toNat 0 : List Int)).bind fun y136 => (newellaw02_TokenLong.l0 k (wrap64 (19995 + (wrap64 (Int.tmod (IntKind.u64.wrap (a0)) 10)))) a1 a2 y136 (y136.length : Int) 0)) else (none)) else (none)
theorem newellaw02_TokenLong.calls (k : Nat) (a0 : Int) (a1 : Int) (a2 : Int) (r : Bool) (w : World) (hG : Glob w) (h : newellaw02_TokenLong.f k a0 a1 a2 = some r) (hr_ : r = true) :
 Calls Try.prog 8 #[.int .i64 a0, .int .u8 a1, .int .i64 a2] w fun e w' => e = .returned (.bool r) ∧ Below w.heap.size w w' := by
 have HG := Aside0.mk hG
 clear hG
 have HB := Aside0.mk (Below.refl w.heap.size w)
 have H : (if 0 ≤ (wrap64 (19995 + (wrap64 (Int.tmod (IntKind.u64.wrap (a0)) 10)))) then (if (wrap64 (19995 + (wrap64 (Int.tmod (IntKind.u64.wrap (a0)) 10))) : Int).toNat ≤ 281474976710656 then ((some (List.replicate (wrap64 (19995 + (wrap64 (Int.tmod (IntKind.u64.wrap (a0)) 10))) : Int).toNat 0 : List Int)).bind fun y136 => (newellaw02_TokenLong.l0 k (wrap64 (19995 + (wrap64 (Int.tmod (IntKind.u64.wrap (a0)) 10)))) a1 a2 y136 (y136.length : Int) 0)) else (none)) else (none)) = some r := h
 clear h
 obtain ⟨ji4, hji4⟩ : ∃ j_ : Int, (wrap64 (19995 + (wrap64 (Int.tmod (IntKind.u64.wrap (a0)) 10)))) = j_ := ⟨_, rfl⟩
 rw [hji4] at H
 have hji4w : (IntKind.i64.wrap (19995 + (wrap64 (Int.tmod (IntKind.u64.wrap (a0)) 10)))) = ji4 := (i64_w _).trans hji4
 by_cases c5 : 0 ≤ (ji4)
 rotate_left
 ·rw [if_neg c5] at H
  exact absurd H (by simp)
 rw [if_pos c5] at H
 have c5b0 := eq_true c5
 have c5b1 := dT c5
 clear c5
 by_cases c6 : (ji4 : Int).toNat ≤ 281474976710656
 rotate_left
 ·rw [if_neg c6] at H
  exact absurd H (by simp)
 rw [if_pos c6] at H
 have c6b0 := eq_true c6
 have c6b1 := dT c6
 clear c6
 obtain ⟨y136, hy136⟩ : ∃ y_ : List Int, y_ = (List.replicate (ji4 : Int).toNat 0) := ⟨_, rfl⟩
 replace H : (newellaw02_TokenLong.l0 k ji4 a1 a2 y136 (y136.length : Int) 0) = some r := by first | (rw [hy136]; with_reducible exact H) | (have H2_ := (Option.bind_some _ _).symm.trans H; rw [hy136]; with_reducible exact H2_) | (have H2_ := (Option.bind_some _ _).symm.trans H; with_reducible exact H2_) | with_reducible exact H | (rw [hy136]; exact H) | exact H
 have Ny136 := Aside0.mk hy136
 clear hy136
 have H' := Aside0.mk H
 clear H
 go_enter Try.func8, Try.ntmps8
 go_wp2_with (first | ((with_reducible refine gate_dst (N := 22) rfl ?_); refine Kd.R_make (Kd.int .u8) _ 5 rfl (N := 22) rfl 35 _ _ rfl ji4 rfl rfl Try.underlying35 (.int .u8 0) 1 info5 rfl (by decide) (by omega) 0 (ok := fun _ => True) (okp := fun _ => True) rfl (fun _ hk => hk) trivial (dA) (Nat.le_trans (Nat.mul_le_mul_right _ (dA : ji4.toNat ≤ 281474976710656)) (by omega)) (Below.refl _ _) (Nat.le_refl _) ?_; intro v137 w7 ho8 hb hg_ hnew_; clear hg_ hnew_; (first | rw [← Ny136.out] at ho8 | (simp only [Int.reduceToNat] at ho8; rw [← Ny136.out] at ho8)); have HO138 := Aside0.mk (Kd.R_lower ho8 (below_size bE)); replace HB := sB hb; clear hb ho8; obtain ⟨Ao9, co9, eo9⟩ := Kd.R_slice HO138.out; subst eo9))
 (try simp only [Act.put, List.setIfInBounds_toArray, List.set_cons_zero, List.set_cons_succ])
 go_loopg [25] k (fun kq v25 w' => ∃ (x7_1 : List Int) (x25_1 : Int), v25 = .int .i64 x25_1 ∧ Aside0 (newellaw02_TokenLong.l0 kq ji4 a1 a2 x7_1 (y136.length : Int) x25_1 = some r) ∧ Aside0 (kq ≤ k) ∧ Aside0 (Kd.R (Kd.int .u8) 5 w' w.heap.size (fun _ => True) (.slice Ao9 y136.length co9) x7_1) ∧ Aside0 (Below w.heap.size w w'))
 case atStart => exact ⟨(y136), (0), cA, H', ⟨Nat.le_refl _⟩, ⟨kR HO138⟩, ⟨bE⟩⟩
 clear H'
 try clear p2
 try clear c5
 try clear c5b0
 try clear c5b1
 try clear c6
 try clear c6b0
 try clear c6b1
 try clear p6
 try clear c8
 obtain ⟨x7_1, x25_1, rfl, HA, HK1, HO_7, HB⟩ := hrel
 have hl7_1 := (Kd.R_reads' HO_7.out).1
 rw [hl7_1] at HO_7
 (try simp only [hl7_1])
 cases gk with
 | zero => exact absurd HA.out (by simp [newellaw02_TokenLong.l0])
 | succ k1 =>
  have H := HA.out
  clear HA
  simp only [newellaw02_TokenLong.l0] at H
  by_cases c10 : x25_1 < (y136.length : Int)
  ·rw [if_pos c10] at H
   have c10b0 := dT c10
   clear c10
   by_cases c11 : 0 ≤ x25_1
   rotate_left
   ·rw [if_neg c11] at H
    exact absurd H (by simp)
   rw [if_pos c11] at H
   have c11b0 := dT c11
   clear c11
   by_cases c12 : x25_1 < (x7_1.length : Int)
   rotate_left
   ·rw [if_neg c12] at H
    exact absurd H (by simp)
   rw [if_pos c12] at H
   have c12b0 := dT c12
   clear c12
   obtain ⟨y139, hy139⟩ : ∃ y_ : List Int, y_ = (x7_1.set (x25_1 : Int).toNat 120) := ⟨_, rfl⟩
   replace H : (newellaw02_TokenLong.l0 k1 ji4 a1 a2 y139 (y136.length : Int) (wrap64 (x25_1 + 1))) = some r := by first | (rw [hy139]; with_reducible exact H) | (have H2_ := (Option.bind_some _ _).symm.trans H; rw [hy139]; with_reducible exact H2_) | (have H2_ := (Option.bind_some _ _).symm.trans H; with_reducible exact H2_) | with_reducible exact H | (rw [hy139]; exact H) | exact H
   have Ny139 := Aside0.mk hy139
   clear hy139
   have H' := Aside0.mk H
   clear H
   have p13 : 0 ≤ (x25_1 : Int) := dA
   have q13 : (x25_1 : Int) < ((x7_1.length : Int) : Int) := dA
   obtain ⟨go13, co13, eo13, gb13, gl13, cl13, HG13⟩ := Kd.R_form HO_7.out (by omega)
   (first | cases eo13 | (injection eo13 with ea_ en_ ec_; (first | subst ea_ | (injection ea_ with ea_; subst ea_)); subst ec_; clear en_))
   have GB13 := Aside0.mk gb13
   have GG13 := Aside0.mk HG13
   clear gb13 gl13 HG13
   obtain ⟨hx13_0, hf13_0⟩ := Kd.R_celln 0 HO_7.out (x25_1 : Int) p13 q13
   replace p13 := eq_true p13
   replace q13 := eq_true q13
   have HP14 := Kd.R_putg HO_7.out (x25_1 : Int) 120
   go_wp2_with (first | ((with_reducible refine gate_store (t := 5) (p := 30) rfl ?_); refine store_event (t := 5) (p := 30) (v := ?vo_w15) (w1 := (wr.setCell ⟨go13, (x25_1 : Int).toNat, none⟩ (.int .u8 120))) ?hg ?ho ?hn ?hr ?_; (case ho => rfl); (case hg => rfl); (case hn => rfl); (case hr => first | (go_simp; done) | (go_simp; rfl)); intro w15 hw; have hg : wr.grownBy w15 (some go13) := (by rw [hw]; exact HP14.2); have hp_ : Kd.R (Kd.int .u8) 5 w15 w.heap.size (fun _ => True) (.slice (some ⟨go13, 0, none⟩) x7_1.length co9) y139 := (by rw [hw, Ny139.out]; exact HP14.1); clear HP14; replace HO_7 := Aside0.mk (hp_); replace HB := Aside0.mk ((by rw [hw]; exact below_set (HB.out) GB13.out : Below w.heap.size w w15)); clear hg hw hp_))
   (try simp only [← hl7_1])
   go_roundg k1
   case measure => have := HK1.out; omega
   case rel => exact ⟨(y139), (wrap64 (x25_1 + 1)), cA, H', ⟨by have := HK1.out; omega⟩, ⟨by (try simp only [hl7_1]); (with_reducible repeat (first | apply Kd.R_alloc | apply Kd.R_drewN | apply Kd.R_drew)); exact HO_7.out⟩, ⟨bE⟩⟩
  rw [if_neg c10] at H
  have c10b0 := dF c10
  clear c10
  replace H := bi H
  obtain ⟨⟨t140, t141⟩, A160, H⟩ := H
  try dsimp only at H
  have A16 := Aside0.mk A160
  clear A160
  by_cases c17 : ji4 > 20000
  rotate_left
  ·rw [if_neg c17] at H
   have c17b0 := dF c17
   clear c17
   obtain ⟨y156, hy156⟩ : ∃ y_ : List Int, y_ = (([60, 97, 62, 116, 101, 120, 116, 60, 47, 97, 62] : List Int)) := ⟨_, rfl⟩
   replace H : (if 0 ≤ (wrap64 (Int.tmod (IntKind.u64.wrap (a2)) 11)) then (if (wrap64 (Int.tmod (IntKind.u64.wrap (a2)) 11)) < (y156.length : Int) then ((token_Split.f (strOfNums (y156.set ((wrap64 (Int.tmod (IntKind.u64.wrap (a2)) 11)) : Int).toNat a1))).bind fun bt160 => (if a1 < 32 then (if a1 = 9 then ((newellaw02_awake.f).bind fun t164 => (if t164 = true then (if t141 = 0 then (some ((bt160.2 == 4) == false)) else (some false)) else (some false))) else (if a1 = 10 then ((newellaw02_awake.f).bind fun t165 => (if t165 = true then (if t141 = 0 then (some ((bt160.2 == 4) == false)) else (some false)) else (some false))) else ((newellaw02_awake.f).bind fun t166 => (if t166 = true then (if t141 = 0 then (some ((bt160.2 == 4) == (a1 != 13))) else (some false)) else (some false))))) else ((newellaw02_awake.f).bind fun t167 => (if t167 = true then (if t141 = 0 then (some ((bt160.2 == 4) == false)) else (some false)) else (some false))))) else (none)) else (none)) = some r := by first | (rw [hy156]; with_reducible exact H) | (have H2_ := (Option.bind_some _ _).symm.trans H; rw [hy156]; with_reducible exact H2_) | (have H2_ := (Option.bind_some _ _).symm.trans H; with_reducible exact H2_) | with_reducible exact H | (rw [hy156]; exact H) | exact H
   have Ny156 := Aside0.mk hy156
   clear hy156
   obtain ⟨ji74, hji74⟩ : ∃ j_ : Int, (wrap64 (Int.tmod (IntKind.u64.wrap (a2)) 11)) = j_ := ⟨_, rfl⟩
   rw [hji74] at H
   (try rw [hji74] at A16)
   have hji74w : (IntKind.i64.wrap (Int.tmod (IntKind.u64.wrap (a2)) 11)) = ji74 := (i64_w _).trans hji74
   by_cases c75 : 0 ≤ (ji74)
   rotate_left
   ·rw [if_neg c75] at H
    exact absurd H (by simp)
   rw [if_pos c75] at H
   have c75b0 := dT c75
   clear c75
   by_cases c76 : (ji74) < (y156.length : Int)
   rotate_left
   ·rw [if_neg c76] at H
    exact absurd H (by simp)
   rw [if_pos c76] at H
   have c76b0 := dT c76
   clear c76
   obtain ⟨y159, hy159⟩ : ∃ y_ : List Int, y_ = (y156.set ((ji74) : Int).toNat a1) := ⟨_, rfl⟩
   replace H : ((token_Split.f (strOfNums y159)).bind fun bt160 => (if a1 < 32 then (if a1 = 9 then ((newellaw02_awake.f).bind fun t164 => (if t164 = true then (if t141 = 0 then (some ((bt160.2 == 4) == false)) else (some false)) else (some false))) else (if a1 = 10 then ((newellaw02_awake.f).bind fun t165 => (if t165 = true then (if t141 = 0 then (some ((bt160.2 == 4) == false)) else (some false)) else (some false))) else ((newellaw02_awake.f).bind fun t166 => (if t166 = true then (if t141 = 0 then (some ((bt160.2 == 4) == (a1 != 13))) else (some false)) else (some false))))) else ((newellaw02_awake.f).bind fun t167 => (if t167 = true then (if t141 = 0 then (some ((bt160.2 == 4) == false)) else (some false)) else (some false))))) = some r := by first | (rw [hy159]; with_reducible exact H) | (have H2_ := (Option.bind_some _ _).symm.trans H; rw [hy159]; with_reducible exact H2_) | (have H2_ := (Option.bind_some _ _).symm.trans H; with_reducible exact H2_) | with_reducible exact H | (rw [hy159]; exact H) | exact H
   have Ny159 := Aside0.mk hy159
   clear hy159
   replace H := bi H
   obtain ⟨⟨t160, t161⟩, A780, H⟩ := H
   try dsimp only at H
   have A78 := Aside0.mk A780
   clear A780
   by_cases c79 : a1 < 32
   rotate_left
   ·rw [if_neg c79] at H
    have c79b0 := dF c79
    clear c79
    replace H := bi H
    obtain ⟨t167, A1180, H⟩ := H
    try dsimp only at H
    have A118 := Aside0.mk A1180
    clear A1180
    by_cases c119 : t167 = true
    rotate_left
    ·replace c119 := Bool.eq_false_iff.mpr c119
     subst c119
     have H1 : (some false) = some r := by rw [if_neg (show ¬ (false = true) by decide)] at H; exact H
     clear H
     have H := H1
     clear H1
     exfalso
     obtain rfl := Option.some.inj H
     exact absurd hr_ (by decide)
    subst c119
    have H1 : (if t141 = 0 then (some ((t161 == 4) == false)) else (some false)) = some r := by rw [if_pos rfl] at H; exact H
    clear H
    have H := H1
    clear H1
    by_cases c120 : t141 = 0
    rotate_left
    ·rw [if_neg c120] at H
     obtain ⟨c120b0, c120b1⟩ := eqF c120
     exfalso
     obtain rfl := Option.some.inj H
     exact absurd hr_ (by decide)
    rw [if_pos c120] at H
    obtain ⟨c120b0, c120b1⟩ := eqT c120
    clear c120
    obtain rfl := Option.some.inj H
    have hcv121 := own_string (P := Try.prog) Try.underlying35 Try.underlying5 Try.underlying9 (Kd.own_of_R HO_7.out)
    have kc_ := fun (W : World) (C : Array Value) (n c : Nat) => Lib.run_convert_bytes_const (P := Try.prog) W 35 5 C n c Try.underlying35 Try.underlying5
    have hl_ : ((y156.length : Nat) : Int) = 11 := by rw [Ny156.out]; rfl
    have p_0 : 0 ≤ ((ji74) : Int) := dA
    have q_0 : ((ji74) : Int) < ((y156.length : Nat) : Int) := dA
    rw [hl_] at q_0
    have jn_ : ((ji74) : Int).toNat < 11 := by omega
    replace p_0 := eq_true p_0
    replace q_0 := eq_true q_0
    clear hl_
    (try have cl_ : decide (x25_1 < (x7_1.length : Int)) = false := by first | (rw [hl7_1]; assumption) | (rw [← hl7_1]; assumption))
    go_wp2_with (first | (refine gl (some 35) Try.func12 #[.string (strOfNums x7_1)] ?_; (with_reducible refine (token_Split.calls (strOfNums x7_1) t140 t141 _ (gS HG) A16.out).mono ?_); rintro e w122 ⟨v142, rfl, ho0, hb⟩; refine ⟨_, rfl, ?_⟩; have n9_ := sB hb; clear HB; have HB := n9_; clear n9_; (try clear hb); (try clear ho0); have hm_ : (w122.alloc (.cells #[.int .u8 60, .int .u8 97, .int .u8 62, .int .u8 116, .int .u8 101, .int .u8 120, .int .u8 116, .int .u8 60, .int .u8 47, .int .u8 97, .int .u8 62] 5 (11, 12))).heap[w122.heap.size]? = some (.cells ((([60, 97, 62, 116, 101, 120, 116, 60, 47, 97, 62] : List Int)).map (Value.int .u8)).toArray 5 (11, 11 + 1)) := heap_alloc_new w122 _; obtain ⟨hy_, hz_⟩ := mark_cell_ hm_ jn_ rfl; have hcv_ : (convert 35 9 (.slice (some ⟨w122.heap.size, 0, none⟩) 11 11)).run Try.prog ((w122.alloc (.cells #[.int .u8 60, .int .u8 97, .int .u8 62, .int .u8 116, .int .u8 101, .int .u8 120, .int .u8 116, .int .u8 60, .int .u8 47, .int .u8 97, .int .u8 62] 5 (11, 12))).setCell ⟨w122.heap.size, ((ji74) : Int).toNat, none⟩ (.int .u8 a1)) = .ok (.string (strOfNums y159)) ((w122.alloc (.cells #[.int .u8 60, .int .u8 97, .int .u8 62, .int .u8 116, .int .u8 101, .int .u8 120, .int .u8 116, .int .u8 60, .int .u8 47, .int .u8 97, .int .u8 62] 5 (11, 12))).setCell ⟨w122.heap.size, ((ji74) : Int).toNat, none⟩ (.int .u8 a1)) := (by rw [Ny159.out, Ny156.out]; exact mark_text_ hm_ jn_ rfl Try.underlying35 Try.underlying5 Try.underlying9); have n8_ : Aside0 (Below w.heap.size w ((w122.alloc (.cells #[.int .u8 60, .int .u8 97, .int .u8 62, .int .u8 116, .int .u8 101, .int .u8 120, .int .u8 116, .int .u8 60, .int .u8 47, .int .u8 97, .int .u8 62] 5 (11, 12))).setCell ⟨w122.heap.size, ((ji74) : Int).toNat, none⟩ (.int .u8 a1))) := Aside0.mk (below_set (below_alloc HB.out _) (below_size HB.out) : Below w.heap.size w _); clear HB; have HB := n8_; clear n8_ hm_) | (refine gl (some 52) Try.func12 #[.string (strOfNums y159)] ?_; (with_reducible refine (token_Split.calls (strOfNums y159) t160 t161 _ (gS HG) A78.out).mono ?_); rintro e w128 ⟨v162, rfl, ho0, hb⟩; refine ⟨_, rfl, ?_⟩; have n9_ := sB hb; clear HB; have HB := n9_; clear n9_; (try clear hb); (try clear ho0)) | (refine gl (some 69) Try.func11 #[] ?_; (with_reducible refine (newellaw02_awake.calls  true _ (gS HG) A118.out).mono ?_); rintro e w129 ⟨rfl, hb⟩; refine ⟨_, rfl, ?_⟩; have n9_ := sB hb; clear HB; have HB := n9_; clear n9_; (try clear hb); (try clear ho0)))
    go_ret
    exact ⟨by first | rfl | (simp [errW_none, errW_some] <;> rfl) | (simp only [← hji4, ← hji74]; first | rfl | (simp [errW_none, errW_some] <;> rfl)) | (simp [*, errW_none, errW_some] <;> rfl), bE⟩
   rw [if_pos c79] at H
   have c79b0 := dT c79
   clear c79
   by_cases c80 : a1 = 9
   ·rw [if_pos c80] at H
    obtain ⟨c80b0, c80b1⟩ := eqT c80
    clear c80
    replace H := bi H
    obtain ⟨t164, A810, H⟩ := H
    try dsimp only at H
    have A81 := Aside0.mk A810
    clear A810
    by_cases c82 : t164 = true
    rotate_left
    ·replace c82 := Bool.eq_false_iff.mpr c82
     subst c82
     have H1 : (some false) = some r := by rw [if_neg (show ¬ (false = true) by decide)] at H; exact H
     clear H
     have H := H1
     clear H1
     exfalso
     obtain rfl := Option.some.inj H
     exact absurd hr_ (by decide)
    subst c82
    have H1 : (if t141 = 0 then (some ((t161 == 4) == false)) else (some false)) = some r := by rw [if_pos rfl] at H; exact H
    clear H
    have H := H1
    clear H1
    by_cases c83 : t141 = 0
    rotate_left
    ·rw [if_neg c83] at H
     obtain ⟨c83b0, c83b1⟩ := eqF c83
     exfalso
     obtain rfl := Option.some.inj H
     exact absurd hr_ (by decide)
    rw [if_pos c83] at H
    obtain ⟨c83b0, c83b1⟩ := eqT c83
    clear c83
    obtain rfl := Option.some.inj H
    have hcv84 := own_string (P := Try.prog) Try.underlying35 Try.underlying5 Try.underlying9 (Kd.own_of_R HO_7.out)
    have kc_ := fun (W : World) (C : Array Value) (n c : Nat) => Lib.run_convert_bytes_const (P := Try.prog) W 35 5 C n c Try.underlying35 Try.underlying5
    have hl_ : ((y156.length : Nat) : Int) = 11 := by rw [Ny156.out]; rfl
    have p_0 : 0 ≤ ((ji74) : Int) := dA
    have q_0 : ((ji74) : Int) < ((y156.length : Nat) : Int) := dA
    rw [hl_] at q_0
    have jn_ : ((ji74) : Int).toNat < 11 := by omega
    replace p_0 := eq_true p_0
    replace q_0 := eq_true q_0
    clear hl_
    (try have cl_ : decide (x25_1 < (x7_1.length : Int)) = false := by first | (rw [hl7_1]; assumption) | (rw [← hl7_1]; assumption))
    go_wp2_with (first | (refine gl (some 35) Try.func12 #[.string (strOfNums x7_1)] ?_; (with_reducible refine (token_Split.calls (strOfNums x7_1) t140 t141 _ (gS HG) A16.out).mono ?_); rintro e w85 ⟨v142, rfl, ho0, hb⟩; refine ⟨_, rfl, ?_⟩; have n9_ := sB hb; clear HB; have HB := n9_; clear n9_; (try clear hb); (try clear ho0); have hm_ : (w85.alloc (.cells #[.int .u8 60, .int .u8 97, .int .u8 62, .int .u8 116, .int .u8 101, .int .u8 120, .int .u8 116, .int .u8 60, .int .u8 47, .int .u8 97, .int .u8 62] 5 (11, 12))).heap[w85.heap.size]? = some (.cells ((([60, 97, 62, 116, 101, 120, 116, 60, 47, 97, 62] : List Int)).map (Value.int .u8)).toArray 5 (11, 11 + 1)) := heap_alloc_new w85 _; obtain ⟨hy_, hz_⟩ := mark_cell_ hm_ jn_ rfl; have hcv_ : (convert 35 9 (.slice (some ⟨w85.heap.size, 0, none⟩) 11 11)).run Try.prog ((w85.alloc (.cells #[.int .u8 60, .int .u8 97, .int .u8 62, .int .u8 116, .int .u8 101, .int .u8 120, .int .u8 116, .int .u8 60, .int .u8 47, .int .u8 97, .int .u8 62] 5 (11, 12))).setCell ⟨w85.heap.size, ((ji74) : Int).toNat, none⟩ (.int .u8 a1)) = .ok (.string (strOfNums y159)) ((w85.alloc (.cells #[.int .u8 60, .int .u8 97, .int .u8 62, .int .u8 116, .int .u8 101, .int .u8 120, .int .u8 116, .int .u8 60, .int .u8 47, .int .u8 97, .int .u8 62] 5 (11, 12))).setCell ⟨w85.heap.size, ((ji74) : Int).toNat, none⟩ (.int .u8 a1)) := (by rw [Ny159.out, Ny156.out]; exact mark_text_ hm_ jn_ rfl Try.underlying35 Try.underlying5 Try.underlying9); have n8_ : Aside0 (Below w.heap.size w ((w85.alloc (.cells #[.int .u8 60, .int .u8 97, .int .u8 62, .int .u8 116, .int .u8 101, .int .u8 120, .int .u8 116, .int .u8 60, .int .u8 47, .int .u8 97, .int .u8 62] 5 (11, 12))).setCell ⟨w85.heap.size, ((ji74) : Int).toNat, none⟩ (.int .u8 a1))) := Aside0.mk (below_set (below_alloc HB.out _) (below_size HB.out) : Below w.heap.size w _); clear HB; have HB := n8_; clear n8_ hm_) | (refine gl (some 52) Try.func12 #[.string (strOfNums y159)] ?_; (with_reducible refine (token_Split.calls (strOfNums y159) t160 t161 _ (gS HG) A78.out).mono ?_); rintro e w91 ⟨v162, rfl, ho0, hb⟩; refine ⟨_, rfl, ?_⟩; have n9_ := sB hb; clear HB; have HB := n9_; clear n9_; (try clear hb); (try clear ho0)) | (refine gl (some 69) Try.func11 #[] ?_; (with_reducible refine (newellaw02_awake.calls  true _ (gS HG) A81.out).mono ?_); rintro e w92 ⟨rfl, hb⟩; refine ⟨_, rfl, ?_⟩; have n9_ := sB hb; clear HB; have HB := n9_; clear n9_; (try clear hb); (try clear ho0)))
    go_ret
    exact ⟨by first | rfl | (simp [errW_none, errW_some] <;> rfl) | (simp only [← hji4, ← hji74]; first | rfl | (simp [errW_none, errW_some] <;> rfl)) | (simp [*, errW_none, errW_some] <;> rfl), bE⟩
   rw [if_neg c80] at H
   obtain ⟨c80b0, c80b1⟩ := eqF c80
   by_cases c93 : a1 = 10
   rotate_left
   ·rw [if_neg c93] at H
    obtain ⟨c93b0, c93b1⟩ := eqF c93
    replace H := bi H
    obtain ⟨t166, A1060, H⟩ := H
    try dsimp only at H
    have A106 := Aside0.mk A1060
    clear A1060
    by_cases c107 : t166 = true
    rotate_left
    ·replace c107 := Bool.eq_false_iff.mpr c107
     subst c107
     have H1 : (some false) = some r := by rw [if_neg (show ¬ (false = true) by decide)] at H; exact H
     clear H
     have H := H1
     clear H1
     exfalso
     obtain rfl := Option.some.inj H
     exact absurd hr_ (by decide)
    subst c107
    have H1 : (if t141 = 0 then (some ((t161 == 4) == (a1 != 13))) else (some false)) = some r := by rw [if_pos rfl] at H; exact H
    clear H
    have H := H1
    clear H1
    by_cases c108 : t141 = 0
    rotate_left
    ·rw [if_neg c108] at H
     obtain ⟨c108b0, c108b1⟩ := eqF c108
     exfalso
     obtain rfl := Option.some.inj H
     exact absurd hr_ (by decide)
    rw [if_pos c108] at H
    obtain ⟨c108b0, c108b1⟩ := eqT c108
    clear c108
    obtain rfl := Option.some.inj H
    have hcv109 := own_string (P := Try.prog) Try.underlying35 Try.underlying5 Try.underlying9 (Kd.own_of_R HO_7.out)
    have kc_ := fun (W : World) (C : Array Value) (n c : Nat) => Lib.run_convert_bytes_const (P := Try.prog) W 35 5 C n c Try.underlying35 Try.underlying5
    have hl_ : ((y156.length : Nat) : Int) = 11 := by rw [Ny156.out]; rfl
    have p_0 : 0 ≤ ((ji74) : Int) := dA
    have q_0 : ((ji74) : Int) < ((y156.length : Nat) : Int) := dA
    rw [hl_] at q_0
    have jn_ : ((ji74) : Int).toNat < 11 := by omega
    replace p_0 := eq_true p_0
    replace q_0 := eq_true q_0
    clear hl_
    (try have cl_ : decide (x25_1 < (x7_1.length : Int)) = false := by first | (rw [hl7_1]; assumption) | (rw [← hl7_1]; assumption))
    go_wp2_with (first | (refine gl (some 35) Try.func12 #[.string (strOfNums x7_1)] ?_; (with_reducible refine (token_Split.calls (strOfNums x7_1) t140 t141 _ (gS HG) A16.out).mono ?_); rintro e w110 ⟨v142, rfl, ho0, hb⟩; refine ⟨_, rfl, ?_⟩; have n9_ := sB hb; clear HB; have HB := n9_; clear n9_; (try clear hb); (try clear ho0); have hm_ : (w110.alloc (.cells #[.int .u8 60, .int .u8 97, .int .u8 62, .int .u8 116, .int .u8 101, .int .u8 120, .int .u8 116, .int .u8 60, .int .u8 47, .int .u8 97, .int .u8 62] 5 (11, 12))).heap[w110.heap.size]? = some (.cells ((([60, 97, 62, 116, 101, 120, 116, 60, 47, 97, 62] : List Int)).map (Value.int .u8)).toArray 5 (11, 11 + 1)) := heap_alloc_new w110 _; obtain ⟨hy_, hz_⟩ := mark_cell_ hm_ jn_ rfl; have hcv_ : (convert 35 9 (.slice (some ⟨w110.heap.size, 0, none⟩) 11 11)).run Try.prog ((w110.alloc (.cells #[.int .u8 60, .int .u8 97, .int .u8 62, .int .u8 116, .int .u8 101, .int .u8 120, .int .u8 116, .int .u8 60, .int .u8 47, .int .u8 97, .int .u8 62] 5 (11, 12))).setCell ⟨w110.heap.size, ((ji74) : Int).toNat, none⟩ (.int .u8 a1)) = .ok (.string (strOfNums y159)) ((w110.alloc (.cells #[.int .u8 60, .int .u8 97, .int .u8 62, .int .u8 116, .int .u8 101, .int .u8 120, .int .u8 116, .int .u8 60, .int .u8 47, .int .u8 97, .int .u8 62] 5 (11, 12))).setCell ⟨w110.heap.size, ((ji74) : Int).toNat, none⟩ (.int .u8 a1)) := (by rw [Ny159.out, Ny156.out]; exact mark_text_ hm_ jn_ rfl Try.underlying35 Try.underlying5 Try.underlying9); have n8_ : Aside0 (Below w.heap.size w ((w110.alloc (.cells #[.int .u8 60, .int .u8 97, .int .u8 62, .int .u8 116, .int .u8 101, .int .u8 120, .int .u8 116, .int .u8 60, .int .u8 47, .int .u8 97, .int .u8 62] 5 (11, 12))).setCell ⟨w110.heap.size, ((ji74) : Int).toNat, none⟩ (.int .u8 a1))) := Aside0.mk (below_set (below_alloc HB.out _) (below_size HB.out) : Below w.heap.size w _); clear HB; have HB := n8_; clear n8_ hm_) | (refine gl (some 52) Try.func12 #[.string (strOfNums y159)] ?_; (with_reducible refine (token_Split.calls (strOfNums y159) t160 t161 _ (gS HG) A78.out).mono ?_); rintro e w116 ⟨v162, rfl, ho0, hb⟩; refine ⟨_, rfl, ?_⟩; have n9_ := sB hb; clear HB; have HB := n9_; clear n9_; (try clear hb); (try clear ho0)) | (refine gl (some 69) Try.func11 #[] ?_; (with_reducible refine (newellaw02_awake.calls  true _ (gS HG) A106.out).mono ?_); rintro e w117 ⟨rfl, hb⟩; refine ⟨_, rfl, ?_⟩; have n9_ := sB hb; clear HB; have HB := n9_; clear n9_; (try clear hb); (try clear ho0)))
    go_ret
    exact ⟨by first | rfl | (simp [errW_none, errW_some] <;> rfl) | (simp only [← hji4, ← hji74]; first | rfl | (simp [errW_none, errW_some] <;> rfl)) | (simp [*, errW_none, errW_some] <;> rfl), bE⟩
   rw [if_pos c93] at H
   obtain ⟨c93b0, c93b1⟩ := eqT c93
   clear c93
   replace H := bi H
   obtain ⟨t165, A940, H⟩ := H
   try dsimp only at H
   have A94 := Aside0.mk A940
   clear A940
   by_cases c95 : t165 = true
   rotate_left
   ·replace c95 := Bool.eq_false_iff.mpr c95
    subst c95
    have H1 : (some false) = some r := by rw [if_neg (show ¬ (false = true) by decide)] at H; exact H
    clear H
    have H := H1
    clear H1
    exfalso
    obtain rfl := Option.some.inj H
    exact absurd hr_ (by decide)
   subst c95
   have H1 : (if t141 = 0 then (some ((t161 == 4) == false)) else (some false)) = some r := by rw [if_pos rfl] at H; exact H
   clear H
   have H := H1
   clear H1
   by_cases c96 : t141 = 0
   rotate_left
   ·rw [if_neg c96] at H
    obtain ⟨c96b0, c96b1⟩ := eqF c96
    exfalso
    obtain rfl := Option.some.inj H
    exact absurd hr_ (by decide)
   rw [if_pos c96] at H
   obtain ⟨c96b0, c96b1⟩ := eqT c96
   clear c96
   obtain rfl := Option.some.inj H
   have hcv97 := own_string (P := Try.prog) Try.underlying35 Try.underlying5 Try.underlying9 (Kd.own_of_R HO_7.out)
   have kc_ := fun (W : World) (C : Array Value) (n c : Nat) => Lib.run_convert_bytes_const (P := Try.prog) W 35 5 C n c Try.underlying35 Try.underlying5
   have hl_ : ((y156.length : Nat) : Int) = 11 := by rw [Ny156.out]; rfl
   have p_0 : 0 ≤ ((ji74) : Int) := dA
   have q_0 : ((ji74) : Int) < ((y156.length : Nat) : Int) := dA
   rw [hl_] at q_0
   have jn_ : ((ji74) : Int).toNat < 11 := by omega
   replace p_0 := eq_true p_0
   replace q_0 := eq_true q_0
   clear hl_
   (try have cl_ : decide (x25_1 < (x7_1.length : Int)) = false := by first | (rw [hl7_1]; assumption) | (rw [← hl7_1]; assumption))
   go_wp2_with (first | (refine gl (some 35) Try.func12 #[.string (strOfNums x7_1)] ?_; (with_reducible refine (token_Split.calls (strOfNums x7_1) t140 t141 _ (gS HG) A16.out).mono ?_); rintro e w98 ⟨v142, rfl, ho0, hb⟩; refine ⟨_, rfl, ?_⟩; have n9_ := sB hb; clear HB; have HB := n9_; clear n9_; (try clear hb); (try clear ho0); have hm_ : (w98.alloc (.cells #[.int .u8 60, .int .u8 97, .int .u8 62, .int .u8 116, .int .u8 101, .int .u8 120, .int .u8 116, .int .u8 60, .int .u8 47, .int .u8 97, .int .u8 62] 5 (11, 12))).heap[w98.heap.size]? = some (.cells ((([60, 97, 62, 116, 101, 120, 116, 60, 47, 97, 62] : List Int)).map (Value.int .u8)).toArray 5 (11, 11 + 1)) := heap_alloc_new w98 _; obtain ⟨hy_, hz_⟩ := mark_cell_ hm_ jn_ rfl; have hcv_ : (convert 35 9 (.slice (some ⟨w98.heap.size, 0, none⟩) 11 11)).run Try.prog ((w98.alloc (.cells #[.int .u8 60, .int .u8 97, .int .u8 62, .int .u8 116, .int .u8 101, .int .u8 120, .int .u8 116, .int .u8 60, .int .u8 47, .int .u8 97, .int .u8 62] 5 (11, 12))).setCell ⟨w98.heap.size, ((ji74) : Int).toNat, none⟩ (.int .u8 a1)) = .ok (.string (strOfNums y159)) ((w98.alloc (.cells #[.int .u8 60, .int .u8 97, .int .u8 62, .int .u8 116, .int .u8 101, .int .u8 120, .int .u8 116, .int .u8 60, .int .u8 47, .int .u8 97, .int .u8 62] 5 (11, 12))).setCell ⟨w98.heap.size, ((ji74) : Int).toNat, none⟩ (.int .u8 a1)) := (by rw [Ny159.out, Ny156.out]; exact mark_text_ hm_ jn_ rfl Try.underlying35 Try.underlying5 Try.underlying9); have n8_ : Aside0 (Below w.heap.size w ((w98.alloc (.cells #[.int .u8 60, .int .u8 97, .int .u8 62, .int .u8 116, .int .u8 101, .int .u8 120, .int .u8 116, .int .u8 60, .int .u8 47, .int .u8 97, .int .u8 62] 5 (11, 12))).setCell ⟨w98.heap.size, ((ji74) : Int).toNat, none⟩ (.int .u8 a1))) := Aside0.mk (below_set (below_alloc HB.out _) (below_size HB.out) : Below w.heap.size w _); clear HB; have HB := n8_; clear n8_ hm_) | (refine gl (some 52) Try.func12 #[.string (strOfNums y159)] ?_; (with_reducible refine (token_Split.calls (strOfNums y159) t160 t161 _ (gS HG) A78.out).mono ?_); rintro e w104 ⟨v162, rfl, ho0, hb⟩; refine ⟨_, rfl, ?_⟩; have n9_ := sB hb; clear HB; have HB := n9_; clear n9_; (try clear hb); (try clear ho0)) | (refine gl (some 69) Try.func11 #[] ?_; (with_reducible refine (newellaw02_awake.calls  true _ (gS HG) A94.out).mono ?_); rintro e w105 ⟨rfl, hb⟩; refine ⟨_, rfl, ?_⟩; have n9_ := sB hb; clear HB; have HB := n9_; clear n9_; (try clear hb); (try clear ho0)))
   go_ret
   exact ⟨by first | rfl | (simp [errW_none, errW_some] <;> rfl) | (simp only [← hji4, ← hji74]; first | rfl | (simp [errW_none, errW_some] <;> rfl)) | (simp [*, errW_none, errW_some] <;> rfl), bE⟩
  rw [if_pos c17] at H
  have c17b0 := dT c17
  clear c17
  obtain ⟨y144, hy144⟩ : ∃ y_ : List Int, y_ = (([60, 97, 62, 116, 101, 120, 116, 60, 47, 97, 62] : List Int)) := ⟨_, rfl⟩
  replace H : (if 0 ≤ (wrap64 (Int.tmod (IntKind.u64.wrap (a2)) 11)) then (if (wrap64 (Int.tmod (IntKind.u64.wrap (a2)) 11)) < (y144.length : Int) then ((token_Split.f (strOfNums (y144.set ((wrap64 (Int.tmod (IntKind.u64.wrap (a2)) 11)) : Int).toNat a1))).bind fun bt148 => (if a1 < 32 then (if a1 = 9 then ((newellaw02_awake.f).bind fun t152 => (if t152 = true then (if t141 = 3 then (some ((bt148.2 == 4) == false)) else (some false)) else (some false))) else (if a1 = 10 then ((newellaw02_awake.f).bind fun t153 => (if t153 = true then (if t141 = 3 then (some ((bt148.2 == 4) == false)) else (some false)) else (some false))) else ((newellaw02_awake.f).bind fun t154 => (if t154 = true then (if t141 = 3 then (some ((bt148.2 == 4) == (a1 != 13))) else (some false)) else (some false))))) else ((newellaw02_awake.f).bind fun t155 => (if t155 = true then (if t141 = 3 then (some ((bt148.2 == 4) == false)) else (some false)) else (some false))))) else (none)) else (none)) = some r := by first | (rw [hy144]; with_reducible exact H) | (have H2_ := (Option.bind_some _ _).symm.trans H; rw [hy144]; with_reducible exact H2_) | (have H2_ := (Option.bind_some _ _).symm.trans H; with_reducible exact H2_) | with_reducible exact H | (rw [hy144]; exact H) | exact H
  have Ny144 := Aside0.mk hy144
  clear hy144
  obtain ⟨ji18, hji18⟩ : ∃ j_ : Int, (wrap64 (Int.tmod (IntKind.u64.wrap (a2)) 11)) = j_ := ⟨_, rfl⟩
  rw [hji18] at H
  (try rw [hji18] at A16)
  have hji18w : (IntKind.i64.wrap (Int.tmod (IntKind.u64.wrap (a2)) 11)) = ji18 := (i64_w _).trans hji18
  by_cases c19 : 0 ≤ (ji18)
  rotate_left
  ·rw [if_neg c19] at H
   exact absurd H (by simp)
  rw [if_pos c19] at H
  have c19b0 := dT c19
  clear c19
  by_cases c20 : (ji18) < (y144.length : Int)
  rotate_left
  ·rw [if_neg c20] at H
   exact absurd H (by simp)
  rw [if_pos c20] at H
  have c20b0 := dT c20
  clear c20
  obtain ⟨y147, hy147⟩ : ∃ y_ : List Int, y_ = (y144.set ((ji18) : Int).toNat a1) := ⟨_, rfl⟩
  replace H : ((token_Split.f (strOfNums y147)).bind fun bt148 => (if a1 < 32 then (if a1 = 9 then ((newellaw02_awake.f).bind fun t152 => (if t152 = true then (if t141 = 3 then (some ((bt148.2 == 4) == false)) else (some false)) else (some false))) else (if a1 = 10 then ((newellaw02_awake.f).bind fun t153 => (if t153 = true then (if t141 = 3 then (some ((bt148.2 == 4) == false)) else (some false)) else (some false))) else ((newellaw02_awake.f).bind fun t154 => (if t154 = true then (if t141 = 3 then (some ((bt148.2 == 4) == (a1 != 13))) else (some false)) else (some false))))) else ((newellaw02_awake.f).bind fun t155 => (if t155 = true then (if t141 = 3 then (some ((bt148.2 == 4) == false)) else (some false)) else (some false))))) = some r := by first | (rw [hy147]; with_reducible exact H) | (have H2_ := (Option.bind_some _ _).symm.trans H; rw [hy147]; with_reducible exact H2_) | (have H2_ := (Option.bind_some _ _).symm.trans H; with_reducible exact H2_) | with_reducible exact H | (rw [hy147]; exact H) | exact H
  have Ny147 := Aside0.mk hy147
  clear hy147
  replace H := bi H
  obtain ⟨⟨t148, t149⟩, A220, H⟩ := H
  try dsimp only at H
  have A22 := Aside0.mk A220
  clear A220
  by_cases c23 : a1 < 32
  rotate_left
  ·rw [if_neg c23] at H
   have c23b0 := dF c23
   clear c23
   replace H := bi H
   obtain ⟨t155, A620, H⟩ := H
   try dsimp only at H
   have A62 := Aside0.mk A620
   clear A620
   by_cases c63 : t155 = true
   rotate_left
   ·replace c63 := Bool.eq_false_iff.mpr c63
    subst c63
    have H1 : (some false) = some r := by rw [if_neg (show ¬ (false = true) by decide)] at H; exact H
    clear H
    have H := H1
    clear H1
    exfalso
    obtain rfl := Option.some.inj H
    exact absurd hr_ (by decide)
   subst c63
   have H1 : (if t141 = 3 then (some ((t149 == 4) == false)) else (some false)) = some r := by rw [if_pos rfl] at H; exact H
   clear H
   have H := H1
   clear H1
   by_cases c64 : t141 = 3
   rotate_left
   ·rw [if_neg c64] at H
    obtain ⟨c64b0, c64b1⟩ := eqF c64
    exfalso
    obtain rfl := Option.some.inj H
    exact absurd hr_ (by decide)
   rw [if_pos c64] at H
   obtain ⟨c64b0, c64b1⟩ := eqT c64
   clear c64
   obtain rfl := Option.some.inj H
   have hcv65 := own_string (P := Try.prog) Try.underlying35 Try.underlying5 Try.underlying9 (Kd.own_of_R HO_7.out)
   have kc_ := fun (W : World) (C : Array Value) (n c : Nat) => Lib.run_convert_bytes_const (P := Try.prog) W 35 5 C n c Try.underlying35 Try.underlying5
   have hl_ : ((y144.length : Nat) : Int) = 11 := by rw [Ny144.out]; rfl
   have p_0 : 0 ≤ ((ji18) : Int) := dA
   have q_0 : ((ji18) : Int) < ((y144.length : Nat) : Int) := dA
   rw [hl_] at q_0
   have jn_ : ((ji18) : Int).toNat < 11 := by omega
   replace p_0 := eq_true p_0
   replace q_0 := eq_true q_0
   clear hl_
   (try have cl_ : decide (x25_1 < (x7_1.length : Int)) = false := by first | (rw [hl7_1]; assumption) | (rw [← hl7_1]; assumption))
   go_wp2_with (first | (refine gl (some 35) Try.func12 #[.string (strOfNums x7_1)] ?_; (with_reducible refine (token_Split.calls (strOfNums x7_1) t140 t141 _ (gS HG) A16.out).mono ?_); rintro e w66 ⟨v142, rfl, ho0, hb⟩; refine ⟨_, rfl, ?_⟩; have n9_ := sB hb; clear HB; have HB := n9_; clear n9_; (try clear hb); (try clear ho0); have hm_ : (w66.alloc (.cells #[.int .u8 60, .int .u8 97, .int .u8 62, .int .u8 116, .int .u8 101, .int .u8 120, .int .u8 116, .int .u8 60, .int .u8 47, .int .u8 97, .int .u8 62] 5 (11, 12))).heap[w66.heap.size]? = some (.cells ((([60, 97, 62, 116, 101, 120, 116, 60, 47, 97, 62] : List Int)).map (Value.int .u8)).toArray 5 (11, 11 + 1)) := heap_alloc_new w66 _; obtain ⟨hy_, hz_⟩ := mark_cell_ hm_ jn_ rfl; have hcv_ : (convert 35 9 (.slice (some ⟨w66.heap.size, 0, none⟩) 11 11)).run Try.prog ((w66.alloc (.cells #[.int .u8 60, .int .u8 97, .int .u8 62, .int .u8 116, .int .u8 101, .int .u8 120, .int .u8 116, .int .u8 60, .int .u8 47, .int .u8 97, .int .u8 62] 5 (11, 12))).setCell ⟨w66.heap.size, ((ji18) : Int).toNat, none⟩ (.int .u8 a1)) = .ok (.string (strOfNums y147)) ((w66.alloc (.cells #[.int .u8 60, .int .u8 97, .int .u8 62, .int .u8 116, .int .u8 101, .int .u8 120, .int .u8 116, .int .u8 60, .int .u8 47, .int .u8 97, .int .u8 62] 5 (11, 12))).setCell ⟨w66.heap.size, ((ji18) : Int).toNat, none⟩ (.int .u8 a1)) := (by rw [Ny147.out, Ny144.out]; exact mark_text_ hm_ jn_ rfl Try.underlying35 Try.underlying5 Try.underlying9); have n8_ : Aside0 (Below w.heap.size w ((w66.alloc (.cells #[.int .u8 60, .int .u8 97, .int .u8 62, .int .u8 116, .int .u8 101, .int .u8 120, .int .u8 116, .int .u8 60, .int .u8 47, .int .u8 97, .int .u8 62] 5 (11, 12))).setCell ⟨w66.heap.size, ((ji18) : Int).toNat, none⟩ (.int .u8 a1))) := Aside0.mk (below_set (below_alloc HB.out _) (below_size HB.out) : Below w.heap.size w _); clear HB; have HB := n8_; clear n8_ hm_) | (refine gl (some 52) Try.func12 #[.string (strOfNums y147)] ?_; (with_reducible refine (token_Split.calls (strOfNums y147) t148 t149 _ (gS HG) A22.out).mono ?_); rintro e w72 ⟨v150, rfl, ho0, hb⟩; refine ⟨_, rfl, ?_⟩; have n9_ := sB hb; clear HB; have HB := n9_; clear n9_; (try clear hb); (try clear ho0)) | (refine gl (some 69) Try.func11 #[] ?_; (with_reducible refine (newellaw02_awake.calls  true _ (gS HG) A62.out).mono ?_); rintro e w73 ⟨rfl, hb⟩; refine ⟨_, rfl, ?_⟩; have n9_ := sB hb; clear HB; have HB := n9_; clear n9_; (try clear hb); (try clear ho0)))
   go_ret
   exact ⟨by first | rfl | (simp [errW_none, errW_some] <;> rfl) | (simp only [← hji4, ← hji18]; first | rfl | (simp [errW_none, errW_some] <;> rfl)) | (simp [*, errW_none, errW_some] <;> rfl), bE⟩
  rw [if_pos c23] at H
  have c23b0 := dT c23
  clear c23
  by_cases c24 : a1 = 9
  ·rw [if_pos c24] at H
   obtain ⟨c24b0, c24b1⟩ := eqT c24
   clear c24
   replace H := bi H
   obtain ⟨t152, A250, H⟩ := H
   try dsimp only at H
   have A25 := Aside0.mk A250
   clear A250
   by_cases c26 : t152 = true
   rotate_left
   ·replace c26 := Bool.eq_false_iff.mpr c26
    subst c26
    have H1 : (some false) = some r := by rw [if_neg (show ¬ (false = true) by decide)] at H; exact H
    clear H
    have H := H1
    clear H1
    exfalso
    obtain rfl := Option.some.inj H
    exact absurd hr_ (by decide)
   subst c26
   have H1 : (if t141 = 3 then (some ((t149 == 4) == false)) else (some false)) = some r := by rw [if_pos rfl] at H; exact H
   clear H
   have H := H1
   clear H1
   by_cases c27 : t141 = 3
   rotate_left
   ·rw [if_neg c27] at H
    obtain ⟨c27b0, c27b1⟩ := eqF c27
    exfalso
    obtain rfl := Option.some.inj H
    exact absurd hr_ (by decide)
   rw [if_pos c27] at H
   obtain ⟨c27b0, c27b1⟩ := eqT c27
   clear c27
   obtain rfl := Option.some.inj H
   have hcv28 := own_string (P := Try.prog) Try.underlying35 Try.underlying5 Try.underlying9 (Kd.own_of_R HO_7.out)
   have kc_ := fun (W : World) (C : Array Value) (n c : Nat) => Lib.run_convert_bytes_const (P := Try.prog) W 35 5 C n c Try.underlying35 Try.underlying5
   have hl_ : ((y144.length : Nat) : Int) = 11 := by rw [Ny144.out]; rfl
   have p_0 : 0 ≤ ((ji18) : Int) := dA
   have q_0 : ((ji18) : Int) < ((y144.length : Nat) : Int) := dA
   rw [hl_] at q_0
   have jn_ : ((ji18) : Int).toNat < 11 := by omega
   replace p_0 := eq_true p_0
   replace q_0 := eq_true q_0
   clear hl_
   (try have cl_ : decide (x25_1 < (x7_1.length : Int)) = false := by first | (rw [hl7_1]; assumption) | (rw [← hl7_1]; assumption))
   go_wp2_with (first | (refine gl (some 35) Try.func12 #[.string (strOfNums x7_1)] ?_; (with_reducible refine (token_Split.calls (strOfNums x7_1) t140 t141 _ (gS HG) A16.out).mono ?_); rintro e w29 ⟨v142, rfl, ho0, hb⟩; refine ⟨_, rfl, ?_⟩; have n9_ := sB hb; clear HB; have HB := n9_; clear n9_; (try clear hb); (try clear ho0); have hm_ : (w29.alloc (.cells #[.int .u8 60, .int .u8 97, .int .u8 62, .int .u8 116, .int .u8 101, .int .u8 120, .int .u8 116, .int .u8 60, .int .u8 47, .int .u8 97, .int .u8 62] 5 (11, 12))).heap[w29.heap.size]? = some (.cells ((([60, 97, 62, 116, 101, 120, 116, 60, 47, 97, 62] : List Int)).map (Value.int .u8)).toArray 5 (11, 11 + 1)) := heap_alloc_new w29 _; obtain ⟨hy_, hz_⟩ := mark_cell_ hm_ jn_ rfl; have hcv_ : (convert 35 9 (.slice (some ⟨w29.heap.size, 0, none⟩) 11 11)).run Try.prog ((w29.alloc (.cells #[.int .u8 60, .int .u8 97, .int .u8 62, .int .u8 116, .int .u8 101, .int .u8 120, .int .u8 116, .int .u8 60, .int .u8 47, .int .u8 97, .int .u8 62] 5 (11, 12))).setCell ⟨w29.heap.size, ((ji18) : Int).toNat, none⟩ (.int .u8 a1)) = .ok (.string (strOfNums y147)) ((w29.alloc (.cells #[.int .u8 60, .int .u8 97, .int .u8 62, .int .u8 116, .int .u8 101, .int .u8 120, .int .u8 116, .int .u8 60, .int .u8 47, .int .u8 97, .int .u8 62] 5 (11, 12))).setCell ⟨w29.heap.size, ((ji18) : Int).toNat, none⟩ (.int .u8 a1)) := (by rw [Ny147.out, Ny144.out]; exact mark_text_ hm_ jn_ rfl Try.underlying35 Try.underlying5 Try.underlying9); have n8_ : Aside0 (Below w.heap.size w ((w29.alloc (.cells #[.int .u8 60, .int .u8 97, .int .u8 62, .int .u8 116, .int .u8 101, .int .u8 120, .int .u8 116, .int .u8 60, .int .u8 47, .int .u8 97, .int .u8 62] 5 (11, 12))).setCell ⟨w29.heap.size, ((ji18) : Int).toNat, none⟩ (.int .u8 a1))) := Aside0.mk (below_set (below_alloc HB.out _) (below_size HB.out) : Below w.heap.size w _); clear HB; have HB := n8_; clear n8_ hm_) | (refine gl (some 52) Try.func12 #[.string (strOfNums y147)] ?_; (with_reducible refine (token_Split.calls (strOfNums y147) t148 t149 _ (gS HG) A22.out).mono ?_); rintro e w35 ⟨v150, rfl, ho0, hb⟩; refine ⟨_, rfl, ?_⟩; have n9_ := sB hb; clear HB; have HB := n9_; clear n9_; (try clear hb); (try clear ho0)) | (refine gl (some 69) Try.func11 #[] ?_; (with_reducible refine (newellaw02_awake.calls  true _ (gS HG) A25.out).mono ?_); rintro e w36 ⟨rfl, hb⟩; refine ⟨_, rfl, ?_⟩; have n9_ := sB hb; clear HB; have HB := n9_; clear n9_; (try clear hb); (try clear ho0)))
   go_ret
   exact ⟨by first | rfl | (simp [errW_none, errW_some] <;> rfl) | (simp only [← hji4, ← hji18]; first | rfl | (simp [errW_none, errW_some] <;> rfl)) | (simp [*, errW_none, errW_some] <;> rfl), bE⟩
  rw [if_neg c24] at H
  obtain ⟨c24b0, c24b1⟩ := eqF c24
  by_cases c37 : a1 = 10
  rotate_left
  ·rw [if_neg c37] at H
   obtain ⟨c37b0, c37b1⟩ := eqF c37
   replace H := bi H
   obtain ⟨t154, A500, H⟩ := H
   try dsimp only at H
   have A50 := Aside0.mk A500
   clear A500
   by_cases c51 : t154 = true
   rotate_left
   ·replace c51 := Bool.eq_false_iff.mpr c51
    subst c51
    have H1 : (some false) = some r := by rw [if_neg (show ¬ (false = true) by decide)] at H; exact H
    clear H
    have H := H1
    clear H1
    exfalso
    obtain rfl := Option.some.inj H
    exact absurd hr_ (by decide)
   subst c51
   have H1 : (if t141 = 3 then (some ((t149 == 4) == (a1 != 13))) else (some false)) = some r := by rw [if_pos rfl] at H; exact H
   clear H
   have H := H1
   clear H1
   by_cases c52 : t141 = 3
   rotate_left
   ·rw [if_neg c52] at H
    obtain ⟨c52b0, c52b1⟩ := eqF c52
    exfalso
    obtain rfl := Option.some.inj H
    exact absurd hr_ (by decide)
   rw [if_pos c52] at H
   obtain ⟨c52b0, c52b1⟩ := eqT c52
   clear c52
   obtain rfl := Option.some.inj H
   have hcv53 := own_string (P := Try.prog) Try.underlying35 Try.underlying5 Try.underlying9 (Kd.own_of_R HO_7.out)
   have kc_ := fun (W : World) (C : Array Value) (n c : Nat) => Lib.run_convert_bytes_const (P := Try.prog) W 35 5 C n c Try.underlying35 Try.underlying5
   have hl_ : ((y144.length : Nat) : Int) = 11 := by rw [Ny144.out]; rfl
   have p_0 : 0 ≤ ((ji18) : Int) := dA
   have q_0 : ((ji18) : Int) < ((y144.length : Nat) : Int) := dA
   rw [hl_] at q_0
   have jn_ : ((ji18) : Int).toNat < 11 := by omega
   replace p_0 := eq_true p_0
   replace q_0 := eq_true q_0
   clear hl_
   (try have cl_ : decide (x25_1 < (x7_1.length : Int)) = false := by first | (rw [hl7_1]; assumption) | (rw [← hl7_1]; assumption))
   go_wp2_with (first | (refine gl (some 35) Try.func12 #[.string (strOfNums x7_1)] ?_; (with_reducible refine (token_Split.calls (strOfNums x7_1) t140 t141 _ (gS HG) A16.out).mono ?_); rintro e w54 ⟨v142, rfl, ho0, hb⟩; refine ⟨_, rfl, ?_⟩; have n9_ := sB hb; clear HB; have HB := n9_; clear n9_; (try clear hb); (try clear ho0); have hm_ : (w54.alloc (.cells #[.int .u8 60, .int .u8 97, .int .u8 62, .int .u8 116, .int .u8 101, .int .u8 120, .int .u8 116, .int .u8 60, .int .u8 47, .int .u8 97, .int .u8 62] 5 (11, 12))).heap[w54.heap.size]? = some (.cells ((([60, 97, 62, 116, 101, 120, 116, 60, 47, 97, 62] : List Int)).map (Value.int .u8)).toArray 5 (11, 11 + 1)) := heap_alloc_new w54 _; obtain ⟨hy_, hz_⟩ := mark_cell_ hm_ jn_ rfl; have hcv_ : (convert 35 9 (.slice (some ⟨w54.heap.size, 0, none⟩) 11 11)).run Try.prog ((w54.alloc (.cells #[.int .u8 60, .int .u8 97, .int .u8 62, .int .u8 116, .int .u8 101, .int .u8 120, .int .u8 116, .int .u8 60, .int .u8 47, .int .u8 97, .int .u8 62] 5 (11, 12))).setCell ⟨w54.heap.size, ((ji18) : Int).toNat, none⟩ (.int .u8 a1)) = .ok (.string (strOfNums y147)) ((w54.alloc (.cells #[.int .u8 60, .int .u8 97, .int .u8 62, .int .u8 116, .int .u8 101, .int .u8 120, .int .u8 116, .int .u8 60, .int .u8 47, .int .u8 97, .int .u8 62] 5 (11, 12))).setCell ⟨w54.heap.size, ((ji18) : Int).toNat, none⟩ (.int .u8 a1)) := (by rw [Ny147.out, Ny144.out]; exact mark_text_ hm_ jn_ rfl Try.underlying35 Try.underlying5 Try.underlying9); have n8_ : Aside0 (Below w.heap.size w ((w54.alloc (.cells #[.int .u8 60, .int .u8 97, .int .u8 62, .int .u8 116, .int .u8 101, .int .u8 120, .int .u8 116, .int .u8 60, .int .u8 47, .int .u8 97, .int .u8 62] 5 (11, 12))).setCell ⟨w54.heap.size, ((ji18) : Int).toNat, none⟩ (.int .u8 a1))) := Aside0.mk (below_set (below_alloc HB.out _) (below_size HB.out) : Below w.heap.size w _); clear HB; have HB := n8_; clear n8_ hm_) | (refine gl (some 52) Try.func12 #[.string (strOfNums y147)] ?_; (with_reducible refine (token_Split.calls (strOfNums y147) t148 t149 _ (gS HG) A22.out).mono ?_); rintro e w60 ⟨v150, rfl, ho0, hb⟩; refine ⟨_, rfl, ?_⟩; have n9_ := sB hb; clear HB; have HB := n9_; clear n9_; (try clear hb); (try clear ho0)) | (refine gl (some 69) Try.func11 #[] ?_; (with_reducible refine (newellaw02_awake.calls  true _ (gS HG) A50.out).mono ?_); rintro e w61 ⟨rfl, hb⟩; refine ⟨_, rfl, ?_⟩; have n9_ := sB hb; clear HB; have HB := n9_; clear n9_; (try clear hb); (try clear ho0)))
   go_ret
   exact ⟨by first | rfl | (simp [errW_none, errW_some] <;> rfl) | (simp only [← hji4, ← hji18]; first | rfl | (simp [errW_none, errW_some] <;> rfl)) | (simp [*, errW_none, errW_some] <;> rfl), bE⟩
  rw [if_pos c37] at H
  obtain ⟨c37b0, c37b1⟩ := eqT c37
  clear c37
  replace H := bi H
  obtain ⟨t153, A380, H⟩ := H
  try dsimp only at H
  have A38 := Aside0.mk A380
  clear A380
  by_cases c39 : t153 = true
  rotate_left
  ·replace c39 := Bool.eq_false_iff.mpr c39
   subst c39
   have H1 : (some false) = some r := by rw [if_neg (show ¬ (false = true) by decide)] at H; exact H
   clear H
   have H := H1
   clear H1
   exfalso
   obtain rfl := Option.some.inj H
   exact absurd hr_ (by decide)
  subst c39
  have H1 : (if t141 = 3 then (some ((t149 == 4) == false)) else (some false)) = some r := by rw [if_pos rfl] at H; exact H
  clear H
  have H := H1
  clear H1
  by_cases c40 : t141 = 3
  rotate_left
  ·rw [if_neg c40] at H
   obtain ⟨c40b0, c40b1⟩ := eqF c40
   exfalso
   obtain rfl := Option.some.inj H
   exact absurd hr_ (by decide)
  rw [if_pos c40] at H
  obtain ⟨c40b0, c40b1⟩ := eqT c40
  clear c40
  obtain rfl := Option.some.inj H
  have hcv41 := own_string (P := Try.prog) Try.underlying35 Try.underlying5 Try.underlying9 (Kd.own_of_R HO_7.out)
  have kc_ := fun (W : World) (C : Array Value) (n c : Nat) => Lib.run_convert_bytes_const (P := Try.prog) W 35 5 C n c Try.underlying35 Try.underlying5
  have hl_ : ((y144.length : Nat) : Int) = 11 := by rw [Ny144.out]; rfl
  have p_0 : 0 ≤ ((ji18) : Int) := dA
  have q_0 : ((ji18) : Int) < ((y144.length : Nat) : Int) := dA
  rw [hl_] at q_0
  have jn_ : ((ji18) : Int).toNat < 11 := by omega
  replace p_0 := eq_true p_0
  replace q_0 := eq_true q_0
  clear hl_
  (try have cl_ : decide (x25_1 < (x7_1.length : Int)) = false := by first | (rw [hl7_1]; assumption) | (rw [← hl7_1]; assumption))
  go_wp2_with (first | (refine gl (some 35) Try.func12 #[.string (strOfNums x7_1)] ?_; (with_reducible refine (token_Split.calls (strOfNums x7_1) t140 t141 _ (gS HG) A16.out).mono ?_); rintro e w42 ⟨v142, rfl, ho0, hb⟩; refine ⟨_, rfl, ?_⟩; have n9_ := sB hb; clear HB; have HB := n9_; clear n9_; (try clear hb); (try clear ho0); have hm_ : (w42.alloc (.cells #[.int .u8 60, .int .u8 97, .int .u8 62, .int .u8 116, .int .u8 101, .int .u8 120, .int .u8 116, .int .u8 60, .int .u8 47, .int .u8 97, .int .u8 62] 5 (11, 12))).heap[w42.heap.size]? = some (.cells ((([60, 97, 62, 116, 101, 120, 116, 60, 47, 97, 62] : List Int)).map (Value.int .u8)).toArray 5 (11, 11 + 1)) := heap_alloc_new w42 _; obtain ⟨hy_, hz_⟩ := mark_cell_ hm_ jn_ rfl; have hcv_ : (convert 35 9 (.slice (some ⟨w42.heap.size, 0, none⟩) 11 11)).run Try.prog ((w42.alloc (.cells #[.int .u8 60, .int .u8 97, .int .u8 62, .int .u8 116, .int .u8 101, .int .u8 120, .int .u8 116, .int .u8 60, .int .u8 47, .int .u8 97, .int .u8 62] 5 (11, 12))).setCell ⟨w42.heap.size, ((ji18) : Int).toNat, none⟩ (.int .u8 a1)) = .ok (.string (strOfNums y147)) ((w42.alloc (.cells #[.int .u8 60, .int .u8 97, .int .u8 62, .int .u8 116, .int .u8 101, .int .u8 120, .int .u8 116, .int .u8 60, .int .u8 47, .int .u8 97, .int .u8 62] 5 (11, 12))).setCell ⟨w42.heap.size, ((ji18) : Int).toNat, none⟩ (.int .u8 a1)) := (by rw [Ny147.out, Ny144.out]; exact mark_text_ hm_ jn_ rfl Try.underlying35 Try.underlying5 Try.underlying9); have n8_ : Aside0 (Below w.heap.size w ((w42.alloc (.cells #[.int .u8 60, .int .u8 97, .int .u8 62, .int .u8 116, .int .u8 101, .int .u8 120, .int .u8 116, .int .u8 60, .int .u8 47, .int .u8 97, .int .u8 62] 5 (11, 12))).setCell ⟨w42.heap.size, ((ji18) : Int).toNat, none⟩ (.int .u8 a1))) := Aside0.mk (below_set (below_alloc HB.out _) (below_size HB.out) : Below w.heap.size w _); clear HB; have HB := n8_; clear n8_ hm_) | (refine gl (some 52) Try.func12 #[.string (strOfNums y147)] ?_; (with_reducible refine (token_Split.calls (strOfNums y147) t148 t149 _ (gS HG) A22.out).mono ?_); rintro e w48 ⟨v150, rfl, ho0, hb⟩; refine ⟨_, rfl, ?_⟩; have n9_ := sB hb; clear HB; have HB := n9_; clear n9_; (try clear hb); (try clear ho0)) | (refine gl (some 69) Try.func11 #[] ?_; (with_reducible refine (newellaw02_awake.calls  true _ (gS HG) A38.out).mono ?_); rintro e w49 ⟨rfl, hb⟩; refine ⟨_, rfl, ?_⟩; have n9_ := sB hb; clear HB; have HB := n9_; clear n9_; (try clear hb); (try clear ho0)))
  go_ret
  exact ⟨by first | rfl | (simp [errW_none, errW_some] <;> rfl) | (simp only [← hji4, ← hji18]; first | rfl | (simp [errW_none, errW_some] <;> rfl)) | (simp [*, errW_none, errW_some] <;> rfl), bE⟩
end Go.Proofs.Ytomikblbfappnaa.Q
namespace Go.Proofs.Ytomikblbfappnaa.Q
open Go.RowKit Go.Proofs.YtomikblbfappnaaW.PrintWords Go.Proofs.YtomikblbfappnaaW.PrintLast Go.Proofs.YtomikblbfappnaaW.Own Go.Proofs.YtomikblbfappnaaW.PrintMore
set_option linter.unusedVariables false
set_option linter.unusedSimpArgs false
namespace Rd
open Go Go.RowKit
theorem glob {W : World} (h : W.ShapedOpen Try.prog) : Glob W :=
  cell_of_shapedOpen_int (g := 0) (t := 3) (zero := #[.int .i64 0]) (k := .i64) h (of_decide_eq_true (by kernel_rfl)) (by kernel_rfl) rfl (by kernel_rfl) (by kernel_rfl) Try.underlying3
end Rd
end Go.Proofs.Ytomikblbfappnaa.Q
namespace Go.Proofs.Ytomikblbfappnaa.Q
open Go.RowKit Go.Proofs.YtomikblbfappnaaW.PrintWords Go.Proofs.YtomikblbfappnaaW.PrintLast Go.Proofs.YtomikblbfappnaaW.Own Go.Proofs.YtomikblbfappnaaW.PrintMore
set_option linter.unusedVariables false
set_option linter.unusedSimpArgs false
def newellaw02_TokenLong.Pure : Prop := ∀ (a0 : Int) (a1 : Int) (a2 : Int), ((Lit.int .i64 a0).wf = true) → ((Lit.int .u8 a1).wf = true) → ((Lit.int .i64 a2).wf = true) → ∃ k, newellaw02_TokenLong.f k a0 a1 a2 = some true
end Go.Proofs.Ytomikblbfappnaa.Q
namespace Go.Proofs.Ytomikblbfappnaa.Pure
open Go Go.RowKit Go.Proofs.Ytomikblbfappnaa.Q Go.Proofs.YtomikblbfappnaaW.PrintWords
theorem upto_split {c : UInt8} : ∀ {a b : List UInt8}, (∀ x ∈ a, x ≠ c) → Tk.upto [c] (a ++ c :: b) = some (a, b)
  | a, b, h => by
    have e : Lib.index (a ++ c :: b) [c] = (a.length : Int) := by
      refine Lib.index_first (by simp) ?_ ?_
      · unfold Lib.occAt
        rw [List.drop_left]
        simp [List.isPrefixOf]
      · intro j hj
        unfold Lib.occAt
        rw [List.drop_append_of_le_length (by omega), List.drop_eq_getElem_cons hj]
        simp only [List.cons_append, List.isPrefixOf, Bool.and_true]
        exact beq_eq_false_iff_ne.2 fun e => h _ (List.getElem_mem hj) e.symm
    unfold Tk.upto
    rw [e, if_pos (by omega), Int.toNat_natCast, List.take_left]
    congr 2
    rw [show a.length + [c].length = (a ++ [c]).length by simp, show a ++ c :: b = (a ++ [c]) ++ b by simp, List.drop_left]
theorem upto_no {c : UInt8} {a : List UInt8} (h : ∀ x ∈ a, x ≠ c) : Tk.upto [c] a = none := by
  have e : Lib.index a [c] = -1 := by
    refine Lib.index_none ?_
    intro j hj
    unfold Lib.occAt
    rcases Nat.lt_or_ge j a.length with hl | hl
    · rw [List.drop_eq_getElem_cons hl]
      simp only [List.isPrefixOf, Bool.and_true]
      exact beq_eq_false_iff_ne.2 fun e => h _ (List.getElem_mem hl) e.symm
    · rw [List.drop_eq_nil_of_le hl]; rfl
  unfold Tk.upto
  rw [e]; rfl
theorem part (c : UInt8) (l : List UInt8) : (∀ x ∈ l, x ≠ c) ∨ ∃ a b, l = a ++ c :: b ∧ ∀ x ∈ a, x ≠ c := by
  induction l with
  | nil => exact .inl fun x h => absurd h (by simp)
  | cons d l ih =>
    by_cases hd : d = c
    · exact .inr ⟨[], l, by rw [hd]; rfl, fun x h => absurd h (by simp)⟩
    · rcases ih with ih | ⟨a, b, e, ih⟩
      · refine .inl fun x hx => ?_
        rcases List.mem_cons.1 hx with rfl | hx
        · exact hd
        · exact ih x hx
      · refine .inr ⟨d :: a, b, by rw [e]; rfl, fun x hx => ?_⟩
        rcases List.mem_cons.1 hx with rfl | hx
        · exact hd
        · exact ih x hx
theorem ents_fuel : ∀ (n m : Nat) (l : List UInt8), l.length < n → l.length < m → Tk.ents n l = Tk.ents m l := by
  intro n
  induction n with
  | zero => intro m l h; omega
  | succ n ih =>
    intro m l h1 h2
    obtain ⟨m, rfl⟩ : ∃ k, m = k + 1 := ⟨m - 1, by omega⟩
    cases hu : Tk.upto [38] l with
    | none => rw [ents_none hu, ents_none hu]
    | some p =>
      obtain ⟨a, b⟩ := p
      have e1 := upto_sum hu
      cases hv : Tk.upto [59] b with
      | none => rw [ents_open hu hv, ents_open hu hv]
      | some q =>
        obtain ⟨x, r⟩ := q
        have e2 := upto_sum hv
        simp only [List.length_cons, List.length_nil] at e1 e2
        rw [ents_step hu hv, ents_step hu hv, ih m r (by omega) (by omega)]
theorem entities_fuel {n : Nat} {l : List UInt8} (h : l.length < n) : Tk.ents n l = Tk.entities l := ents_fuel _ _ _ h (Nat.lt_succ_self _)
theorem entities_plain (a t : List UInt8) (h : ∀ x ∈ a, x ≠ 38) : Tk.entities (a ++ t) = (Tk.entities t).map fun r => a ++ r := by
  rcases part 38 t with ht | ⟨p, q, rfl, hp⟩
  · have h1 : Tk.upto [38] (a ++ t) = none := upto_no fun x hx => by
      rcases List.mem_append.1 hx with hx | hx
      · exact h x hx
      · exact ht x hx
    unfold Tk.entities
    rw [ents_none h1, ents_none (upto_no ht)]
    rfl
  · have h1 : Tk.upto [38] (a ++ (p ++ 38 :: q)) = some (a ++ p, q) := by
      rw [← List.append_assoc]
      refine upto_split fun x hx => ?_
      rcases List.mem_append.1 hx with hx | hx
      · exact h x hx
      · exact hp x hx
    have h2 : Tk.upto [38] (p ++ 38 :: q) = some (p, q) := upto_split hp
    unfold Tk.entities
    cases hv : Tk.upto [59] q with
    | none => rw [ents_open h1 hv, ents_open h2 hv]; rfl
    | some s =>
      obtain ⟨x, r⟩ := s
      have e1 := upto_sum h1
      have e2 := upto_sum h2
      have e3 := upto_sum hv
      simp only [List.length_cons, List.length_nil] at e1 e2 e3
      rw [ents_step h1 hv, ents_step h2 hv, entities_fuel (by omega), entities_fuel (by omega)]
      cases Tk.entity x with
      | none => rfl
      | some c =>
        cases Tk.entities r with
        | none => rfl
        | some t => simp
theorem awake_long : newellaw02_awake.f = some true := by kernel_rfl
theorem strN_ (x : List Int) (y : List UInt8) (h : x.map (fun n => UInt8.ofNat n.toNat) = y) : strOfNums x = Tk.bs y := by
  unfold strOfNums Tk.bs; rw [h]
theorem no_behind (q : List UInt8) (c : UInt8) (l : List UInt8) (h : c ≠ 60) : Tk.behind (60 :: q) (c :: l) = none := by
  unfold Tk.behind
  rw [if_neg]
  intro h2
  simp only [List.isPrefixOf, Bool.and_eq_true, beq_iff_eq] at h2
  exact h h2.1.symm
theorem split_xs (n : Nat) (h1 : 0 < n) (h2 : n ≤ 20000) : (Tk.split (List.replicate n 120)).2 = 0 := by
  obtain ⟨m, rfl⟩ : ∃ m, n = m + 1 := ⟨n - 1, by omega⟩
  have hm : ∀ c ∈ List.replicate (m + 1) (120 : UInt8), c = 120 := fun c hc => (List.mem_replicate.1 hc).2
  have hbad : (List.replicate (m + 1) (120 : UInt8)).any (fun c => !Tk.allowed c) = false := by
    rw [List.any_eq_false]
    intro c hc
    rw [hm c hc]; decide
  have htw : (List.replicate (m + 1) (120 : UInt8)).takeWhile (· != 60) = List.replicate (m + 1) 120 := by simp
  have hen : Tk.entities (List.replicate (m + 1) 120) = some (List.replicate (m + 1) 120) := by
    have := entities_plain (List.replicate (m + 1) 120) [] (fun c hc => by rw [hm c hc]; decide)
    rw [List.append_nil] at this
    rw [this]
    show (some []).map (fun r => List.replicate (m + 1) 120 ++ r) = _
    simp
  have hnx : Tk.next true (List.replicate (m + 1) 120) = some (Tk.tk 3 [] (List.replicate (m + 1) 120) [] false, []) := by
    have nb : ∀ q, Tk.behind (60 :: q) (List.replicate (m + 1) 120) = none := fun q => by rw [List.replicate_succ]; exact no_behind q 120 _ (by decide)
    unfold Tk.next
    rw [nb]
    dsimp only
    rw [nb]
    dsimp only
    rw [nb]
    dsimp only
    rw [nb]
    dsimp only
    rw [nb]
    dsimp only
    unfold Tk.text
    dsimp only
    rw [htw, hen, Option.map_some, List.drop_length]
  unfold Tk.split
  rw [if_neg (by rw [List.length_replicate]; omega), if_neg (by rw [hbad]; decide), Tk.pieces, if_neg (by simp), hnx, Option.bind_some]
  dsimp only
  rw [List.length_replicate, Tk.pieces, if_pos rfl]
  rfl
def word : List UInt8 := [60, 97, 62, 116, 101, 120, 116, 60, 47, 97, 62]
theorem split_set (j : Nat) (hj : j < 11) (c : UInt8) : ((Tk.split (word.set j c)).2 == 4) = !Tk.allowed c := by
  have hl : (word.set j c).length = 11 := by rw [List.length_set]; rfl
  unfold Tk.split
  rw [if_neg (by omega)]
  cases hc : Tk.allowed c with
  | false =>
    have : (word.set j c).any (fun c => !Tk.allowed c) = true := List.any_eq_true.2 ⟨c, List.mem_set (show j < word.length from hj) c, by rw [hc]; rfl⟩
    rw [if_pos this]; rfl
  | true =>
    have : (word.set j c).any (fun c => !Tk.allowed c) = false := by
      rw [List.any_eq_false]
      intro x hx
      rcases List.mem_or_eq_of_mem_set hx with hx | rfl
      · have : word.all Tk.allowed = true := by decide
        rw [List.all_eq_true.1 this x hx]; decide
      · rw [hc]; decide
    rw [if_neg (by rw [this]; decide)]
    cases Tk.pieces ((word.set j c).length + 1) true (word.set j c) <;> rfl
theorem few10 (x : Int) (m : Nat) (hm : 0 < m) (hm2 : m < 1000) : ∃ n : Nat, n < m ∧ wrap64 (Int.tmod (IntKind.u64.wrap x) m) = (n : Int) := by
  have h0 : 0 ≤ IntKind.u64.wrap x := by rw [IntKind.wrap_u64]; omega
  rw [Int.tmod_eq_emod_of_nonneg h0]
  generalize IntKind.u64.wrap x = y at *
  have h1 := Int.emod_nonneg y (show (m : Int) ≠ 0 by omega)
  have h2 := Int.emod_lt_of_pos y (show (0 : Int) < (m : Int) by omega)
  refine ⟨(y % m).toNat, by omega, ?_⟩
  generalize y % (m : Int) = z at *
  unfold wrap64
  omega
theorem last_long (n j : Nat) (c : Int) (hn : 19995 ≤ n) (hn2 : n < 20005) (hj : j < 11) (hc0 : 0 ≤ c) (hc1 : c < 256) (a2 : Int) (ha2 : wrap64 (Int.tmod (IntKind.u64.wrap a2) 11) = (j : Int)) (k : Nat) :
    newellaw02_TokenLong.l0 (k + 1) (n : Int) c a2 (List.replicate n 120) (n : Int) (n : Int) = some true := by
  have s1 : strOfNums (List.replicate n 120) = Tk.bs (List.replicate n 120) := strN_ _ _ (by rw [List.map_replicate]; rfl)
  have f1 : token_Split.f (Tk.bs (List.replicate n 120)) = some (Tk.split (List.replicate n 120)) := by
    unfold token_Split.f
    rw [if_pos (by rw [bs_size, List.length_replicate]; omega)]; rfl
  have s2 : strOfNums (([60, 97, 62, 116, 101, 120, 116, 60, 47, 97, 62] : List Int).set j c) = Tk.bs (word.set j (UInt8.ofNat c.toNat)) := strN_ _ _ (by rw [List.map_set]; rfl)
  have f2 : token_Split.f (Tk.bs (word.set j (UInt8.ofNat c.toNat))) = some (Tk.split (word.set j (UInt8.ofNat c.toNat))) := by
    unfold token_Split.f
    rw [if_pos (by rw [bs_size, List.length_set]; decide)]; rfl
  have e2 := split_set j hj (UInt8.ofNat c.toNat)
  have hto : (UInt8.ofNat c.toNat).toNat = c.toNat := by rw [UInt8.toNat_ofNat']; omega
  have hal : (!Tk.allowed (UInt8.ofNat c.toNat)) = (decide (c < 32) && (c != 9 && (c != 10 && c != 13))) := by
    unfold Tk.allowed Tk.space
    rw [hto, Bool.eq_iff_iff]
    simp only [Bool.not_eq_true', Bool.or_eq_false_iff, decide_eq_false_iff_not, beq_eq_false_iff_ne, Bool.and_eq_true, decide_eq_true_eq, bne_iff_ne]
    omega
  rw [hal] at e2
  obtain ⟨z, hz⟩ : ∃ z, z = Tk.split (word.set j (UInt8.ofNat c.toNat)) := ⟨_, rfl⟩
  rw [← hz] at f2 e2
  obtain ⟨y, hy⟩ : ∃ y, y = Tk.split (List.replicate n (120 : UInt8)) := ⟨_, rfl⟩
  have hy2 : y.2 = if n > 20000 then 3 else 0 := by
    rw [hy]
    by_cases h : n > 20000
    · rw [if_pos h]
      unfold Tk.split
      rw [if_pos (by rw [List.length_replicate]; omega)]
    · rw [if_neg h]
      exact split_xs n (by omega) (by omega)
  rw [← hy] at f1
  clear hz hy hal hto
  have fin : ∀ (x : Int), y.2 = x → (if c < 32 then (if c = 9 then ((newellaw02_awake.f).bind fun t152 => (if t152 = true then (if y.2 = x then (some ((z.2 == 4) == false)) else (some false)) else (some false))) else (if c = 10 then ((newellaw02_awake.f).bind fun t153 => (if t153 = true then (if y.2 = x then (some ((z.2 == 4) == false)) else (some false)) else (some false))) else ((newellaw02_awake.f).bind fun t154 => (if t154 = true then (if y.2 = x then (some ((z.2 == 4) == (c != 13))) else (some false)) else (some false))))) else ((newellaw02_awake.f).bind fun t155 => (if t155 = true then (if y.2 = x then (some ((z.2 == 4) == false)) else (some false)) else (some false)))) = some true := by
    intro x hx
    rw [awake_long]
    simp only [Option.bind_some, if_true, if_pos hx]
    rw [e2]
    by_cases c1 : c < 32
    · rw [if_pos c1, decide_eq_true c1]
      by_cases c2 : c = 9
      · rw [if_pos c2, c2]; rfl
      · rw [if_neg c2]
        by_cases c3 : c = 10
        · rw [if_pos c3, c3]; rfl
        · rw [if_neg c3, bne_iff_ne.2 c2, bne_iff_ne.2 c3]; simp
    · rw [if_neg c1, decide_eq_false c1]; rfl
  rw [newellaw02_TokenLong.l0, if_neg (by omega), s1, f1, Option.bind_some]
  by_cases hbig : n > 20000
  · rw [if_pos (by omega), Option.bind_some, ha2, if_pos (by omega), if_pos (by simp only [List.length_cons, List.length_nil]; omega), Int.toNat_natCast, s2, f2, Option.bind_some]
    exact fin 3 (by rw [hy2, if_pos hbig])
  · rw [if_neg (by omega), Option.bind_some, ha2, if_pos (by omega), if_pos (by simp only [List.length_cons, List.length_nil]; omega), Int.toNat_natCast, s2, f2, Option.bind_some]
    exact fin 0 (by rw [hy2, if_neg hbig])
theorem fill_loop (n j : Nat) (c : Int) (hn : 19995 ≤ n) (hn2 : n < 20005) (hj : j < 11) (hc0 : 0 ≤ c) (hc1 : c < 256) (a2 : Int) (ha2 : wrap64 (Int.tmod (IntKind.u64.wrap a2) 11) = (j : Int)) : ∀ (d i : Nat), i + d = n → newellaw02_TokenLong.l0 (d + 1) (n : Int) c a2 (List.replicate i 120 ++ List.replicate d 0) (n : Int) (i : Int) = some true := by
  intro d
  induction d with
  | zero =>
    intro i hi
    obtain rfl : i = n := by omega
    rw [List.replicate_zero, List.append_nil]
    exact last_long i j c hn hn2 hj hc0 hc1 a2 ha2 0
  | succ d ih =>
    intro i hi
    have hw : wrap64 ((i : Int) + 1) = ((i + 1 : Nat) : Int) := by unfold wrap64; omega
    have hs : (List.replicate i (120 : Int) ++ List.replicate (d + 1) 0).set i 120 = List.replicate (i + 1) 120 ++ List.replicate d 0 := by
      rw [List.set_append, if_neg (by rw [List.length_replicate]; omega), List.length_replicate, Nat.sub_self, List.replicate_succ, List.set_cons_zero, List.replicate_succ', List.append_assoc]; rfl
    rw [newellaw02_TokenLong.l0, if_pos (by omega), if_pos (by omega), if_pos (by rw [List.length_append, List.length_replicate, List.length_replicate]; omega), Int.toNat_natCast, hs, hw]
    exact ih (i + 1) (by omega)
theorem TokenLong : newellaw02_TokenLong.Pure := by
  intro a0 a1 a2 h0 h1 h2
  obtain ⟨i, hi, ei⟩ := few10 a0 10 (by decide) (by decide)
  obtain ⟨j, hj, ej⟩ := few10 a2 11 (by decide) (by decide)
  have hb0 : IntKind.u8.min ≤ a1 ∧ a1 ≤ IntKind.u8.max := by simpa [Lit.wf] using h1
  have hb : 0 ≤ a1 ∧ a1 < 256 := by
    have e0 : IntKind.u8.min = 0 := by decide
    have e1 : IntKind.u8.max = 255 := by decide
    rw [e0, e1] at hb0
    omega
  have ei : wrap64 (Int.tmod (IntKind.u64.wrap a0) 10) = (i : Int) := ei
  have ej : wrap64 (Int.tmod (IntKind.u64.wrap a2) 11) = (j : Int) := ej
  have hw : wrap64 (19995 + (i : Int)) = ((19995 + i : Nat) : Int) := by unfold wrap64; omega
  refine ⟨19995 + i + 1, ?_⟩
  unfold newellaw02_TokenLong.f
  rw [ei, hw, if_pos (by omega), Int.toNat_natCast, if_pos (by omega), Option.bind_some, List.length_replicate]
  exact fill_loop (19995 + i) j a1 (by omega) (by omega) hj hb.1 hb.2 a2 ej (19995 + i) 0 (by omega)
end Go.Proofs.Ytomikblbfappnaa.Pure
