/- Texts put together: what functions of the program compute, and plain words about them. -/
import Derived.Test.YtkoogebfdinbnaaGreatLawElementTellsUptoM1
import Derived.Test.YtkoogebfdinbnaaGreatLawElementTellsUptoM2
import Derived.Laws.Cover4
import Derived.Lib.Hide
import Derived.Outline
import Derived.Deep.RegionLaw
import Derived.StillTailTactics
namespace Go.Proofs.YtkoogebfdinbnaaGreat.Q
open Go.RowKit Go.Proofs.YtkoogebfdinbnaaGreatW.PrintWords Go.Proofs.YtkoogebfdinbnaaGreatW.PrintLast Go.Proofs.YtkoogebfdinbnaaGreatW.Own Go.Proofs.YtkoogebfdinbnaaGreatW.PrintMore
theorem r3b1_ {p_ : Prop} (h_ : p_ := by repeat (first | exact aS_.refl _ | apply aS_.step)) : p_ := h_
attribute [local go_sem] d6_ d8_ max_two min_two dS_ dR_ d4_ d9_   -- for this text's walks alone
set_option linter.unusedVariables false
set_option linter.unusedSimpArgs false
set_option maxHeartbeats 20000000
set_option maxRecDepth 100000
def entsV (l : List UInt8) : List UInt8 × Int := match Tk.entities l with
 | some c => (c, 0)
 | none => ([], 5)
theorem entity_len {l c : List UInt8} (h : Tk.entity l = some c) : c.length ≤ 4 := by
 have hn : ∀ base r, Tk.numbered base r = some c → c.length ≤ 4 := by
  intro base r h
  unfold Tk.numbered at h
  split at h
  ·cases h
  ·obtain ⟨v, _, h⟩ := Option.bind_eq_some_iff.1 h
   split at h
   ·injection h with h
    rw [← h]
    have := encode_size_le (v : Int)
    rw [Lib.size_eq] at this
    exact this
   ·cases h
 unfold Tk.entity at h
 split at h
 ·exact hn _ _ h
 ·exact hn _ _ h
 ·exact (named_ne h).2
theorem eA_ {x l a r : List UInt8} (h : Tk.upto x l = some (a, r)) : a.length + x.length + r.length = l.length := by
 unfold Tk.upto at h
 split at h
 ·rename_i h0
  injection h with h
  injection h with h1 h2
  have := Lib.index_room l x h0
  rw [← h1, ← h2, List.length_take, List.length_drop]
  omega
 ·cases h
theorem bs_append (a b : List UInt8) : Tk.bs a ++ Tk.bs b = Tk.bs (a ++ b) := by
 have : (Tk.bs a ++ Tk.bs b).data.toList = (Tk.bs (a ++ b)).data.toList := by simp [ByteArray.data_append, Tk.bs]
 rw [← bs_data (Tk.bs a ++ Tk.bs b), this]; rfl
theorem ents_none {n : Nat} {l : List UInt8} (h : Tk.upto [38] l = none) : Tk.ents (n + 1) l = some l := by
 rw [Tk.ents, h]
theorem ents_open {n : Nat} {l a b : List UInt8} (h : Tk.upto [38] l = some (a, b)) (h2 : Tk.upto [59] b = none) : Tk.ents (n + 1) l = none := by
 rw [Tk.ents, h]
 simp only [h2]
theorem ents_step {n : Nat} {l a b m r : List UInt8} (h : Tk.upto [38] l = some (a, b)) (h2 : Tk.upto [59] b = some (m, r)) : Tk.ents (n + 1) l = (Tk.entity m).bind fun c => (Tk.ents n r).map fun t => a ++ (c ++ t) := by
 rw [Tk.ents, h]
 simp only [h2]
theorem token_Entities.calls0 (l : List UInt8) (hl : l.length ≤ 1000000) (w : World) (hG : Glob w) :
 Calls Tryz.prog 73 #[.string (Tk.bs l)] w fun e w' => e = .returned (.tuple #[.string (Tk.bs (entsV l).1), .int .i64 (entsV l).2]) ∧ Below w.heap.size w w' := by
 have hpos := hG.lt
 have HG := aA_.mk hG
 clear hG
 have hub := Tryz.underlying59
 go_enter Tryz.func73, Tryz.ntmps73
 go_wp2_with (fail)
 have HF := aA_.mk (Bld.Holds.fresh w)
 have HB0 := aA_.mk ((Below.refl w.heap.size w).alloc (Nat.le_refl _) (.cells #[.pointer none, .slice none 0 0] 59))
 generalize w.alloc _ = wi at *
 go_loopg [0] (l.length + 1) (fun gk v0 w' => ∃ (m d : List UInt8), v0 = .string (Tk.bs m) ∧ m.length < gk ∧ aA_ (d.length + 4 * m.length ≤ 4 * l.length) ∧ aA_ (Tk.entities l = (Tk.ents gk m).map fun t => d ++ t) ∧ aA_ (Bld.Holds w.heap.size w.heap.size (Tk.bs d) w') ∧ aA_ (Below w.heap.size w w'))
 case atStart => exact ⟨l, [], rfl, by omega, ⟨by simp⟩, ⟨by unfold Tk.entities; simp⟩, HF, HB0⟩
 clear HF HB0
 obtain ⟨m, d, rfl, hlt, HD, HE, HH, HB⟩ := hrel
 obtain ⟨g1, rfl⟩ : ∃ g1, gk = g1 + 1 := ⟨gk - 1, by omega⟩
 have hG1 : Glob wr := HG.out.below HB.out hpos
 have HG1 := aA_.mk hG1
 have hd := HD.out
 have hms : (Tk.bs m).size < 4294967281 := by rw [bV_]; omega
 cases hu : Tk.upto [38] m with
 | none =>
  have C1 : ∀ W, Glob W → Calls Tryz.prog 79 #[.string (Tk.bs m), .string (⟨#[38]⟩ : ByteArray)] W fun e w' => e = .returned (.tuple #[.string (Tk.bs m), .string (Tk.bs []), .bool false]) ∧ Below W.heap.size W w' := by
   intro W hW
   obtain ⟨q, hq⟩ := hW
   refine (Tryz.strings_Cut (Tk.bs m) (Tk.bs [38]) q W hms hq).mono ?_
   rintro e w' ⟨rfl, nd, rfl⟩
   refine ⟨?_, aF_ (Below.refl _ _) nd⟩
   rw [show Lib.cut (Tk.bs m).data.toList (Tk.bs [38]).data.toList = (m, [], false) from upto_none hu]
   rfl
  have hR : entsV l = (d ++ m, 0) := by unfold entsV; rw [HE.out, ents_none hu]; rfl
  have HR := Lib.hid hR
  have hsz : (Tk.bs d).size + (Tk.bs m).size ≤ 140737488355328 := by rw [bV_, bV_]; omega
  have HSZ := Lib.hid hsz
  clear hu hms hd hR hG1 hsz
  go_wp2_with (first | (go_at_call 79; (with_reducible refine (C1 _ HG1.out).mono ?_); rintro e w1 ⟨rfl, b1⟩; have B1 := aA_.mk b1; clear b1) | (go_at_call 23; (with_reducible refine ((HH.out.below B1.out).write HSZ.out).mono ?_); rintro e w2 ⟨rfl, h2, b2⟩; have H2 := aA_.mk h2; have B2 := aA_.mk b2; clear h2 b2) | (go_at_call 24; (with_reducible refine H2.out.string.mono ?_); rintro e w3 ⟨rfl, b3⟩; have B3 := aA_.mk b3; clear b3))
  go_ret2
  refine ⟨?_, ((bG_ HB.out B1.out).trans B2.out).trans B3.out⟩
  rw [HR.out, ← bs_append]; rfl
 | some p =>
  obtain ⟨a, b⟩ := p
  have hsm := eA_ hu
  have hsa : (Tk.bs d).size + (Tk.bs a).size ≤ 140737488355328 := by rw [bV_, bV_]; omega
  have hbs : (Tk.bs b).size < 4294967281 := by rw [bV_]; omega
  have C1 : ∀ W, Glob W → Calls Tryz.prog 79 #[.string (Tk.bs m), .string (⟨#[38]⟩ : ByteArray)] W fun e w' => e = .returned (.tuple #[.string (Tk.bs a), .string (Tk.bs b), .bool true]) ∧ Below W.heap.size W w' := by
   intro W hW
   obtain ⟨q, hq⟩ := hW
   refine (Tryz.strings_Cut (Tk.bs m) (Tk.bs [38]) q W hms hq).mono ?_
   rintro e w' ⟨rfl, nd, rfl⟩
   refine ⟨?_, aF_ (Below.refl _ _) nd⟩
   rw [show Lib.cut (Tk.bs m).data.toList (Tk.bs [38]).data.toList = (a, b, true) from upto_some hu]
   rfl
  have HSA := Lib.hid hsa
  cases hu2 : Tk.upto [59] b with
  | none =>
   have C2 : ∀ W, Glob W → Calls Tryz.prog 79 #[.string (Tk.bs b), .string (⟨#[59]⟩ : ByteArray)] W fun e w' => e = .returned (.tuple #[.string (Tk.bs b), .string (Tk.bs []), .bool false]) ∧ Below W.heap.size W w' := by
    intro W hW
    obtain ⟨q, hq⟩ := hW
    refine (Tryz.strings_Cut (Tk.bs b) (Tk.bs [59]) q W hbs hq).mono ?_
    rintro e w' ⟨rfl, nd, rfl⟩
    refine ⟨?_, aF_ (Below.refl _ _) nd⟩
    rw [show Lib.cut (Tk.bs b).data.toList (Tk.bs [59]).data.toList = (b, [], false) from upto_none hu2]
    rfl
   have hR : entsV l = ([], 5) := by unfold entsV; rw [HE.out, ents_open hu hu2]; rfl
   have HR := Lib.hid hR
   clear hu hu2 hms hd hR hG1 hsa hbs hsm
   go_wp2_with (first | (go_at_call 79; (with_reducible refine (C1 _ HG1.out).mono ?_); rintro e w1 ⟨rfl, b1⟩; have B1 := aA_.mk b1; clear b1) | (go_at_call 23; (with_reducible refine ((HH.out.below B1.out).write HSA.out).mono ?_); rintro e w2 ⟨rfl, h2, b2⟩; have H2 := aA_.mk h2; have B2 := aA_.mk b2; have HG2 := aA_.mk (HG.out.below ((bG_ HB.out B1.out).trans b2) hpos); clear h2 b2) | (go_at_call 79; (with_reducible refine (C2 _ HG2.out).mono ?_); rintro e w4 ⟨rfl, b4⟩; have B4 := aA_.mk b4; have HG4 := aA_.mk (HG2.out.step b4); clear b4) | (go_at_call 86; (with_reducible refine (token_entity.calls b _ HG4.out).mono ?_); rintro e w5 ⟨rfl, d5⟩; have B5 := aA_.mk d5.below; clear d5))
   go_ret2
   exact ⟨by rw [HR.out]; rfl, bG_ (bG_ ((bG_ HB.out B1.out).trans B2.out) B4.out) B5.out⟩
  | some p2 =>
   obtain ⟨nm, r⟩ := p2
   have hsm2 := eA_ hu2
   have C2 : ∀ W, Glob W → Calls Tryz.prog 79 #[.string (Tk.bs b), .string (⟨#[59]⟩ : ByteArray)] W fun e w' => e = .returned (.tuple #[.string (Tk.bs nm), .string (Tk.bs r), .bool true]) ∧ Below W.heap.size W w' := by
    intro W hW
    obtain ⟨q, hq⟩ := hW
    refine (Tryz.strings_Cut (Tk.bs b) (Tk.bs [59]) q W hbs hq).mono ?_
    rintro e w' ⟨rfl, nd, rfl⟩
    refine ⟨?_, aF_ (Below.refl _ _) nd⟩
    rw [show Lib.cut (Tk.bs b).data.toList (Tk.bs [59]).data.toList = (nm, r, true) from upto_some hu2]
    rfl
   have hst := ents_step (n := g1) hu hu2
   have CE := token_entity.calls nm
   cases hen : Tk.entity nm with
   | none =>
    have hv : entV nm = ([], false) := by unfold entV; rw [hen]
    rw [hv] at CE
    have hR : entsV l = ([], 5) := by unfold entsV; rw [HE.out, hst, hen]; rfl
    have HR := Lib.hid hR
    clear hu hu2 hms hd hR hG1 hsa hbs hsm hsm2 hst hen hv
    go_wp2_with (first | (go_at_call 79; (with_reducible refine (C1 _ HG1.out).mono ?_); rintro e w1 ⟨rfl, b1⟩; have B1 := aA_.mk b1; clear b1) | (go_at_call 23; (with_reducible refine ((HH.out.below B1.out).write HSA.out).mono ?_); rintro e w2 ⟨rfl, h2, b2⟩; have H2 := aA_.mk h2; have B2 := aA_.mk b2; have HG2 := aA_.mk (HG.out.below ((bG_ HB.out B1.out).trans b2) hpos); clear h2 b2) | (go_at_call 79; (with_reducible refine (C2 _ HG2.out).mono ?_); rintro e w4 ⟨rfl, b4⟩; have B4 := aA_.mk b4; have HG4 := aA_.mk (HG2.out.step b4); clear b4) | (go_at_call 86; (with_reducible refine (CE _ HG4.out).mono ?_); rintro e w5 ⟨rfl, d5⟩; have B5 := aA_.mk d5.below; clear d5))
    go_ret2
    exact ⟨by rw [HR.out]; rfl, bG_ (bG_ ((bG_ HB.out B1.out).trans B2.out) B4.out) B5.out⟩
   | some c =>
    have hv : entV nm = (c, true) := by unfold entV; rw [hen]
    rw [hv] at CE
    have hcl := entity_len hen
    have hsc : (Tk.bs d ++ Tk.bs a).size + (Tk.bs c).size ≤ 140737488355328 := by rw [ByteArray.size_append, bV_, bV_, bV_]; omega
    have HSC := Lib.hid hsc
    have hn1 : r.length < g1 := by simp only [List.length_cons, List.length_nil] at hsm hsm2; omega
    have hd1 : (d ++ (a ++ c)).length + 4 * r.length ≤ 4 * l.length := by simp only [List.length_cons, List.length_nil, List.length_append] at hsm hsm2 ⊢; omega
    have hE1 : Tk.entities l = (Tk.ents g1 r).map fun t => (d ++ (a ++ c)) ++ t := by
     rw [HE.out, hst, hen]
     cases Tk.ents g1 r with
     | none => rfl
     | some t => simp
    have HD1 := aA_.mk hd1
    have HE1 := aA_.mk hE1
    clear hu hu2 hms hd hG1 hsa hbs hsm hsm2 hst hen hv hsc hd1 hE1 hcl
    go_wp2_with (first | (go_at_call 79; (with_reducible refine (C1 _ HG1.out).mono ?_); rintro e w1 ⟨rfl, b1⟩; have B1 := aA_.mk b1; clear b1) | (go_at_call 23; (with_reducible refine ((HH.out.below B1.out).write HSA.out).mono ?_); rintro e w2 ⟨rfl, h2, b2⟩; have H2 := aA_.mk h2; have B2 := aA_.mk b2; have HG2 := aA_.mk (HG.out.below ((bG_ HB.out B1.out).trans b2) hpos); clear h2 b2) | (go_at_call 79; (with_reducible refine (C2 _ HG2.out).mono ?_); rintro e w4 ⟨rfl, b4⟩; have B4 := aA_.mk b4; have HG4 := aA_.mk (HG2.out.step b4); clear b4) | (go_at_call 86; (with_reducible refine (CE _ HG4.out).mono ?_); rintro e w5 ⟨rfl, d5⟩; have B5 := aA_.mk d5.below; clear d5) | (go_at_call 23; (with_reducible refine (((H2.out.below B4.out).below B5.out).write HSC.out).mono ?_); rintro e w6 ⟨rfl, h6, b6⟩; have H6 := aA_.mk h6; have B6 := aA_.mk b6; clear h6 b6))
    go_roundg g1
    case measure => omega
    case rel =>
     refine ⟨r, d ++ (a ++ c), by first | rfl | (simp; done), hn1, HD1, HE1, ?_, ?_⟩
     ·refine ⟨?_⟩
      have := H6.out
      rw [bs_append, bs_append, List.append_assoc] at this
      exact this
     ·exact ⟨(bG_ (bG_ ((bG_ HB.out B1.out).trans B2.out) B4.out) B5.out).trans B6.out⟩
theorem cM_ {x l r : List UInt8} (h : Tk.behind x l = some r) : r.length ≤ l.length := by
 unfold Tk.behind at h
 split at h
 ·injection h with h
  rw [← h, List.length_drop]; omega
 ·cases h
theorem pre_f {l : List UInt8} {x : List UInt8} {b : Bool} (h : x.isPrefixOf l = b) (W : World) : Calls Tryz.prog 96 #[.string (Tk.bs l), .string (Tk.bs x)] W fun e w' => e = .returned (.bool b) ∧ W = w' := by
 refine (Tryz.strings_HasPrefix (Tk.bs l) (Tk.bs x) W).mono ?_
 rintro e w' ⟨rfl, rfl⟩
 exact ⟨by rw [show Lib.hasPrefix (Tk.bs l).data.toList (Tk.bs x).data.toList = b from h], rfl⟩
theorem con_f {l : List UInt8} {x : List UInt8} {b : Bool} (h : Lib.contains l x = b) (hl : l.length ≤ 1000000) (W : World) (hG : Glob W) : Calls Tryz.prog 64 #[.string (Tk.bs l), .string (Tk.bs x)] W fun e w' => e = .returned (.bool b) ∧ W = w' := by
 obtain ⟨m, hm⟩ := hG
 refine (Tryz.strings_Contains (Tk.bs l) (Tk.bs x) m W (by rw [bV_]; omega) hm).mono ?_
 rintro e w' ⟨rfl, rfl⟩
 exact ⟨by rw [show Lib.contains (Tk.bs l).data.toList (Tk.bs x).data.toList = b from h], rfl⟩
theorem ent_f {l : List UInt8} {x : List UInt8 × Int} (h : entsV l = x) (hl : l.length ≤ 1000000) (W : World) (hG : Glob W) : Calls Tryz.prog 73 #[.string (Tk.bs l)] W fun e w' => e = .returned (.tuple #[.string (Tk.bs x.1), .int .i64 x.2]) ∧ Below W.heap.size W w' := by
 rw [← h]
 exact token_Entities.calls0 l hl W hG
theorem bQ_.yes34 (B g : Nat) {ok : Nat → Prop} (l r1 a r v : List UInt8) (L : List S45) (w : World) (h : bH_ w B g ok (Tk.bs l) L) (hG : Glob w) (hl : l.length ≤ 1000000) (hp : [34].isPrefixOf l = true) (he : Tk.behind [34] l = some r1) (hu : Tk.upto [34] r1 = some (a, r)) (hc : Lib.contains a [60] = false) (hv : entsV a = (v, 0)) :
 Calls Tryz.prog 83 #[.pointer (some ⟨g, 0, none⟩)] w fun e w' => e = .returned (.tuple #[.string (Tk.bs v), .bool true]) ∧ bH_ w' B g ok (Tk.bs r) L ∧ Below B w w' ∧ aJ_ w w' g none := by
 have hpos := h.pos
 have hsz := h.size
 have c0 := h.cell0
 have hl1 : r1.length ≤ 1000000 := Nat.le_trans (cM_ he) hl
 have hl2 : a.length ≤ 1000000 := Nat.le_trans (dK_ hu).1 hl1
 have H := aA_.mk h
 have HG := aA_.mk hG
 have HP := Lib.hid hp
 have HE := Lib.hid he
 have HU := Lib.hid hu
 have HC := Lib.hid hc
 have HV := Lib.hid hv
 clear h hG hp he hu hc hv
 go_enter Tryz.func83, Tryz.ntmps83
 go_wp2_with (first | (go_at_call 96; refine (pre_f (x := [34]) (b := true) HP.out _).mono ?_; rintro e w1 ⟨rfl, rfl⟩) | (go_at_call 46; refine (bC_.yesK B g l [34] r1 L _ H.out HE.out).mono ?_; rintro e w2 ⟨rfl, h2, b2, k2⟩; have K2 := aA_.mk k2; clear k2; have H2 := aA_.mk h2; have B2 := aA_.mk b2; have HG2 := aA_.mk (HG.out.below b2 hpos); clear h2 b2) | (go_at_call 63; refine (bR_.yesK B g r1 [34] a r L _ H2.out HG2.out hl1 HU.out).mono ?_; rintro e w3 ⟨rfl, h3, b3, k3⟩; have K3 := aA_.mk k3; clear k3; have H3 := aA_.mk h3; have B3 := aA_.mk b3; have HG3 := aA_.mk (HG2.out.below b3 hpos); clear h3 b3) | (go_at_call 64; refine (con_f (x := [60]) (b := false) HC.out hl2 _ HG3.out).mono ?_; rintro e w4 ⟨rfl, rfl⟩) | (go_at_call 73; refine (ent_f (x := (v, 0)) HV.out hl2 _ HG3.out).mono ?_; rintro e w5 ⟨rfl, b5⟩; have B5 := aA_.mk b5; clear b5))
 go_ret2
 exact ⟨rfl, H3.out.below B5.out, (B2.out.trans B3.out).trans (B5.out.mono (Nat.le_trans hsz (B2.out.trans B3.out).size)), (K2.out.trans K3.out (.inl rfl)).trans (aJ_.of_below B5.out _ _) (.inl rfl)⟩
theorem bQ_.noe34 (B g : Nat) {ok : Nat → Prop} (l : List UInt8) (L : List S45) (w : World) (h : bH_ w B g ok (Tk.bs l) L) (hG : Glob w) (hl : l.length ≤ 1000000) (hp : [34].isPrefixOf l = true) (he : Tk.behind [34] l = none) :
 Calls Tryz.prog 83 #[.pointer (some ⟨g, 0, none⟩)] w fun e w' => (∃ x, e = .returned (.tuple #[.string x, .bool false])) ∧ Below B w w' ∧ aJ_ w w' g none := by
 have hpos := h.pos
 have hsz := h.size
 have c0 := h.cell0
 have H := aA_.mk h
 have HG := aA_.mk hG
 have HP := Lib.hid hp
 have HE := Lib.hid he
 clear h hG hp he
 go_enter Tryz.func83, Tryz.ntmps83
 go_wp2_with (first | (go_at_call 96; refine (pre_f (x := [34]) (b := true) HP.out _).mono ?_; rintro e w1 ⟨rfl, rfl⟩) | (go_at_call 46; refine (bC_.noK B g l [34] L _ H.out HE.out).mono ?_; rintro e w2 ⟨rfl, h2, b2, k2⟩; have K2 := aA_.mk k2; clear k2; have H2 := aA_.mk h2; have B2 := aA_.mk b2; have HG2 := aA_.mk (HG.out.below b2 hpos); clear h2 b2))
 go_ret2
 exact ⟨⟨_, rfl⟩, B2.out, K2.out⟩
theorem bQ_.nou34 (B g : Nat) {ok : Nat → Prop} (l : List UInt8) (r1 : List UInt8) (L : List S45) (w : World) (h : bH_ w B g ok (Tk.bs l) L) (hG : Glob w) (hl : l.length ≤ 1000000) (hp : [34].isPrefixOf l = true) (he : Tk.behind [34] l = some r1) (hu : Tk.upto [34] r1 = none) :
 Calls Tryz.prog 83 #[.pointer (some ⟨g, 0, none⟩)] w fun e w' => (∃ x, e = .returned (.tuple #[.string x, .bool false])) ∧ Below B w w' ∧ aJ_ w w' g none := by
 have hpos := h.pos
 have hsz := h.size
 have c0 := h.cell0
 have hl1 : r1.length ≤ 1000000 := Nat.le_trans (cM_ he) hl
 have H := aA_.mk h
 have HG := aA_.mk hG
 have HP := Lib.hid hp
 have HE := Lib.hid he
 have HU := Lib.hid hu
 clear h hG hp he hu
 go_enter Tryz.func83, Tryz.ntmps83
 go_wp2_with (first | (go_at_call 96; refine (pre_f (x := [34]) (b := true) HP.out _).mono ?_; rintro e w1 ⟨rfl, rfl⟩) | (go_at_call 46; refine (bC_.yesK B g l [34] r1 L _ H.out HE.out).mono ?_; rintro e w2 ⟨rfl, h2, b2, k2⟩; have K2 := aA_.mk k2; clear k2; have H2 := aA_.mk h2; have B2 := aA_.mk b2; have HG2 := aA_.mk (HG.out.below b2 hpos); clear h2 b2) | (go_at_call 63; refine (bR_.noK B g r1 [34] L _ H2.out HG2.out hl1 HU.out).mono ?_; rintro e w3 ⟨rfl, h3, b3, k3⟩; have K3 := aA_.mk k3; clear k3; have H3 := aA_.mk h3; have B3 := aA_.mk b3; have HG3 := aA_.mk (HG2.out.below b3 hpos); clear h3 b3))
 go_ret2
 exact ⟨⟨_, rfl⟩, B2.out.trans B3.out, K2.out.trans K3.out (.inl rfl)⟩
theorem bQ_.noc34 (B g : Nat) {ok : Nat → Prop} (l : List UInt8) (r1 a r : List UInt8) (L : List S45) (w : World) (h : bH_ w B g ok (Tk.bs l) L) (hG : Glob w) (hl : l.length ≤ 1000000) (hp : [34].isPrefixOf l = true) (he : Tk.behind [34] l = some r1) (hu : Tk.upto [34] r1 = some (a, r)) (hc : Lib.contains a [60] = true) :
 Calls Tryz.prog 83 #[.pointer (some ⟨g, 0, none⟩)] w fun e w' => (∃ x, e = .returned (.tuple #[.string x, .bool false])) ∧ Below B w w' ∧ aJ_ w w' g none := by
 have hpos := h.pos
 have hsz := h.size
 have c0 := h.cell0
 have hl1 : r1.length ≤ 1000000 := Nat.le_trans (cM_ he) hl
 have hl2 : a.length ≤ 1000000 := Nat.le_trans (dK_ hu).1 hl1
 have H := aA_.mk h
 have HG := aA_.mk hG
 have HP := Lib.hid hp
 have HE := Lib.hid he
 have HU := Lib.hid hu
 have HC := Lib.hid hc
 clear h hG hp he hu hc
 go_enter Tryz.func83, Tryz.ntmps83
 go_wp2_with (first | (go_at_call 96; refine (pre_f (x := [34]) (b := true) HP.out _).mono ?_; rintro e w1 ⟨rfl, rfl⟩) | (go_at_call 46; refine (bC_.yesK B g l [34] r1 L _ H.out HE.out).mono ?_; rintro e w2 ⟨rfl, h2, b2, k2⟩; have K2 := aA_.mk k2; clear k2; have H2 := aA_.mk h2; have B2 := aA_.mk b2; have HG2 := aA_.mk (HG.out.below b2 hpos); clear h2 b2) | (go_at_call 63; refine (bR_.yesK B g r1 [34] a r L _ H2.out HG2.out hl1 HU.out).mono ?_; rintro e w3 ⟨rfl, h3, b3, k3⟩; have K3 := aA_.mk k3; clear k3; have H3 := aA_.mk h3; have B3 := aA_.mk b3; have HG3 := aA_.mk (HG2.out.below b3 hpos); clear h3 b3) | (go_at_call 64; refine (con_f (x := [60]) (b := true) HC.out hl2 _ HG3.out).mono ?_; rintro e w4 ⟨rfl, rfl⟩))
 go_ret2
 exact ⟨⟨_, rfl⟩, B2.out.trans B3.out, K2.out.trans K3.out (.inl rfl)⟩
theorem bQ_.nov34 (B g : Nat) {ok : Nat → Prop} (l : List UInt8) (r1 a r : List UInt8) (L : List S45) (w : World) (h : bH_ w B g ok (Tk.bs l) L) (hG : Glob w) (hl : l.length ≤ 1000000) (hp : [34].isPrefixOf l = true) (he : Tk.behind [34] l = some r1) (hu : Tk.upto [34] r1 = some (a, r)) (hc : Lib.contains a [60] = false) (hv : entsV a = ([], 5)) :
 Calls Tryz.prog 83 #[.pointer (some ⟨g, 0, none⟩)] w fun e w' => (∃ x, e = .returned (.tuple #[.string x, .bool false])) ∧ Below B w w' ∧ aJ_ w w' g none := by
 have hpos := h.pos
 have hsz := h.size
 have c0 := h.cell0
 have hl1 : r1.length ≤ 1000000 := Nat.le_trans (cM_ he) hl
 have hl2 : a.length ≤ 1000000 := Nat.le_trans (dK_ hu).1 hl1
 have H := aA_.mk h
 have HG := aA_.mk hG
 have HP := Lib.hid hp
 have HE := Lib.hid he
 have HU := Lib.hid hu
 have HC := Lib.hid hc
 have HV := Lib.hid hv
 clear h hG hp he hu hc hv
 go_enter Tryz.func83, Tryz.ntmps83
 go_wp2_with (first | (go_at_call 96; refine (pre_f (x := [34]) (b := true) HP.out _).mono ?_; rintro e w1 ⟨rfl, rfl⟩) | (go_at_call 46; refine (bC_.yesK B g l [34] r1 L _ H.out HE.out).mono ?_; rintro e w2 ⟨rfl, h2, b2, k2⟩; have K2 := aA_.mk k2; clear k2; have H2 := aA_.mk h2; have B2 := aA_.mk b2; have HG2 := aA_.mk (HG.out.below b2 hpos); clear h2 b2) | (go_at_call 63; refine (bR_.yesK B g r1 [34] a r L _ H2.out HG2.out hl1 HU.out).mono ?_; rintro e w3 ⟨rfl, h3, b3, k3⟩; have K3 := aA_.mk k3; clear k3; have H3 := aA_.mk h3; have B3 := aA_.mk b3; have HG3 := aA_.mk (HG2.out.below b3 hpos); clear h3 b3) | (go_at_call 64; refine (con_f (x := [60]) (b := false) HC.out hl2 _ HG3.out).mono ?_; rintro e w4 ⟨rfl, rfl⟩) | (go_at_call 73; refine (ent_f (x := ([], 5)) HV.out hl2 _ HG3.out).mono ?_; rintro e w5 ⟨rfl, b5⟩; have B5 := aA_.mk b5; clear b5))
 go_ret2
 exact ⟨⟨_, rfl⟩, (B2.out.trans B3.out).trans (B5.out.mono (Nat.le_trans hsz (B2.out.trans B3.out).size)), (K2.out.trans K3.out (.inl rfl)).trans (aJ_.of_below B5.out _ _) (.inl rfl)⟩
theorem bQ_.yes39 (B g : Nat) {ok : Nat → Prop} (l r1 a r v : List UInt8) (L : List S45) (w : World) (h : bH_ w B g ok (Tk.bs l) L) (hG : Glob w) (hl : l.length ≤ 1000000) (hp : [34].isPrefixOf l = false) (he : Tk.behind [39] l = some r1) (hu : Tk.upto [39] r1 = some (a, r)) (hc : Lib.contains a [60] = false) (hv : entsV a = (v, 0)) :
 Calls Tryz.prog 83 #[.pointer (some ⟨g, 0, none⟩)] w fun e w' => e = .returned (.tuple #[.string (Tk.bs v), .bool true]) ∧ bH_ w' B g ok (Tk.bs r) L ∧ Below B w w' ∧ aJ_ w w' g none := by
 have hpos := h.pos
 have hsz := h.size
 have c0 := h.cell0
 have hl1 : r1.length ≤ 1000000 := Nat.le_trans (cM_ he) hl
 have hl2 : a.length ≤ 1000000 := Nat.le_trans (dK_ hu).1 hl1
 have H := aA_.mk h
 have HG := aA_.mk hG
 have HP := Lib.hid hp
 have HE := Lib.hid he
 have HU := Lib.hid hu
 have HC := Lib.hid hc
 have HV := Lib.hid hv
 clear h hG hp he hu hc hv
 go_enter Tryz.func83, Tryz.ntmps83
 go_wp2_with (first | (go_at_call 96; refine (pre_f (x := [34]) (b := false) HP.out _).mono ?_; rintro e w1 ⟨rfl, rfl⟩) | (go_at_call 46; refine (bC_.yesK B g l [39] r1 L _ H.out HE.out).mono ?_; rintro e w2 ⟨rfl, h2, b2, k2⟩; have K2 := aA_.mk k2; clear k2; have H2 := aA_.mk h2; have B2 := aA_.mk b2; have HG2 := aA_.mk (HG.out.below b2 hpos); clear h2 b2) | (go_at_call 63; refine (bR_.yesK B g r1 [39] a r L _ H2.out HG2.out hl1 HU.out).mono ?_; rintro e w3 ⟨rfl, h3, b3, k3⟩; have K3 := aA_.mk k3; clear k3; have H3 := aA_.mk h3; have B3 := aA_.mk b3; have HG3 := aA_.mk (HG2.out.below b3 hpos); clear h3 b3) | (go_at_call 64; refine (con_f (x := [60]) (b := false) HC.out hl2 _ HG3.out).mono ?_; rintro e w4 ⟨rfl, rfl⟩) | (go_at_call 73; refine (ent_f (x := (v, 0)) HV.out hl2 _ HG3.out).mono ?_; rintro e w5 ⟨rfl, b5⟩; have B5 := aA_.mk b5; clear b5))
 go_ret2
 exact ⟨rfl, H3.out.below B5.out, (B2.out.trans B3.out).trans (B5.out.mono (Nat.le_trans hsz (B2.out.trans B3.out).size)), (K2.out.trans K3.out (.inl rfl)).trans (aJ_.of_below B5.out _ _) (.inl rfl)⟩
theorem bQ_.noe39 (B g : Nat) {ok : Nat → Prop} (l : List UInt8) (L : List S45) (w : World) (h : bH_ w B g ok (Tk.bs l) L) (hG : Glob w) (hl : l.length ≤ 1000000) (hp : [34].isPrefixOf l = false) (he : Tk.behind [39] l = none) :
 Calls Tryz.prog 83 #[.pointer (some ⟨g, 0, none⟩)] w fun e w' => (∃ x, e = .returned (.tuple #[.string x, .bool false])) ∧ Below B w w' ∧ aJ_ w w' g none := by
 have hpos := h.pos
 have hsz := h.size
 have c0 := h.cell0
 have H := aA_.mk h
 have HG := aA_.mk hG
 have HP := Lib.hid hp
 have HE := Lib.hid he
 clear h hG hp he
 go_enter Tryz.func83, Tryz.ntmps83
 go_wp2_with (first | (go_at_call 96; refine (pre_f (x := [34]) (b := false) HP.out _).mono ?_; rintro e w1 ⟨rfl, rfl⟩) | (go_at_call 46; refine (bC_.noK B g l [39] L _ H.out HE.out).mono ?_; rintro e w2 ⟨rfl, h2, b2, k2⟩; have K2 := aA_.mk k2; clear k2; have H2 := aA_.mk h2; have B2 := aA_.mk b2; have HG2 := aA_.mk (HG.out.below b2 hpos); clear h2 b2))
 go_ret2
 exact ⟨⟨_, rfl⟩, B2.out, K2.out⟩
theorem bQ_.nou39 (B g : Nat) {ok : Nat → Prop} (l : List UInt8) (r1 : List UInt8) (L : List S45) (w : World) (h : bH_ w B g ok (Tk.bs l) L) (hG : Glob w) (hl : l.length ≤ 1000000) (hp : [34].isPrefixOf l = false) (he : Tk.behind [39] l = some r1) (hu : Tk.upto [39] r1 = none) :
 Calls Tryz.prog 83 #[.pointer (some ⟨g, 0, none⟩)] w fun e w' => (∃ x, e = .returned (.tuple #[.string x, .bool false])) ∧ Below B w w' ∧ aJ_ w w' g none := by
 have hpos := h.pos
 have hsz := h.size
 have c0 := h.cell0
 have hl1 : r1.length ≤ 1000000 := Nat.le_trans (cM_ he) hl
 have H := aA_.mk h
 have HG := aA_.mk hG
 have HP := Lib.hid hp
 have HE := Lib.hid he
 have HU := Lib.hid hu
 clear h hG hp he hu
 go_enter Tryz.func83, Tryz.ntmps83
 go_wp2_with (first | (go_at_call 96; refine (pre_f (x := [34]) (b := false) HP.out _).mono ?_; rintro e w1 ⟨rfl, rfl⟩) | (go_at_call 46; refine (bC_.yesK B g l [39] r1 L _ H.out HE.out).mono ?_; rintro e w2 ⟨rfl, h2, b2, k2⟩; have K2 := aA_.mk k2; clear k2; have H2 := aA_.mk h2; have B2 := aA_.mk b2; have HG2 := aA_.mk (HG.out.below b2 hpos); clear h2 b2) | (go_at_call 63; refine (bR_.noK B g r1 [39] L _ H2.out HG2.out hl1 HU.out).mono ?_; rintro e w3 ⟨rfl, h3, b3, k3⟩; have K3 := aA_.mk k3; clear k3; have H3 := aA_.mk h3; have B3 := aA_.mk b3; have HG3 := aA_.mk (HG2.out.below b3 hpos); clear h3 b3))
 go_ret2
 exact ⟨⟨_, rfl⟩, B2.out.trans B3.out, K2.out.trans K3.out (.inl rfl)⟩
theorem bQ_.noc39 (B g : Nat) {ok : Nat → Prop} (l : List UInt8) (r1 a r : List UInt8) (L : List S45) (w : World) (h : bH_ w B g ok (Tk.bs l) L) (hG : Glob w) (hl : l.length ≤ 1000000) (hp : [34].isPrefixOf l = false) (he : Tk.behind [39] l = some r1) (hu : Tk.upto [39] r1 = some (a, r)) (hc : Lib.contains a [60] = true) :
 Calls Tryz.prog 83 #[.pointer (some ⟨g, 0, none⟩)] w fun e w' => (∃ x, e = .returned (.tuple #[.string x, .bool false])) ∧ Below B w w' ∧ aJ_ w w' g none := by
 have hpos := h.pos
 have hsz := h.size
 have c0 := h.cell0
 have hl1 : r1.length ≤ 1000000 := Nat.le_trans (cM_ he) hl
 have hl2 : a.length ≤ 1000000 := Nat.le_trans (dK_ hu).1 hl1
 have H := aA_.mk h
 have HG := aA_.mk hG
 have HP := Lib.hid hp
 have HE := Lib.hid he
 have HU := Lib.hid hu
 have HC := Lib.hid hc
 clear h hG hp he hu hc
 go_enter Tryz.func83, Tryz.ntmps83
 go_wp2_with (first | (go_at_call 96; refine (pre_f (x := [34]) (b := false) HP.out _).mono ?_; rintro e w1 ⟨rfl, rfl⟩) | (go_at_call 46; refine (bC_.yesK B g l [39] r1 L _ H.out HE.out).mono ?_; rintro e w2 ⟨rfl, h2, b2, k2⟩; have K2 := aA_.mk k2; clear k2; have H2 := aA_.mk h2; have B2 := aA_.mk b2; have HG2 := aA_.mk (HG.out.below b2 hpos); clear h2 b2) | (go_at_call 63; refine (bR_.yesK B g r1 [39] a r L _ H2.out HG2.out hl1 HU.out).mono ?_; rintro e w3 ⟨rfl, h3, b3, k3⟩; have K3 := aA_.mk k3; clear k3; have H3 := aA_.mk h3; have B3 := aA_.mk b3; have HG3 := aA_.mk (HG2.out.below b3 hpos); clear h3 b3) | (go_at_call 64; refine (con_f (x := [60]) (b := true) HC.out hl2 _ HG3.out).mono ?_; rintro e w4 ⟨rfl, rfl⟩))
 go_ret2
 exact ⟨⟨_, rfl⟩, B2.out.trans B3.out, K2.out.trans K3.out (.inl rfl)⟩
theorem bQ_.nov39 (B g : Nat) {ok : Nat → Prop} (l : List UInt8) (r1 a r : List UInt8) (L : List S45) (w : World) (h : bH_ w B g ok (Tk.bs l) L) (hG : Glob w) (hl : l.length ≤ 1000000) (hp : [34].isPrefixOf l = false) (he : Tk.behind [39] l = some r1) (hu : Tk.upto [39] r1 = some (a, r)) (hc : Lib.contains a [60] = false) (hv : entsV a = ([], 5)) :
 Calls Tryz.prog 83 #[.pointer (some ⟨g, 0, none⟩)] w fun e w' => (∃ x, e = .returned (.tuple #[.string x, .bool false])) ∧ Below B w w' ∧ aJ_ w w' g none := by
 have hpos := h.pos
 have hsz := h.size
 have c0 := h.cell0
 have hl1 : r1.length ≤ 1000000 := Nat.le_trans (cM_ he) hl
 have hl2 : a.length ≤ 1000000 := Nat.le_trans (dK_ hu).1 hl1
 have H := aA_.mk h
 have HG := aA_.mk hG
 have HP := Lib.hid hp
 have HE := Lib.hid he
 have HU := Lib.hid hu
 have HC := Lib.hid hc
 have HV := Lib.hid hv
 clear h hG hp he hu hc hv
 go_enter Tryz.func83, Tryz.ntmps83
 go_wp2_with (first | (go_at_call 96; refine (pre_f (x := [34]) (b := false) HP.out _).mono ?_; rintro e w1 ⟨rfl, rfl⟩) | (go_at_call 46; refine (bC_.yesK B g l [39] r1 L _ H.out HE.out).mono ?_; rintro e w2 ⟨rfl, h2, b2, k2⟩; have K2 := aA_.mk k2; clear k2; have H2 := aA_.mk h2; have B2 := aA_.mk b2; have HG2 := aA_.mk (HG.out.below b2 hpos); clear h2 b2) | (go_at_call 63; refine (bR_.yesK B g r1 [39] a r L _ H2.out HG2.out hl1 HU.out).mono ?_; rintro e w3 ⟨rfl, h3, b3, k3⟩; have K3 := aA_.mk k3; clear k3; have H3 := aA_.mk h3; have B3 := aA_.mk b3; have HG3 := aA_.mk (HG2.out.below b3 hpos); clear h3 b3) | (go_at_call 64; refine (con_f (x := [60]) (b := false) HC.out hl2 _ HG3.out).mono ?_; rintro e w4 ⟨rfl, rfl⟩) | (go_at_call 73; refine (ent_f (x := ([], 5)) HV.out hl2 _ HG3.out).mono ?_; rintro e w5 ⟨rfl, b5⟩; have B5 := aA_.mk b5; clear b5))
 go_ret2
 exact ⟨⟨_, rfl⟩, (B2.out.trans B3.out).trans (B5.out.mono (Nat.le_trans hsz (B2.out.trans B3.out).size)), (K2.out.trans K3.out (.inl rfl)).trans (aJ_.of_below B5.out _ _) (.inl rfl)⟩
theorem entsV_some {l c : List UInt8} (h : Tk.entities l = some c) : entsV l = (c, 0) := by unfold entsV; rw [h]
theorem entsV_none {l : List UInt8} (h : Tk.entities l = none) : entsV l = ([], 5) := by unfold entsV; rw [h]
theorem bQ_.yesK (B g : Nat) {ok : Nat → Prop} (l r v : List UInt8) (L : List S45) (w : World) (h : bH_ w B g ok (Tk.bs l) L) (hG : Glob w) (hl : l.length ≤ 1000000) (hx : Tk.value l = some (v, r)) :
 Calls Tryz.prog 83 #[.pointer (some ⟨g, 0, none⟩)] w fun e w' => e = .returned (.tuple #[.string (Tk.bs v), .bool true]) ∧ bH_ w' B g ok (Tk.bs r) L ∧ Below B w w' ∧ aJ_ w w' g none := by
 unfold Tk.value at hx
 cases hp : [34].isPrefixOf l with
 | true =>
  rw [if_pos hp] at hx
  obtain ⟨r1, he, hx⟩ := Option.bind_eq_some_iff.1 hx
  obtain ⟨⟨a, b⟩, hu, hx⟩ := Option.bind_eq_some_iff.1 hx
  simp only at hx
  by_cases hc : 0 ≤ Lib.index a [60]
  ·rw [if_pos hc] at hx; cases hx
  ·rw [if_neg hc] at hx
   obtain ⟨c, hv, hx⟩ := Option.map_eq_some_iff.1 hx
   obtain ⟨rfl, rfl⟩ := Prod.mk.inj hx
   exact bQ_.yes34 B g l r1 a _ _ L w h hG hl hp he hu (contains_no hc) (entsV_some hv)
 | false =>
  rw [if_neg (by rw [hp]; decide)] at hx
  obtain ⟨r1, he, hx⟩ := Option.bind_eq_some_iff.1 hx
  obtain ⟨⟨a, b⟩, hu, hx⟩ := Option.bind_eq_some_iff.1 hx
  simp only at hx
  by_cases hc : 0 ≤ Lib.index a [60]
  ·rw [if_pos hc] at hx; cases hx
  ·rw [if_neg hc] at hx
   obtain ⟨c, hv, hx⟩ := Option.map_eq_some_iff.1 hx
   obtain ⟨rfl, rfl⟩ := Prod.mk.inj hx
   exact bQ_.yes39 B g l r1 a _ _ L w h hG hl hp he hu (contains_no hc) (entsV_some hv)
theorem bQ_.noK (B g : Nat) {ok : Nat → Prop} (l : List UInt8) (L : List S45) (w : World) (h : bH_ w B g ok (Tk.bs l) L) (hG : Glob w) (hl : l.length ≤ 1000000) (hx : Tk.value l = none) :
 Calls Tryz.prog 83 #[.pointer (some ⟨g, 0, none⟩)] w fun e w' => (∃ x, e = .returned (.tuple #[.string x, .bool false])) ∧ Below B w w' ∧ aJ_ w w' g none := by
 unfold Tk.value at hx
 cases hp : [34].isPrefixOf l with
 | true =>
  rw [if_pos hp] at hx
  dsimp only at hx
  cases he : Tk.behind [34] l with
  | none => exact bQ_.noe34 B g l L w h hG hl hp he
  | some r1 =>
   rw [he, Option.bind_some] at hx
   cases hu : Tk.upto [34] r1 with
   | none => exact bQ_.nou34 B g l r1 L w h hG hl hp he hu
   | some p =>
    obtain ⟨a, r⟩ := p
    rw [hu, Option.bind_some] at hx
    simp only at hx
    by_cases hc : 0 ≤ Lib.index a [60]
    ·exact bQ_.noc34 B g l r1 a r L w h hG hl hp he hu (contains_yes hc)
    ·rw [if_neg hc] at hx
     exact bQ_.nov34 B g l r1 a r L w h hG hl hp he hu (contains_no hc) (entsV_none (Option.map_eq_none_iff.1 hx))
 | false =>
  rw [if_neg (by rw [hp]; decide)] at hx
  dsimp only at hx
  cases he : Tk.behind [39] l with
  | none => exact bQ_.noe39 B g l L w h hG hl hp he
  | some r1 =>
   rw [he, Option.bind_some] at hx
   cases hu : Tk.upto [39] r1 with
   | none => exact bQ_.nou39 B g l r1 L w h hG hl hp he hu
   | some p =>
    obtain ⟨a, r⟩ := p
    rw [hu, Option.bind_some] at hx
    simp only at hx
    by_cases hc : 0 ≤ Lib.index a [60]
    ·exact bQ_.noc39 B g l r1 a r L w h hG hl hp he hu (contains_yes hc)
    ·rw [if_neg hc] at hx
     exact bQ_.nov39 B g l r1 a r L w h hG hl hp he hu (contains_no hc) (entsV_none (Option.map_eq_none_iff.1 hx))
theorem cO_.yes (B g : Nat) {ok : Nat → Prop} (l r r1 v : List UInt8) (L : List S45) (w : World) (h : bH_ w B g ok (Tk.bs l) L) (hG : Glob w) (hl : l.length ≤ 1000000) (hh : Tk.head l ≠ []) (he : Tk.behind [61] (Tk.skip (l.drop (Tk.head l).length)) = some r1) (hv : Tk.value (Tk.skip r1) = some (v, r)) :
 Calls Tryz.prog 69 #[.pointer (some ⟨g, 0, none⟩)] w fun e w' => e = .returned (.tuple #[.agg #[.string (Tk.bs (Tk.head l)), .string (Tk.bs v)], .bool true]) ∧ bH_ w' B g ok (Tk.bs r) L ∧ Below B w w' ∧ aJ_ w w' g none := by
 obtain ⟨e1, e2, e3, e4⟩ := bs_some hh
 have hpos := h.pos
 have hsz := h.size
 have hu := Tryz.underlying53
 have hl1 : (l.drop (Tk.head l).length).length ≤ 1000000 := by rw [List.length_drop]; omega
 have hl2 : r1.length ≤ 1000000 := Nat.le_trans (cM_ he) (Nat.le_trans (skip_len _) hl1)
 have hl3 : (Tk.skip r1).length ≤ 1000000 := Nat.le_trans (skip_len _) hl2
 have HG := aA_.mk hG
 have HE := aA_.mk he
 have HV := aA_.mk hv
 have H0 := aA_.mk h
 clear h hG hh he hv
 go_enter Tryz.func69, Tryz.ntmps69
 go_wp2_with (fail)
 have hb0 : Below w.heap.size w (w.alloc (.cells #[.string ⟨#[]⟩, .string ⟨#[]⟩] 53)) := aH_ (Below.refl _ _) _
 have X0 : (w.alloc (.cells #[.string ⟨#[]⟩, .string ⟨#[]⟩] 53)).heap[w.heap.size]? = some (.cells #[.string ⟨#[]⟩, .string ⟨#[]⟩] 53 (0, 0)) := heap_alloc_new w _
 have hgb : w.heap.size ≠ g := Nat.ne_of_gt H0.out.lt
 have H := aA_.mk ((H0.out.more (ok' := fun k => ok k ∧ k ≠ w.heap.size) (fun k hk ho => ⟨ho, Nat.ne_of_lt hk⟩)).below hb0)
 have HG0 := aA_.mk (HG.out.step hb0)
 have B0 := aA_.mk (hb0.mono hsz)
 have K0 := aA_.mk (aJ_.of_below hb0 g none)
 have X := aA_.mk X0
 clear H0 hb0 X0
 generalize w.alloc _ = w0 at *
 refine (cP_.callsK B g l L _ H.out HG0.out hl).mono ?_
 rintro e w1 ⟨rfl, h1, b1, k1⟩
 have H1 := aA_.mk h1
 have HG1 := aA_.mk (HG0.out.below b1 hpos)
 have B1 := aA_.mk (B0.out.trans b1)
 have K1 := aA_.mk (K0.out.trans k1 (.inl rfl))
 have X1 := aA_.mk (k1.blk X.out hgb (by simp))
 clear h1 b1 k1 X H K0 B0
 go_wp2_with (go_at_call 68; refine (cK_.callsK B g _ L _ H1.out HG1.out hl1).mono ?_)
 rintro e w2 ⟨rfl, h1, b1, k1⟩
 have H2 := aA_.mk h1
 have HG2 := aA_.mk (HG1.out.below b1 hpos)
 have B2 := aA_.mk (B1.out.trans b1)
 have K2 := aA_.mk (K1.out.trans k1 (.inl rfl))
 have X2 := aA_.mk (k1.blk X1.out hgb (by simp))
 clear h1 b1 k1 X1 H1 K1 B1
 go_wp2_with (go_at_call 46; refine (bC_.yesK B g _ [61] r1 L _ H2.out HE.out).mono ?_)
 rintro e w3 ⟨rfl, h1, b1, k1⟩
 have H3 := aA_.mk h1
 have HG3 := aA_.mk (HG2.out.below b1 hpos)
 have B3 := aA_.mk (B2.out.trans b1)
 have K3 := aA_.mk (K2.out.trans k1 (.inl rfl))
 have X3 := aA_.mk (k1.blk X2.out hgb (by simp))
 clear h1 b1 k1 X2 H2 K2 B2
 go_wp2_with (go_at_call 68; refine (cK_.callsK B g r1 L _ H3.out HG3.out hl2).mono ?_)
 rintro e w4 ⟨rfl, h1, b1, k1⟩
 have H4 := aA_.mk h1
 have HG4 := aA_.mk (HG3.out.below b1 hpos)
 have B4 := aA_.mk (B3.out.trans b1)
 have K4 := aA_.mk (K3.out.trans k1 (.inl rfl))
 have X4 := aA_.mk (k1.blk X3.out hgb (by simp))
 clear h1 b1 k1 X3 H3 K3 B3
 go_wp2_with (go_at_call 83; refine (bQ_.yesK B g _ r v L _ H4.out HG4.out hl3 HV.out).mono ?_)
 rintro e w5 ⟨rfl, h1, b1, k1⟩
 have H5 := aA_.mk h1
 have HG5 := aA_.mk (HG4.out.below b1 hpos)
 have B5 := aA_.mk (B4.out.trans b1)
 have K5 := aA_.mk (K4.out.trans k1 (.inl rfl))
 have X5 := aA_.mk (k1.blk X4.out hgb (by simp))
 clear h1 b1 k1 X4 H4 K4 B4
 have x0 := (aC_ X5.out 0).trans rfl
 have x1 := (aC_ X5.out 1).trans rfl
 have z0 := aE_ X5.out 0
 have z1 := aE_ X5.out 1
 go_wp2
 have Y : ∀ a b, ((w5.setCell ⟨w.heap.size, 0, none⟩ (.string a)).setCell ⟨w.heap.size, 1, none⟩ (.string b)).heap[w.heap.size]? = some (.cells #[.string a, .string b] 53 (0, 0)) := fun a b => by
  have h1 := c5_ X5.out 0 (.string a)
  have h2 := c5_ h1 1 (.string b)
  simpa using h2
 refine bodyPost_ret (b8_ rfl _ _ w.heap.size 53 #[.string (Tk.bs (Tk.head l)), .string (Tk.bs v)] (0, 0) _ rfl (Y _ _) Tryz.underlying53 rfl (by kernel_rfl)) rfl ⟨rfl, ?_, ?_, ?_⟩
 ·exact ((H5.out.far (p := ⟨w.heap.size, 0, none⟩) hgb (fun k hk => hk.2) _).far (p := ⟨w.heap.size, 1, none⟩) hgb (fun k hk => hk.2) _).more (fun k _ hk => hk.1)
 ·exact (B5.out.setCell (p := ⟨w.heap.size, 0, none⟩) hsz _).setCell (p := ⟨w.heap.size, 1, none⟩) hsz _
 ·exact aQ_ (aQ_ K5.out (Nat.le_refl _) _) (Nat.le_refl _) _
theorem cO_.noh (B g : Nat) {ok : Nat → Prop} (l : List UInt8) (L : List S45) (w : World) (h : bH_ w B g ok (Tk.bs l) L) (hG : Glob w) (hl : l.length ≤ 1000000) (hh : Tk.head l = []) :
 Calls Tryz.prog 69 #[.pointer (some ⟨g, 0, none⟩)] w fun e w' => (∃ x y, e = .returned (.tuple #[.agg #[.string x, .string y], .bool false])) ∧ Below B w w' ∧ aJ_ w w' g none := by
 have e1 := bs_none hh
 have hpos := h.pos
 have hsz := h.size
 have hu := Tryz.underlying53
 have hl1 : (l.drop (Tk.head l).length).length ≤ 1000000 := by rw [List.length_drop]; omega
 have HG := aA_.mk hG
 have H0 := aA_.mk h
 clear h hG hh
 go_enter Tryz.func69, Tryz.ntmps69
 go_wp2_with (fail)
 have hb0 : Below w.heap.size w (w.alloc (.cells #[.string ⟨#[]⟩, .string ⟨#[]⟩] 53)) := aH_ (Below.refl _ _) _
 have X0 : (w.alloc (.cells #[.string ⟨#[]⟩, .string ⟨#[]⟩] 53)).heap[w.heap.size]? = some (.cells #[.string ⟨#[]⟩, .string ⟨#[]⟩] 53 (0, 0)) := heap_alloc_new w _
 have hgb : w.heap.size ≠ g := Nat.ne_of_gt H0.out.lt
 have H := aA_.mk ((H0.out.more (ok' := fun k => ok k ∧ k ≠ w.heap.size) (fun k hk ho => ⟨ho, Nat.ne_of_lt hk⟩)).below hb0)
 have HG0 := aA_.mk (HG.out.step hb0)
 have B0 := aA_.mk (hb0.mono hsz)
 have K0 := aA_.mk (aJ_.of_below hb0 g none)
 have X := aA_.mk X0
 clear H0 hb0 X0
 generalize w.alloc _ = w0 at *
 refine (cP_.callsK B g l L _ H.out HG0.out hl).mono ?_
 rintro e w1 ⟨rfl, h1, b1, k1⟩
 have H1 := aA_.mk h1
 have HG1 := aA_.mk (HG0.out.below b1 hpos)
 have B1 := aA_.mk (B0.out.trans b1)
 have K1 := aA_.mk (K0.out.trans k1 (.inl rfl))
 have X1 := aA_.mk (k1.blk X.out hgb (by simp))
 clear h1 b1 k1 X H K0 B0
 go_wp2_with (go_at_call 68; refine (cK_.callsK B g _ L _ H1.out HG1.out hl1).mono ?_)
 rintro e w2 ⟨rfl, h1, b1, k1⟩
 have H2 := aA_.mk h1
 have HG2 := aA_.mk (HG1.out.below b1 hpos)
 have B2 := aA_.mk (B1.out.trans b1)
 have K2 := aA_.mk (K1.out.trans k1 (.inl rfl))
 have X2 := aA_.mk (k1.blk X1.out hgb (by simp))
 clear h1 b1 k1 X1 H1 K1 B1
 have x0 := (aC_ X2.out 0).trans rfl
 have x1 := (aC_ X2.out 1).trans rfl
 have z0 := aE_ X2.out 0
 have z1 := aE_ X2.out 1
 go_wp2
 have Y : ∀ a b, ((w2.setCell ⟨w.heap.size, 0, none⟩ (.string a)).setCell ⟨w.heap.size, 1, none⟩ (.string b)).heap[w.heap.size]? = some (.cells #[.string a, .string b] 53 (0, 0)) := fun a b => by
  have h1 := c5_ X2.out 0 (.string a)
  have h2 := c5_ h1 1 (.string b)
  simpa using h2
 refine bodyPost_ret (b8_ rfl _ _ w.heap.size 53 #[.string ⟨#[]⟩, .string ⟨#[]⟩] (0, 0) _ rfl (Y _ _) Tryz.underlying53 rfl (by kernel_rfl)) rfl ⟨⟨_, _, rfl⟩, ?_, ?_⟩
 ·exact (B2.out.setCell (p := ⟨w.heap.size, 0, none⟩) hsz _).setCell (p := ⟨w.heap.size, 1, none⟩) hsz _
 ·exact aQ_ (aQ_ K2.out (Nat.le_refl _) _) (Nat.le_refl _) _
theorem cO_.noe (B g : Nat) {ok : Nat → Prop} (l : List UInt8) (L : List S45) (w : World) (h : bH_ w B g ok (Tk.bs l) L) (hG : Glob w) (hl : l.length ≤ 1000000) (hh : Tk.head l ≠ []) (he : Tk.behind [61] (Tk.skip (l.drop (Tk.head l).length)) = none) :
 Calls Tryz.prog 69 #[.pointer (some ⟨g, 0, none⟩)] w fun e w' => (∃ x y, e = .returned (.tuple #[.agg #[.string x, .string y], .bool false])) ∧ Below B w w' ∧ aJ_ w w' g none := by
 obtain ⟨e1, e2, e3, e4⟩ := bs_some hh
 have hpos := h.pos
 have hsz := h.size
 have hu := Tryz.underlying53
 have hl1 : (l.drop (Tk.head l).length).length ≤ 1000000 := by rw [List.length_drop]; omega
 have HG := aA_.mk hG
 have HE := aA_.mk he
 have H0 := aA_.mk h
 clear h hG hh he
 go_enter Tryz.func69, Tryz.ntmps69
 go_wp2_with (fail)
 have hb0 : Below w.heap.size w (w.alloc (.cells #[.string ⟨#[]⟩, .string ⟨#[]⟩] 53)) := aH_ (Below.refl _ _) _
 have X0 : (w.alloc (.cells #[.string ⟨#[]⟩, .string ⟨#[]⟩] 53)).heap[w.heap.size]? = some (.cells #[.string ⟨#[]⟩, .string ⟨#[]⟩] 53 (0, 0)) := heap_alloc_new w _
 have hgb : w.heap.size ≠ g := Nat.ne_of_gt H0.out.lt
 have H := aA_.mk ((H0.out.more (ok' := fun k => ok k ∧ k ≠ w.heap.size) (fun k hk ho => ⟨ho, Nat.ne_of_lt hk⟩)).below hb0)
 have HG0 := aA_.mk (HG.out.step hb0)
 have B0 := aA_.mk (hb0.mono hsz)
 have K0 := aA_.mk (aJ_.of_below hb0 g none)
 have X := aA_.mk X0
 clear H0 hb0 X0
 generalize w.alloc _ = w0 at *
 refine (cP_.callsK B g l L _ H.out HG0.out hl).mono ?_
 rintro e w1 ⟨rfl, h1, b1, k1⟩
 have H1 := aA_.mk h1
 have HG1 := aA_.mk (HG0.out.below b1 hpos)
 have B1 := aA_.mk (B0.out.trans b1)
 have K1 := aA_.mk (K0.out.trans k1 (.inl rfl))
 have X1 := aA_.mk (k1.blk X.out hgb (by simp))
 clear h1 b1 k1 X H K0 B0
 go_wp2_with (go_at_call 68; refine (cK_.callsK B g _ L _ H1.out HG1.out hl1).mono ?_)
 rintro e w2 ⟨rfl, h1, b1, k1⟩
 have H2 := aA_.mk h1
 have HG2 := aA_.mk (HG1.out.below b1 hpos)
 have B2 := aA_.mk (B1.out.trans b1)
 have K2 := aA_.mk (K1.out.trans k1 (.inl rfl))
 have X2 := aA_.mk (k1.blk X1.out hgb (by simp))
 clear h1 b1 k1 X1 H1 K1 B1
 go_wp2_with (go_at_call 46; refine (bC_.noK B g _ [61] L _ H2.out HE.out).mono ?_)
 rintro e w3 ⟨rfl, h1, b1, k1⟩
 have H3 := aA_.mk h1
 have HG3 := aA_.mk (HG2.out.below b1 hpos)
 have B3 := aA_.mk (B2.out.trans b1)
 have K3 := aA_.mk (K2.out.trans k1 (.inl rfl))
 have X3 := aA_.mk (k1.blk X2.out hgb (by simp))
 clear h1 b1 k1 X2 H2 K2 B2
 have x0 := (aC_ X3.out 0).trans rfl
 have x1 := (aC_ X3.out 1).trans rfl
 have z0 := aE_ X3.out 0
 have z1 := aE_ X3.out 1
 go_wp2
 have Y : ∀ a b, ((w3.setCell ⟨w.heap.size, 0, none⟩ (.string a)).setCell ⟨w.heap.size, 1, none⟩ (.string b)).heap[w.heap.size]? = some (.cells #[.string a, .string b] 53 (0, 0)) := fun a b => by
  have h1 := c5_ X3.out 0 (.string a)
  have h2 := c5_ h1 1 (.string b)
  simpa using h2
 refine bodyPost_ret (b8_ rfl _ _ w.heap.size 53 #[.string ⟨#[]⟩, .string ⟨#[]⟩] (0, 0) _ rfl (Y _ _) Tryz.underlying53 rfl (by kernel_rfl)) rfl ⟨⟨_, _, rfl⟩, ?_, ?_⟩
 ·exact (B3.out.setCell (p := ⟨w.heap.size, 0, none⟩) hsz _).setCell (p := ⟨w.heap.size, 1, none⟩) hsz _
 ·exact aQ_ (aQ_ K3.out (Nat.le_refl _) _) (Nat.le_refl _) _
theorem cO_.nov (B g : Nat) {ok : Nat → Prop} (l r1 : List UInt8) (L : List S45) (w : World) (h : bH_ w B g ok (Tk.bs l) L) (hG : Glob w) (hl : l.length ≤ 1000000) (hh : Tk.head l ≠ []) (he : Tk.behind [61] (Tk.skip (l.drop (Tk.head l).length)) = some r1) (hv : Tk.value (Tk.skip r1) = none) :
 Calls Tryz.prog 69 #[.pointer (some ⟨g, 0, none⟩)] w fun e w' => (∃ x y, e = .returned (.tuple #[.agg #[.string x, .string y], .bool false])) ∧ Below B w w' ∧ aJ_ w w' g none := by
 obtain ⟨e1, e2, e3, e4⟩ := bs_some hh
 have hpos := h.pos
 have hsz := h.size
 have hu := Tryz.underlying53
 have hl1 : (l.drop (Tk.head l).length).length ≤ 1000000 := by rw [List.length_drop]; omega
 have hl2 : r1.length ≤ 1000000 := Nat.le_trans (cM_ he) (Nat.le_trans (skip_len _) hl1)
 have hl3 : (Tk.skip r1).length ≤ 1000000 := Nat.le_trans (skip_len _) hl2
 have HG := aA_.mk hG
 have HE := aA_.mk he
 have HV := aA_.mk hv
 have H0 := aA_.mk h
 clear h hG hh he hv
 go_enter Tryz.func69, Tryz.ntmps69
 go_wp2_with (fail)
 have hb0 : Below w.heap.size w (w.alloc (.cells #[.string ⟨#[]⟩, .string ⟨#[]⟩] 53)) := aH_ (Below.refl _ _) _
 have X0 : (w.alloc (.cells #[.string ⟨#[]⟩, .string ⟨#[]⟩] 53)).heap[w.heap.size]? = some (.cells #[.string ⟨#[]⟩, .string ⟨#[]⟩] 53 (0, 0)) := heap_alloc_new w _
 have hgb : w.heap.size ≠ g := Nat.ne_of_gt H0.out.lt
 have H := aA_.mk ((H0.out.more (ok' := fun k => ok k ∧ k ≠ w.heap.size) (fun k hk ho => ⟨ho, Nat.ne_of_lt hk⟩)).below hb0)
 have HG0 := aA_.mk (HG.out.step hb0)
 have B0 := aA_.mk (hb0.mono hsz)
 have K0 := aA_.mk (aJ_.of_below hb0 g none)
 have X := aA_.mk X0
 clear H0 hb0 X0
 generalize w.alloc _ = w0 at *
 refine (cP_.callsK B g l L _ H.out HG0.out hl).mono ?_
 rintro e w1 ⟨rfl, h1, b1, k1⟩
 have H1 := aA_.mk h1
 have HG1 := aA_.mk (HG0.out.below b1 hpos)
 have B1 := aA_.mk (B0.out.trans b1)
 have K1 := aA_.mk (K0.out.trans k1 (.inl rfl))
 have X1 := aA_.mk (k1.blk X.out hgb (by simp))
 clear h1 b1 k1 X H K0 B0
 go_wp2_with (go_at_call 68; refine (cK_.callsK B g _ L _ H1.out HG1.out hl1).mono ?_)
 rintro e w2 ⟨rfl, h1, b1, k1⟩
 have H2 := aA_.mk h1
 have HG2 := aA_.mk (HG1.out.below b1 hpos)
 have B2 := aA_.mk (B1.out.trans b1)
 have K2 := aA_.mk (K1.out.trans k1 (.inl rfl))
 have X2 := aA_.mk (k1.blk X1.out hgb (by simp))
 clear h1 b1 k1 X1 H1 K1 B1
 go_wp2_with (go_at_call 46; refine (bC_.yesK B g _ [61] r1 L _ H2.out HE.out).mono ?_)
 rintro e w3 ⟨rfl, h1, b1, k1⟩
 have H3 := aA_.mk h1
 have HG3 := aA_.mk (HG2.out.below b1 hpos)
 have B3 := aA_.mk (B2.out.trans b1)
 have K3 := aA_.mk (K2.out.trans k1 (.inl rfl))
 have X3 := aA_.mk (k1.blk X2.out hgb (by simp))
 clear h1 b1 k1 X2 H2 K2 B2
 go_wp2_with (go_at_call 68; refine (cK_.callsK B g r1 L _ H3.out HG3.out hl2).mono ?_)
 rintro e w4 ⟨rfl, h1, b1, k1⟩
 have H4 := aA_.mk h1
 have HG4 := aA_.mk (HG3.out.below b1 hpos)
 have B4 := aA_.mk (B3.out.trans b1)
 have K4 := aA_.mk (K3.out.trans k1 (.inl rfl))
 have X4 := aA_.mk (k1.blk X3.out hgb (by simp))
 clear h1 b1 k1 X3 H3 K3 B3
 go_wp2_with (go_at_call 83; refine (bQ_.noK B g _ L _ H4.out HG4.out hl3 HV.out).mono ?_)
 rintro e w5 ⟨⟨xv, rfl⟩, b1, k1⟩
 have B5 := aA_.mk (B4.out.trans b1)
 have K5 := aA_.mk (K4.out.trans k1 (.inl rfl))
 have X5 := aA_.mk (k1.blk X4.out hgb (by simp))
 clear b1 k1 X4 H4 K4 B4
 have x0 := (aC_ X5.out 0).trans rfl
 have x1 := (aC_ X5.out 1).trans rfl
 have z0 := aE_ X5.out 0
 have z1 := aE_ X5.out 1
 go_wp2
 have Y : ∀ a b, ((w5.setCell ⟨w.heap.size, 0, none⟩ (.string a)).setCell ⟨w.heap.size, 1, none⟩ (.string b)).heap[w.heap.size]? = some (.cells #[.string a, .string b] 53 (0, 0)) := fun a b => by
  have h1 := c5_ X5.out 0 (.string a)
  have h2 := c5_ h1 1 (.string b)
  simpa using h2
 refine bodyPost_ret (b8_ rfl _ _ w.heap.size 53 #[.string (Tk.bs (Tk.head l)), .string xv] (0, 0) _ rfl (Y _ _) Tryz.underlying53 rfl (by kernel_rfl)) rfl ⟨⟨_, _, rfl⟩, ?_, ?_⟩
 ·exact (B5.out.setCell (p := ⟨w.heap.size, 0, none⟩) hsz _).setCell (p := ⟨w.heap.size, 1, none⟩) hsz _
 ·exact aQ_ (aQ_ K5.out (Nat.le_refl _) _) (Nat.le_refl _) _
theorem cO_.yesA (B g : Nat) {ok : Nat → Prop} (l r : List UInt8) (x : S53) (L : List S45) (w : World) (h : bH_ w B g ok (Tk.bs l) L) (hG : Glob w) (hl : l.length ≤ 1000000) (hx : Tk.attr l = some (x, r)) :
 Calls Tryz.prog 69 #[.pointer (some ⟨g, 0, none⟩)] w fun e w' => e = .returned (.tuple #[.agg #[.string x.f0, .string x.f1], .bool true]) ∧ bH_ w' B g ok (Tk.bs r) L ∧ Below B w w' ∧ aJ_ w w' g none := by
 unfold Tk.attr at hx
 by_cases hh : Tk.head l = []
 ·rw [if_pos hh] at hx; cases hx
 rw [if_neg hh] at hx
 obtain ⟨r1, he, hx⟩ := Option.bind_eq_some_iff.1 hx
 obtain ⟨⟨v, r2⟩, hv, hx⟩ := Option.map_eq_some_iff.1 hx
 obtain ⟨rfl, rfl⟩ := Prod.mk.inj hx
 exact cO_.yes B g l r2 r1 v L w h hG hl hh he hv
theorem cO_.noA (B g : Nat) {ok : Nat → Prop} (l : List UInt8) (L : List S45) (w : World) (h : bH_ w B g ok (Tk.bs l) L) (hG : Glob w) (hl : l.length ≤ 1000000) (hx : Tk.attr l = none) :
 Calls Tryz.prog 69 #[.pointer (some ⟨g, 0, none⟩)] w fun e w' => (∃ x y, e = .returned (.tuple #[.agg #[.string x, .string y], .bool false])) ∧ Below B w w' ∧ aJ_ w w' g none := by
 unfold Tk.attr at hx
 by_cases hh : Tk.head l = []
 ·exact cO_.noh B g l L w h hG hl hh
 rw [if_neg hh] at hx
 cases he : Tk.behind [61] (Tk.skip (l.drop (Tk.head l).length)) with
 | none => exact cO_.noe B g l L w h hG hl hh he
 | some r1 =>
  rw [he, Option.bind_some] at hx
  exact cO_.nov B g l r1 L w h hG hl hh he (Option.map_eq_none_iff.1 hx)
def attEq (v0 : ByteArray) (s : S53) : Bool := s.f0.toList == v0.toList
theorem api_Attr_70.calls1 (s : S53) (v0 : ByteArray) (g : Nat) (w : World) (hc : w.cell? ⟨g, 0, none⟩ = some (.string v0)) :
 Calls Tryz.prog 71 #[.agg #[.string s.f0, .string s.f1], .pointer (some ⟨g, 0, none⟩)] w fun e w' => e = .returned (.bool (s.f0.toList == v0.toList)) ∧ Below w.heap.size w w' := by
 have hu := Tryz.underlying53
 have hlt := World.block_lt_of_cell? _ _ hc
 have HC := aA_.mk hc
 clear hc
 go_enter Tryz.func71, Tryz.ntmps71
 have HB := aA_.mk (Below.refl w.heap.size w)
 go_upto_region 1 with (first | (refine be 2 #[.string s.f0, .string s.f1] 53 ?_; intro gb hg w3 hbox hb; have HX := aA_.mk hbox; replace HB := aA_.mk (bG_ HB.out hb); replace HC := aA_.mk ((hb.cell (World.block_lt_of_cell? _ _ HC.out)).trans HC.out); clear hb hbox hg))
 have hX0 : w3.cell? ⟨gb, 0, none⟩ = some (.string s.f0) := (aC_ HX.out 0).trans rfl
 have hX1 : w3.cell? ⟨gb, 1, none⟩ = some (.string s.f1) := (aC_ HX.out 1).trans rfl
 have hCv := HC.out
 go_wp2
 go_ret
 exact ⟨rfl, HB.out⟩
theorem any_take {α : Type} (p : α → Bool) (xs : List α) (i : Nat) (h : i < xs.length) : (xs.take (i + 1)).any p = ((xs.take i).any p || p xs[i]) := by
 rw [List.take_succ_eq_append_getElem h, List.any_append]
 simp
theorem any_hit {α : Type} {p : α → Bool} {xs : List α} {i : Nat} (h : i < xs.length) (hp : p xs[i] = true) : xs.any p = true := List.any_eq_true.2 ⟨_, List.getElem_mem h, hp⟩
theorem rdA_at (xs : List S53) (i : Nat) (h : i < xs.length) : cN_ xs (i : Int) = xs[i] := by
 simp [cN_, List.getD, h]
theorem api_Attr_70.calls2 (A0 : Option Addr) (c0 : Nat) (xs : List S53) (v0 : ByteArray) (g : Nat) (w : World) (hr0 : Kd.C k53 w A0 xs.length xs) (hlen : xs.length ≤ 1000000) (hc : w.cell? ⟨g, 0, none⟩ = some (.string v0)) :
 Calls Tryz.prog 84 #[.slice A0 xs.length c0, .func (.func 71) #[] #[.pointer (some ⟨g, 0, none⟩)]] w fun e w' => (∃ r : Int, e = .returned (.int .i64 r) ∧ decide (0 ≤ r) = xs.any (attEq v0)) ∧ Below w.heap.size w w' := by
 have hu := Tryz.underlying53
 have HR0 := aA_.mk hr0
 have HC := aA_.mk hc
 clear hr0 hc
 obtain ⟨p, hp⟩ : ∃ p : S53 → Bool, attEq v0 = p := ⟨_, rfl⟩
 have C1 : ∀ (s : S53) (W : World), W.cell? ⟨g, 0, none⟩ = some (.string v0) → Calls Tryz.prog 71 #[.agg #[.string s.f0, .string s.f1], .pointer (some ⟨g, 0, none⟩)] W fun e w' => e = .returned (.bool (p s)) ∧ Below W.heap.size W w' := by
  intro s W hW
  rw [← hp]
  exact api_Attr_70.calls1 s v0 g W hW
 rw [hp]
 clear hp
 go_enter Tryz.func84, Tryz.ntmps84
 go_wp2
 go_loopg [8] (xs.length + 1) (fun gk v8 w' => ∃ (i : Nat) (x : Int), i ≤ xs.length ∧ i + gk = xs.length + 1 ∧ v8 = .int .i64 x ∧ aA_ (x = (i : Int)) ∧ aA_ ((xs.take i).any p = false) ∧ aA_ (Below w.heap.size w w'))
 case atStart => exact ⟨0, 0, by omega, by omega, by first | rfl | (simp; done), ⟨rfl⟩, ⟨by rw [List.take_zero]; rfl⟩, ⟨Below.refl _ _⟩⟩
 obtain ⟨i, x, hi, hgk, rfl, HX, HA, HB⟩ := hrel
 have hxi := HX.out
 by_cases hlt : i < xs.length
 rotate_left
 ·obtain rfl : i = xs.length := by omega
  have d1 : decide (x < (xs.length : Int)) = false := decide_eq_false (by omega)
  have hall : xs.any p = false := by have := HA.out; rwa [List.take_length] at this
  have HALL := Lib.hid hall
  clear hall hxi C1
  go_wp2
  go_ret
  exact ⟨⟨_, rfl, by rw [HALL.out]; rfl⟩, HB.out⟩
 obtain ⟨g1, rfl⟩ : ∃ g1, gk = g1 + 1 := ⟨gk - 1, by omega⟩
 have d1 : decide (x < (xs.length : Int)) = true := decide_eq_true (by omega)
 obtain ⟨ad, e_, hx0, hx1⟩ := at_T53 HR0.out x (by omega) (by omega)
 cases e_
 have hel : cN_ xs x = xs[i] := by rw [hxi, rdA_at xs i hlt]
 replace hx0 := (HB.out.cell (World.block_lt_of_cell? w _ hx0)).trans hx0
 replace hx1 := (HB.out.cell (World.block_lt_of_cell? w _ hx1)).trans hx1
 have hcg : wr.cell? ⟨g, 0, none⟩ = some (.string v0) := (HB.out.cell (World.block_lt_of_cell? w _ HC.out)).trans HC.out
 have p_ := eq_true (show 0 ≤ x by omega)
 have q_ := eq_true (show x < (xs.length : Int) by omega)
 have hat := any_take p xs i hlt
 rw [HA.out, ← hel, Bool.false_or] at hat
 have C2 := C1 (cN_ xs x) wr hcg
 cases hps : p (cN_ xs x) with
 | true =>
  rw [hps] at C2
  have hall : xs.any p = true := any_hit hlt (by rw [← hel]; exact hps)
  have HALL := Lib.hid hall
  have HX0 : decide (0 ≤ x) = true := decide_eq_true (by omega)
  have HXX := Lib.hid HX0
  have C3 := aA_.mk C2
  clear hps hall hat hel hxi hcg C2 C1 HX0
  go_wp2_with (first | (go_at_call 71; (with_reducible refine (C3.out).mono ?_); rintro e w4 ⟨rfl, hb⟩; have B4 := aA_.mk hb; clear hb))
  go_ret
  exact ⟨⟨_, rfl, by rw [HALL.out, HXX.out]⟩, bG_ HB.out B4.out⟩
 | false =>
  rw [hps] at C2 hat
  have HAT := aA_.mk hat
  have C3 := aA_.mk C2
  have hw1 : wrap64 (x + 1) = ((i + 1 : Nat) : Int) := by unfold wrap64; omega
  have HW1 := aA_.mk hw1
  clear hps hat hel hxi hcg C2 hw1
  go_wp2_with (first | (go_at_call 71; (with_reducible refine (C3.out).mono ?_); rintro e w4 ⟨rfl, hb⟩; have B4 := aA_.mk hb; clear hb))
  go_roundg g1
  case measure => omega
  case rel => exact ⟨i + 1, _, by omega, by omega, by first | rfl | (simp; done), HW1, HAT, ⟨bG_ HB.out B4.out⟩⟩
theorem api_Attr_70.callsA (A0 : Option Addr) (c0 : Nat) (xs : List S53) (v0 : ByteArray) (g : Nat) (w : World) (hr0 : Kd.C k53 w A0 xs.length xs) (hlen : xs.length ≤ 1000000) (hc : w.cell? ⟨g, 0, none⟩ = some (.string v0)) :
 Calls Tryz.prog 70 #[.slice A0 xs.length c0, .func (.func 71) #[] #[.pointer (some ⟨g, 0, none⟩)]] w fun e w' => e = .returned (.bool (xs.any (attEq v0))) ∧ Below w.heap.size w w' := by
 have C1 := aA_.mk (api_Attr_70.calls2 A0 c0 xs v0 g w hr0 hlen hc)
 obtain ⟨b, hb⟩ : ∃ b, b = xs.any (attEq v0) := ⟨_, rfl⟩
 rw [← hb] at C1 ⊢
 clear hr0 hc hb
 go_enter Tryz.func70, Tryz.ntmps70
 go_wp2_with (first | (go_at_call 84; (with_reducible refine C1.out.mono ?_); rintro e w4 ⟨⟨r, rfl, hr⟩, hb⟩; have HB := aA_.mk hb; have HR := Lib.hid hr; clear hb hr))
 go_ret
 refine ⟨?_, HB.out⟩
 rw [← HR.out]
 first | rfl | (simp; done)
theorem value_len {l v r : List UInt8} (h : Tk.value l = some (v, r)) : r.length ≤ l.length := by
 unfold Tk.value at h
 dsimp only at h
 obtain ⟨r1, h1, h⟩ := Option.bind_eq_some_iff.1 h
 obtain ⟨⟨a, b⟩, h2, h⟩ := Option.bind_eq_some_iff.1 h
 dsimp only at h
 split at h
 ·cases h
 ·obtain ⟨c, _, h⟩ := Option.map_eq_some_iff.1 h
  obtain ⟨_, rfl⟩ := Prod.mk.inj h
  exact Nat.le_trans (dK_ h2).2 (cM_ h1)
theorem behind_sum {x l r : List UInt8} (h : Tk.behind x l = some r) : r.length + x.length = l.length := by
 unfold Tk.behind at h
 split at h
 ·rename_i hp
  injection h with h
  have := (List.isPrefixOf_iff_prefix.1 hp).length_le
  rw [← h, List.length_drop]; omega
 ·cases h
theorem attr_len {l r : List UInt8} {x : S53} (h : Tk.attr l = some (x, r)) : r.length < l.length := by
 unfold Tk.attr at h
 split at h
 ·cases h
 ·obtain ⟨r1, h1, h⟩ := Option.bind_eq_some_iff.1 h
  obtain ⟨⟨v, r2⟩, h2, h⟩ := Option.map_eq_some_iff.1 h
  obtain ⟨_, rfl⟩ := Prod.mk.inj h
  have e1 := behind_sum h1
  have e2 := value_len h2
  dsimp only at e2 ⊢
  have e3 := skip_len r1
  have e4 := skip_len (l.drop (Tk.head l).length)
  rw [List.length_drop] at e4
  simp only [List.length_cons, List.length_nil] at e1
  omega
theorem bH_.grown {w w1 : World} {B g : Nat} {ok : Nat → Prop} {s : ByteArray} {L : List S45} {row : Option Nat} (h : bH_ w B g ok s L) (hg : w.grownBy w1 row) (h1 : some g ≠ row) (h2 : ∀ k, ok k → some k ≠ row) : bH_ w1 B g ok s L := by
 obtain ⟨v, h3, h4, h5⟩ := h
 exact ⟨v, b6_ h3 hg h1, Kd.S_grown h4 hg (fun k hk => h2 k hk.1), h5⟩
theorem attInfo : (Tryz.prog.info? 53).map (fun i => (i.zero, i.size, i.bytes)) = some (some (.agg #[.string ⟨#[]⟩, .string ⟨#[]⟩]), 2, 32) := by kernel_rfl
theorem dL_.walk (B g : Nat) {ok : Nat → Prop} (l : List UInt8) (res : Option (S45 × List UInt8)) (L : List S45) (w : World) (h : bH_ w B g ok (Tk.bs l) L) (hG : Glob w) (hl : l.length ≤ 100000) (hL : L.length ≤ 100000) (hok : ∀ k, w.heap.size ≤ k → ok k) (hh : Tk.head l ≠ []) (hx : Tk.attrs (l.length + 1) (Tk.head l) [] (l.drop (Tk.head l).length) = res) :
 Calls Tryz.prog 51 #[.pointer (some ⟨g, 0, none⟩)] w fun e w' => (∀ t r, res = some (t, r) → e = .returned (.bool true) ∧ bH_ w' B g ok (Tk.bs r) (L ++ [t])) ∧ (res = none → e = .returned (.bool false)) ∧ Below B w w' := by
 obtain ⟨e1, e2, e3, e4⟩ := bs_some hh
 have hpos := h.pos
 have hsz := h.size
 have hglt := h.lt
 have hdl : (l.drop (Tk.head l).length).length ≤ l.length := by rw [List.length_drop]; omega
 have hu1 := Tryz.underlying53
 have hu2 := Tryz.underlying45
 have HG := aA_.mk hG
 have HX := aA_.mk hx
 have H0 := aA_.mk (h.more (ok' := fun k => ok k ∧ k < w.heap.size) (fun k hk ho => ⟨ho, hk⟩))
 clear h hG hh hx
 go_enter Tryz.func51, Tryz.ntmps51
 go_wp2
 refine dJ_ 0 (by rfl) ?_
 go_wp2_with (go_at_call 67; refine (cP_.callsK B g l L _ H0.out HG.out (by omega)).mono ?_)
 rintro e wa ⟨rfl, h1, b1, k1⟩
 have HG1 := aA_.mk (HG.out.below b1 hpos)
 have H1 := aA_.mk h1
 have B1 := aA_.mk b1
 have K1 := aA_.mk k1
 have hsa : w.heap.size ≤ wa.heap.size := b1.size
 clear h1 b1 k1
 go_wp2
 have hb0 : Below wa.heap.size wa (wa.alloc (.cells #[.int .i64 1, .string (Tk.bs (Tk.head l)), .string ⟨#[]⟩, .slice none 0 0, .bool false] 45)) := aH_ (Below.refl _ _) _
 have X0 : (wa.alloc (.cells #[.int .i64 1, .string (Tk.bs (Tk.head l)), .string ⟨#[]⟩, .slice none 0 0, .bool false] 45)).heap[wa.heap.size]? = some (.cells #[.int .i64 1, .string (Tk.bs (Tk.head l)), .string ⟨#[]⟩, .slice none 0 0, .bool false] 45 (0, 0)) := heap_alloc_new wa _
 obtain ⟨gt, hgt⟩ : ∃ gt, gt = wa.heap.size := ⟨_, rfl⟩
 have hgtw : w.heap.size ≤ gt := by omega
 have hgtg : gt ≠ g := by omega
 have hBgt : B ≤ gt := by omega
 have H2 := aA_.mk (H1.out.below hb0)
 have B2 := aA_.mk (B1.out.trans (hb0.mono (by omega)))
 have S2 := aA_.mk (Nat.le_trans hsa hb0.size)
 rw [← hgt] at X0
 rw [← hgt]
 have X2 := aA_.mk X0
 clear hb0 X0 H1 B1 K1 HG1 H0
 generalize wa.alloc _ = w0 at *
 clear hgt hsa
 refine wp_label ?_
 rename_i hlb
 refine hlb _ _ ?_
 refine wp_at_label ?_
 refine LoopAt.intro (fun aB_ kq_ a1 w1 => ∃ (u2 u4 u5 u6 u13 u14 u15 u16 u17 u18 u19 u20 u21 u22 u23 u24 u25 u26 u27 u28 u29 u30 u31 u32 u33 u34 u35 u36 u37 u38 u39 u40 u41 u42 u43 u44 u45 u46 u47 u48 u49 : Value), (∃ (m : List UInt8) (xs : List S53) (va : Value), m.length < kq_ ∧ aA_ (m.length ≤ l.length) ∧ aA_ (xs.length + m.length ≤ l.length) ∧ aA_ (Tk.attrs kq_ (Tk.head l) xs m = res) ∧ aA_ (bH_ w1 B g (fun k => ok k ∧ k < w.heap.size) (Tk.bs m) L) ∧ aA_ (w1.heap[gt]? = some (.cells #[.int .i64 1, .string (Tk.bs (Tk.head l)), .string ⟨#[]⟩, va, .bool false] 45 (0, 0))) ∧ aA_ (Kd.R k53 53 w1 B (fun k => w.heap.size ≤ k) va xs) ∧ aA_ (Below B w w1) ∧ aA_ (w.heap.size ≤ w1.heap.size)) ∧ a1 = (((((((((((((((((((((((((((((((((((((((((aB_.put (some 2) u2).put (some 4) u4).put (some 5) u5).put (some 6) u6).put (some 13) u13).put (some 14) u14).put (some 15) u15).put (some 16) u16).put (some 17) u17).put (some 18) u18).put (some 19) u19).put (some 20) u20).put (some 21) u21).put (some 22) u22).put (some 23) u23).put (some 24) u24).put (some 25) u25).put (some 26) u26).put (some 27) u27).put (some 28) u28).put (some 29) u29).put (some 30) u30).put (some 31) u31).put (some 32) u32).put (some 33) u33).put (some 34) u34).put (some 35) u35).put (some 36) u36).put (some 37) u37).put (some 38) u38).put (some 39) u39).put (some 40) u40).put (some 41) u41).put (some 42) u42).put (some 43) u43).put (some 44) u44).put (some 45) u45).put (some 46) u46).put (some 47) u47).put (some 48) u48).put (some 49) u49)) (l.length + 1) ?_ ?_
 ·(repeat apply Exists.intro)
  (try simp only [Act.put, List.setIfInBounds_toArray, List.set_cons_zero, List.set_cons_succ])
  refine ⟨?_, rfl⟩
  exact ⟨l.drop (Tk.head l).length, [], .slice none 0 0, Nat.lt_succ_of_le hdl, ⟨hdl⟩, ⟨by simp⟩, HX, H2, X2, ⟨Kd.R_nil _ _ _ _ _⟩, B2, S2⟩
 ·intro gk a1 wr hinv
  obtain ⟨u2, u4, u5, u6, u13, u14, u15, u16, u17, u18, u19, u20, u21, u22, u23, u24, u25, u26, u27, u28, u29, u30, u31, u32, u33, u34, u35, u36, u37, u38, u39, u40, u41, u42, u43, u44, u45, u46, u47, u48, u49, hrel, ha⟩ := hinv
  subst ha
  (try simp only [Act.put, List.setIfInBounds_toArray, List.set_cons_zero, List.set_cons_succ])
  intro Js0 Ks0 hJs0 hKs0
  clear H2 X2 B2 S2 HX
  obtain ⟨m, xs, va, hmk, HML, HXL, HX, H, X, R, HB, HS⟩ := hrel
  obtain ⟨g1, rfl⟩ : ∃ g1, gk = g1 + 1 := ⟨gk - 1, by omega⟩
  obtain ⟨A0, c0, rfl⟩ := Kd.R_slice R.out
  have hml := HML.out
  have hxl := HXL.out
  have hG1 : Glob wr := HG.out.below HB.out hpos
  have HG1 := aA_.mk hG1
  have hsl : (Tk.skip m).length ≤ m.length := skip_len m
  obtain ⟨bsp, hbsp⟩ : ∃ b, b = decide ((Tk.skip m).length < m.length) := ⟨_, rfl⟩
  clear hG1
  have CS := cK_.callsK B g m L wr H.out HG1.out (by omega)
  rw [← hbsp] at CS
  have HBSP := Lib.hid hbsp
  clear hbsp
  have CS1 := aA_.mk CS
  clear CS
  go_wp2_with (go_at_call 68; refine CS1.out.mono ?_)
  rintro e ws ⟨rfl, h1, b1, k1⟩
  have H3 := aA_.mk h1
  have HG3 := aA_.mk (HG1.out.below b1 hpos)
  have B3 := aA_.mk (HB.out.trans b1)
  have S3 := aA_.mk (Nat.le_trans HS.out k1.1)
  have X3 := aA_.mk (k1.blk X.out hgtg (by simp))
  have R3 := aA_.mk (Kd.R_step R.out (fun k hk hlt => k1.2 k hlt (by omega) (by simp)))
  clear h1 b1 k1 H HG1 HB HS X R CS1
  cases hgt1 : Tk.behind [62] (Tk.skip m) with
  | some r =>
   have hres : res = some (Tk.tk 1 (Tk.head l) [] xs false, r) := by
    rw [← HX.out, Tk.attrs]
    simp only [hgt1]
   have HRES := Lib.hid hres
   have HE := aA_.mk hgt1
   clear hres hgt1 HX
   go_wp2_with (go_at_call 46; refine (bC_.yesK B g _ [62] r L _ H3.out HE.out).mono ?_)
   rintro e we ⟨rfl, h1, b1, k1⟩
   have H4 := aA_.mk (h1.more (ok' := fun k => ok k ∧ ¬ w.heap.size ≤ k) (fun k _ hk => ⟨hk.1, Nat.not_le.2 hk.2⟩))
   have B4 := aA_.mk (B3.out.trans b1)
   have S4 := aA_.mk (Nat.le_trans S3.out k1.1)
   have X4 := k1.blk X3.out hgtg (by simp)
   have R4 := aA_.mk (Kd.R_step R3.out (fun k hk hlt => k1.2 k hlt (by omega) (by simp)))
   clear h1 b1 k1 H3 HG3 B3 S3 X3 R3
   have x0 := (aC_ X4 0).trans rfl
   have x1 := (aC_ X4 1).trans rfl
   have x2 := (aC_ X4 2).trans rfl
   have x3 := (aC_ X4 3).trans rfl
   have x4 := (aC_ X4 4).trans rfl
   clear X4
   go_wp2_with (go_at_call 66; refine (dB_.calls B g (fun k => w.heap.size ≤ k) (Tk.bs r) L (Tk.tk 1 (Tk.head l) [] xs false) (.slice A0 xs.length c0) _ H4.out R4.out hok (fun k hk => hok k (Nat.le_trans S4.out hk)) hL).mono ?_)
   rintro e wf ⟨rfl, h1, b1⟩
   have H5 := aA_.mk h1
   have B5 := aA_.mk (B4.out.trans b1)
   clear h1 b1
   go_wp2
   (try simp only [Exit.inBlock, Exit.then, dD_])
   go_ret
   refine ⟨fun t r' h => ?_, fun h => ?_, B5.out⟩
   ·rw [HRES.out] at h
    obtain ⟨rfl, rfl⟩ := Prod.mk.inj (Option.some.inj h)
    exact ⟨rfl, H5.out⟩
   ·rw [HRES.out] at h; cases h
  | none =>
   have HE := aA_.mk hgt1
   go_wp2_with (go_at_call 46; refine (bC_.noK B g _ [62] L _ H3.out HE.out).mono ?_)
   rintro e we ⟨rfl, h1, b1, k1⟩
   have H4 := aA_.mk h1
   have HG4 := aA_.mk (HG3.out.below b1 hpos)
   have B4 := aA_.mk (B3.out.trans b1)
   have S4 := aA_.mk (Nat.le_trans S3.out k1.1)
   have X4 := aA_.mk (k1.blk X3.out hgtg (by simp))
   have R4 := aA_.mk (Kd.R_step R3.out (fun k hk hlt => k1.2 k hlt (by omega) (by simp)))
   clear h1 b1 k1 H3 HG3 B3 S3 X3 R3 HE
   cases hgt2 : Tk.behind [47, 62] (Tk.skip m) with
   | some r =>
    have hres : res = some (Tk.tk 1 (Tk.head l) [] xs true, r) := by
     rw [← HX.out, Tk.attrs]
     simp only [hgt1, hgt2]
    have HRES := Lib.hid hres
    have HE := aA_.mk hgt2
    clear hres hgt1 hgt2 HX
    go_wp2_with (go_at_call 46; refine (bC_.yesK B g _ [47, 62] r L _ H4.out HE.out).mono ?_)
    rintro e wh ⟨rfl, h1, b1, k1⟩
    have H5 := aA_.mk h1
    have B5 := aA_.mk (B4.out.trans b1)
    have S5 := aA_.mk (Nat.le_trans S4.out k1.1)
    have X5 := aA_.mk (k1.blk X4.out hgtg (by simp))
    have R5 := aA_.mk (Kd.R_step R4.out (fun k hk hlt => k1.2 k hlt (by omega) (by simp)))
    clear h1 b1 k1 H4 HG4 B4 S4 X4 R4
    have y4 := (aC_ X5.out 4).trans rfl
    have z4 := aE_ X5.out 4
    have X6' := c5_ X5.out 4 (.bool true)
    have X6 : (wh.setCell ⟨gt, 4, none⟩ (.bool true)).heap[gt]? = some (.cells #[.int .i64 1, .string (Tk.bs (Tk.head l)), .string ⟨#[]⟩, .slice A0 xs.length c0, .bool true] 45 (0, 0)) := by simpa using X6'
    have x0 := (aC_ X6 0).trans rfl
    have x1 := (aC_ X6 1).trans rfl
    have x2 := (aC_ X6 2).trans rfl
    have x3 := (aC_ X6 3).trans rfl
    have x4 := (aC_ X6 4).trans rfl
    have H6 := aA_.mk ((H5.out.far (p := ⟨gt, 4, none⟩) hgtg (fun k hk => by have := hk.2; show k ≠ gt; omega) (.bool true)).more (ok' := fun k => ok k ∧ ¬ w.heap.size ≤ k) (fun k _ hk => ⟨hk.1, Nat.not_le.2 hk.2⟩))
    have R6 := aA_.mk (Kd.R_set R5.out X5.out (by decide) 4 (.bool true))
    have B6 := aA_.mk (B5.out.setCell (p := ⟨gt, 4, none⟩) hBgt (.bool true))
    have S6 : w.heap.size ≤ (wh.setCell ⟨gt, 4, none⟩ (.bool true)).heap.size := by simpa using S5.out
    have S7 := aA_.mk S6
    clear X6 X6' S6
    go_wp2_with (go_at_call 66; refine (dB_.calls B g (fun k => w.heap.size ≤ k) (Tk.bs r) L (Tk.tk 1 (Tk.head l) [] xs true) (.slice A0 xs.length c0) _ H6.out R6.out hok (fun k hk => hok k (Nat.le_trans S7.out hk)) hL).mono ?_)
    rintro e wf ⟨rfl, h1, b1⟩
    have H7 := aA_.mk h1
    have B7 := aA_.mk (B6.out.trans b1)
    clear h1 b1
    go_wp2
    (try simp only [Exit.inBlock, Exit.then, dD_])
    go_ret
    refine ⟨fun t r' h => ?_, fun h => ?_, B7.out⟩
    ·rw [HRES.out] at h
     obtain ⟨rfl, rfl⟩ := Prod.mk.inj (Option.some.inj h)
     exact ⟨rfl, H7.out⟩
    ·rw [HRES.out] at h; cases h
   | none =>
    have HE := aA_.mk hgt2
    cases bsp with
    | false =>
     have heq : (Tk.skip m).length = m.length := by
      have := of_decide_eq_false HBSP.out.symm
      omega
     have hres : res = none := by
      rw [← HX.out, Tk.attrs]
      simp only [hgt1, hgt2]
      rw [if_pos heq]
     have HRES := Lib.hid hres
     clear hres hgt1 hgt2 HX HBSP heq
     go_wp2_with (go_at_call 46; refine (bC_.noK B g _ [47, 62] L _ H4.out HE.out).mono ?_)
     rintro e wh ⟨rfl, h1, b1, k1⟩
     have B5 := aA_.mk (B4.out.trans b1)
     clear h1 b1 k1
     go_wp2_with (fail)
     (try simp only [Exit.inBlock, Exit.then, dD_])
     go_ret
     refine ⟨fun t r' h => ?_, fun h => rfl, B5.out⟩
     rw [HRES.out] at h; cases h
    | true =>
     have hne : ¬ (Tk.skip m).length = m.length := by
      have := of_decide_eq_true HBSP.out.symm
      omega
     have hst : res = (Tk.attr (Tk.skip m)).bind fun p => if xs.any (fun x => x.f0.toList == p.1.f0.toList) then none else Tk.attrs g1 (Tk.head l) (xs ++ [p.1]) p.2 := by
      rw [← HX.out, Tk.attrs]
      simp only [hgt1, hgt2]
      rw [if_neg hne]
     have HST := Lib.hid hst
     clear hst hgt1 hgt2 HX HBSP
     go_wp2_with (go_at_call 46; refine (bC_.noK B g _ [47, 62] L _ H4.out HE.out).mono ?_)
     rintro e wh ⟨rfl, h1, b1, k1⟩
     have H5 := aA_.mk h1
     have HG5 := aA_.mk (HG4.out.below b1 hpos)
     have B5 := aA_.mk (B4.out.trans b1)
     have S5 := aA_.mk (Nat.le_trans S4.out k1.1)
     have X5 := aA_.mk (k1.blk X4.out hgtg (by simp))
     have R5 := aA_.mk (Kd.R_step R4.out (fun k hk hlt => k1.2 k hlt (by omega) (by simp)))
     clear h1 b1 k1 H4 HG4 B4 S4 X4 R4 HE
     cases hat : Tk.attr (Tk.skip m) with
     | none =>
      have hres : res = none := by rw [HST.out, hat]; rfl
      have HRES := Lib.hid hres
      have HAT := aA_.mk hat
      clear hres hat HST
      go_wp2_with (go_at_call 69; refine (cO_.noA B g (Tk.skip m) L _ H5.out HG5.out (by omega) HAT.out).mono ?_)
      rintro e wi ⟨⟨xx, yy, rfl⟩, b1, k1⟩
      have B6 := aA_.mk (B5.out.trans b1)
      have hsz6 : B ≤ wi.heap.size := Nat.le_trans hsz B6.out.size |> fun h => h
      clear b1 k1
      go_wp2
      (try simp only [Exit.inBlock, Exit.then, dD_])
      go_ret
      refine ⟨fun t r' h => ?_, fun h => rfl, ?_⟩
      ·rw [HRES.out] at h; cases h
      ·exact B6.out.alloc hsz6 _
     | some p =>
      obtain ⟨x, r⟩ := p
      have hrl := attr_len hat
      have HAT := aA_.mk hat
      have hst2 := HST.out
      rw [hat, Option.bind_some] at hst2
      have hst3 : res = if xs.any (attEq x.f0) = true then none else Tk.attrs g1 (Tk.head l) (xs ++ [x]) r := hst2
      have HST3 := Lib.hid hst3
      clear hst2 hst3 hat HST
      have hrd : r.length < m.length := by omega
      go_wp2_with (go_at_call 69; refine (cO_.yesA B g (Tk.skip m) r x L _ H5.out HG5.out (by omega) HAT.out).mono ?_)
      rintro e wi ⟨rfl, h1, b1, k1⟩
      have H6 := aA_.mk h1
      have B6 := aA_.mk (B5.out.trans b1)
      have S6 := aA_.mk (Nat.le_trans S5.out k1.1)
      have X6 := aA_.mk (k1.blk X5.out hgtg (by simp))
      have R6 := aA_.mk (Kd.R_step R5.out (fun k hk hlt => k1.2 k hlt (by omega) (by simp)))
      clear h1 b1 k1 H5 HG5 B5 S5 X5 R5 HAT
      have x3' := fun o => (aC_ (aV_ X6.out o) 3).trans rfl
      go_wp2_with (fail)
      have hb0 : Below wi.heap.size wi (wi.alloc (.cells #[.string x.f0, .string x.f1] 53)) := aH_ (Below.refl _ _) _
      have Y0 : (wi.alloc (.cells #[.string x.f0, .string x.f1] 53)).heap[wi.heap.size]? = some (.cells #[.string x.f0, .string x.f1] 53 (0, 0)) := heap_alloc_new wi _
      obtain ⟨ga, hga⟩ : ∃ ga, ga = wi.heap.size := ⟨_, rfl⟩
      have H7 := aA_.mk (H6.out.below hb0)
      have S6' := S6.out
      have B7 := aA_.mk (B6.out.trans (hb0.mono (by omega)))
      have S7 := aA_.mk (Nat.le_trans S6.out hb0.size)
      have X7 := aA_.mk (b4_ X6.out hb0)
      have R7 := aA_.mk (Kd.R_below R6.out hb0)
      have Y7 := aA_.mk Y0
      rw [← hga] at Y7
      rw [← hga]
      clear hb0 Y0 H6 B6 S6 X6 R6 x3' S6'
      generalize wi.alloc _ = wj at *
      clear hga
      have hC := (Kd.R_reads' R7.out).2.2
      have cA := (aC_ Y7.out 0).trans rfl
      refine (api_Attr_70.callsA A0 c0 xs x.f0 ga wj hC (by omega) cA).mono ?_
      rintro e wk ⟨rfl, b1⟩
      have H8 := aA_.mk (H7.out.below b1)
      have S7' := S7.out
      have B8 := aA_.mk (B7.out.trans (b1.mono (by omega)))
      have S8 := aA_.mk (Nat.le_trans S7.out b1.size)
      have X8 := aA_.mk (b4_ X7.out b1)
      have R8 := aA_.mk (Kd.R_below R7.out b1)
      have Y8 := aA_.mk (b4_ Y7.out b1)
      clear b1 hC cA H7 B7 S7 X7 R7 Y7 S7'
      cases han : xs.any (attEq x.f0) with
      | true =>
       have hres : res = none := by rw [HST3.out, if_pos han]
       have HRES := Lib.hid hres
       clear hres han HST3
       go_wp2
       (try simp only [Exit.inBlock, Exit.then, dD_])
       go_ret
       refine ⟨fun t r' h => ?_, fun h => rfl, B8.out⟩
       rw [HRES.out] at h; cases h
      | false =>
       have hnx : Tk.attrs g1 (Tk.head l) (xs ++ [x]) r = res := by rw [HST3.out, if_neg (by rw [han]; decide)]
       have HNX := aA_.mk hnx
       clear hnx han HST3
       have y0 := (aC_ Y8.out 0).trans rfl
       have y1 := (aC_ Y8.out 1).trans rfl
       have x3 := (aC_ X8.out 3).trans rfl
       have S8' := S8.out
       go_wp2_with (at_builtin; refine Kd.R_append k53 (w0 := w) B rfl (.tmp 45) (.tmp 47) 30 53 _ 32 rfl Tryz.underlying30 attInfo rfl (by decide) (by decide) (.slice A0 xs.length c0) xs x [.string x.f0, .string x.f1] (fun k => w.heap.size ≤ k) (fun _ => False) rfl rfl (k53_mkM _ _ _ x) (fun k hk => hk.elim) (fun k hk => Nat.le_trans S8.out hk) R8.out B8.out (by omega) (by omega) ?_; intro v1 w1 r1 b1 g1_ at1; obtain ⟨A1, c1, rfl⟩ := Kd.R_slice r1; have hngt : some gt ≠ (Value.slice A0 xs.length c0).ownBlock := Kd.R_ne R8.out X8.out (by decide); have X9 := aA_.mk (b6_ X8.out g1_ hngt); have H9 := aA_.mk (H8.out.grown g1_ (fun he => by have := R8.out.1 g he.symm; omega) (fun k hk he => by have := R8.out.1 k he.symm; have := hk.2; omega)); have R9 := aA_.mk r1; have B9 := aA_.mk b1; have S9 := aA_.mk (Nat.le_trans S8.out g1_.size); clear r1 b1 g1_ at1 hngt X8 H8 R8 B8 S8 S8' Y8 y0 y1 x3; have x3 := (aC_ X9.out 3).trans rfl; have z3 := aE_ X9.out 3)
       refine wp_goto (And.intro rfl ?_)
       refine hKs0 _ _ ?_
       go_roundg g1
       case measure => omega
       case rel =>
        have el : (xs ++ [x]).length = xs.length + 1 := by simp
        have XA := c5_ X9.out 3 (.slice A1 (xs ++ [x]).length c1)
        have RA := Kd.R_set R9.out X9.out (by decide) 3 (.slice A1 (xs ++ [x]).length c1)
        have HA := H9.out.far (p := ⟨gt, 3, none⟩) hgtg (fun k hk => by have := hk.2; show k ≠ gt; omega) (.slice A1 (xs ++ [x]).length c1)
        have BA := B9.out.setCell (p := ⟨gt, 3, none⟩) hBgt (.slice A1 (xs ++ [x]).length c1)
        have SA : w.heap.size ≤ (w1.setCell ⟨gt, 3, none⟩ (.slice A1 (xs ++ [x]).length c1)).heap.size := by simpa using S9.out
        rw [el] at XA RA HA BA SA
        exact ⟨r, xs ++ [x], .slice A1 (xs.length + 1) c1, by omega, ⟨by omega⟩, ⟨by rw [el]; omega⟩, HNX, ⟨HA⟩, ⟨by simpa using XA⟩, ⟨RA⟩, ⟨BA⟩, ⟨SA⟩⟩
theorem dL_.noh (B g : Nat) {ok : Nat → Prop} (l : List UInt8) (L : List S45) (w : World) (h : bH_ w B g ok (Tk.bs l) L) (hG : Glob w) (hl : l.length ≤ 100000) (hh : Tk.head l = []) :
 Calls Tryz.prog 51 #[.pointer (some ⟨g, 0, none⟩)] w fun e w' => e = .returned (.bool false) ∧ Below B w w' := by
 have e1 := bs_none hh
 have hpos := h.pos
 have hsz := h.size
 have HG := aA_.mk hG
 have H0 := aA_.mk h
 have hu2 := Tryz.underlying45
 clear h hG hh
 go_enter Tryz.func51, Tryz.ntmps51
 go_wp2
 refine dJ_ 0 (by rfl) ?_
 go_wp2_with (go_at_call 67; refine (cP_.callsK B g l L _ H0.out HG.out (by omega)).mono ?_)
 rintro e wa ⟨rfl, h1, b1, k1⟩
 have B1 := aA_.mk b1
 have S1 : B ≤ wa.heap.size := Nat.le_trans hsz b1.size |> fun h => h
 clear h1 b1 k1
 go_wp2_with (fail)
 (try simp only [Exit.inBlock, Exit.then, dD_])
 go_ret
 exact ⟨rfl, B1.out.alloc S1 _⟩
theorem dL_.all (B g : Nat) {ok : Nat → Prop} (l : List UInt8) (res : Option (S45 × List UInt8)) (L : List S45) (w : World) (h : bH_ w B g ok (Tk.bs l) L) (hG : Glob w) (hl : l.length ≤ 100000) (hL : L.length ≤ 100000) (hok : ∀ k, w.heap.size ≤ k → ok k) (hx : Tk.opening l = res) :
 Calls Tryz.prog 51 #[.pointer (some ⟨g, 0, none⟩)] w fun e w' => (∀ t r, res = some (t, r) → e = .returned (.bool true) ∧ bH_ w' B g ok (Tk.bs r) (L ++ [t])) ∧ (res = none → e = .returned (.bool false)) ∧ Below B w w' := by
 unfold Tk.opening at hx
 by_cases hh : Tk.head l = []
 ·rw [if_pos hh] at hx
  subst hx
  refine (dL_.noh B g l L w h hG hl hh).mono ?_
  rintro e w' ⟨rfl, b⟩
  exact ⟨(fun t r h => by cases h), fun _ => rfl, b⟩
 ·rw [if_neg hh] at hx
  exact dL_.walk B g l res L w h hG hl hL hok hh hx
theorem tw_index : ∀ l : List UInt8, Lib.indexByte l 60 = if (l.takeWhile (· != 60)).length < l.length then ((l.takeWhile (· != 60)).length : Int) else -1
 | [] => rfl
 | c :: r => by
  have ih := tw_index r
  have hle := tw_le (p := fun x => x != 60) r
  by_cases hc : c = 60
  ·subst hc
   rw [Lib.indexByte, List.takeWhile_cons]
   simp
  have h1 : (c == 60) = false := by simpa using hc
  have h2 : (c != 60) = true := by simpa using hc
  rw [Lib.indexByte, h1, List.takeWhile_cons, h2]
  simp only [Bool.false_eq_true, if_false, if_true, List.length_cons]
  by_cases hl : (r.takeWhile (· != 60)).length < r.length
  ·rw [if_pos hl] at ih
   rw [ih, if_pos (show (r.takeWhile (· != 60)).length + 1 < r.length + 1 by omega), if_neg (by simp)]
   omega
  ·rw [if_neg hl] at ih
   rw [ih, if_neg (show ¬ (r.takeWhile (· != 60)).length + 1 < r.length + 1 by omega)]
   rfl
theorem tw_take {p : UInt8 → Bool} (l : List UInt8) : l.take (l.takeWhile p).length = l.takeWhile p := by
 conv => lhs; arg 2; rw [← List.takeWhile_append_dropWhile (p := p) (l := l)]
 exact List.take_left
theorem cW_.y1 (B g : Nat) {ok : Nat → Prop} (l x : List UInt8) (L : List S45) (w : World) (h : bH_ w B g ok (Tk.bs l) L) (hG : Glob w) (hl : l.length ≤ 100000) (hL : L.length ≤ 100000) (hok : ∀ k, w.heap.size ≤ k → ok k) (hf :  (l.takeWhile (· != 60)).length < l.length) (hv : Tk.entities (l.takeWhile (· != 60)) = some x) :
 Calls Tryz.prog 52 #[.pointer (some ⟨g, 0, none⟩)] w fun e w' => e = .returned (.bool true) ∧ bH_ w' B g ok (Tk.bs (l.drop (l.takeWhile (· != 60)).length)) (L ++ [Tk.tk 3 [] x [] false]) ∧ Below B w w' := by
 have hpos := h.pos
 have hsz := h.size
 have hgeB := h.ge
 have hle := tw_le (p := fun x => x != 60) l
 have htk := tw_take (p := fun x => x != 60) l
 have hix := tw_index l
 rw [if_pos hf] at hix
 obtain ⟨t, ht⟩ : ∃ t, l.takeWhile (· != 60) = t := ⟨_, rfl⟩
 rw [ht] at hle htk hix hv hf ⊢
 have hl0 := bV_ l
 have hdr := bs_drop l t.length
 have hta := bs_take l t.length
 rw [htk] at hta
 obtain ⟨s, hs⟩ : ∃ s, s = Tk.bs l := ⟨_, rfl⟩
 rw [← hs] at hdr hta h hl0
 have CI : ∀ W, Calls Tryz.prog 72 #[.string s, .int .u8 60] W fun e w' => e = .returned (.int .i64 (t.length : Int)) ∧ W = w' := by
  intro W
  refine (Tryz.strings_IndexByte s 60 W).mono ?_
  rintro e w' ⟨rfl, rfl⟩
  refine ⟨?_, rfl⟩
  rw [show Lib.indexByte s.data.toList ((60 : Int).toNat.toUInt8) = (t.length : Int) from by rw [hs]; exact hix]
 obtain ⟨z, hz⟩ : ∃ z : Int, z = (t.length : Int) := ⟨_, rfl⟩
 rw [← hz] at CI
 have z0 : decide (z < 0) = false := decide_eq_false (by omega)
 have z1 := eq_true (show 0 ≤ z by omega)
 have z2 := eq_true (show z ≤ (s.size : Int) by omega)
 have hzt : z.toNat = t.length := by omega
 have CE : ∀ W, Glob W → Calls Tryz.prog 73 #[.string (s.extract 0 z.toNat)] W fun e w' => e = .returned (.tuple #[.string (Tk.bs x), .int .i64 0]) ∧ Below W.heap.size W w' := by
  intro W hW
  rw [hzt, hta]
  exact ent_f (x := (x, 0)) (entsV_some hv) (by omega) W hW
 have hex : s.extract z.toNat s.size = Tk.bs (l.drop t.length) := by rw [hzt, hdr]
 have HEX := Lib.hid hex
 have HG := aA_.mk hG
 have c0 := h.cell0
 have H0 := aA_.mk h
 clear h hG hv hf ht htk hix hta hdr hs hex hle hl0 hzt hz
 go_enter Tryz.func52, Tryz.ntmps52
 go_wp2_with (go_at_call 72; (with_reducible refine (CI _).mono ?_))
 rintro e w1 ⟨rfl, rfl⟩
 go_wp2_with (go_at_call 73; (with_reducible refine (CE _ HG.out).mono ?_))
 rintro e w2 ⟨rfl, b1⟩
 have H1 := aA_.mk (H0.out.below b1)
 have B1 := aA_.mk (b1.mono hsz)
 have S1 := aA_.mk b1.size
 clear b1 H0
 have c1 := H1.out.cell0
 have f1 := H1.out.frozen 0
 have H2 := aA_.mk (H1.out.left (s.extract z.toNat s.size))
 have B2 := aA_.mk (B1.out.setCell (p := ⟨g, 0, none⟩) hgeB (.string (s.extract z.toNat s.size)))
 have S2 : w.heap.size ≤ (w2.setCell ⟨g, 0, none⟩ (.string (s.extract z.toNat s.size))).heap.size := by simpa using S1.out
 have S3 := aA_.mk S2
 clear S2
 go_wp2_with (go_at_call 66; refine (dB_.calls B g (fun _ => False) _ L (Tk.tk 3 [] x [] false) (.slice none 0 0) _ (H2.out.more (fun k _ hk => ⟨hk, fun h => h⟩)) (Kd.R_nil _ _ _ _ _) (fun _ h => h.elim) (fun k hk => hok k (Nat.le_trans S3.out hk)) hL).mono ?_)
 rintro e w4 ⟨rfl, h4, b4⟩
 have H4 := aA_.mk h4
 have B4 := aA_.mk (B2.out.trans b4)
 clear h4 b4
 go_wp2
 go_ret
 refine ⟨rfl, ?_, B4.out⟩
 rw [← HEX.out]
 exact H4.out
theorem cW_.n1 (B g : Nat) {ok : Nat → Prop} (l : List UInt8) (L : List S45) (w : World) (h : bH_ w B g ok (Tk.bs l) L) (hG : Glob w) (hl : l.length ≤ 100000) (hf :  (l.takeWhile (· != 60)).length < l.length) (hv : Tk.entities (l.takeWhile (· != 60)) = none) :
 Calls Tryz.prog 52 #[.pointer (some ⟨g, 0, none⟩)] w fun e w' => e = .returned (.bool false) ∧ Below B w w' := by
 have hpos := h.pos
 have hsz := h.size
 have hgeB := h.ge
 have hle := tw_le (p := fun x => x != 60) l
 have htk := tw_take (p := fun x => x != 60) l
 have hix := tw_index l
 rw [if_pos hf] at hix
 obtain ⟨t, ht⟩ : ∃ t, l.takeWhile (· != 60) = t := ⟨_, rfl⟩
 rw [ht] at hle htk hix hv hf
 have hl0 := bV_ l
 have hdr := bs_drop l t.length
 have hta := bs_take l t.length
 rw [htk] at hta
 obtain ⟨s, hs⟩ : ∃ s, s = Tk.bs l := ⟨_, rfl⟩
 rw [← hs] at hdr hta h hl0
 have CI : ∀ W, Calls Tryz.prog 72 #[.string s, .int .u8 60] W fun e w' => e = .returned (.int .i64 (t.length : Int)) ∧ W = w' := by
  intro W
  refine (Tryz.strings_IndexByte s 60 W).mono ?_
  rintro e w' ⟨rfl, rfl⟩
  refine ⟨?_, rfl⟩
  rw [show Lib.indexByte s.data.toList ((60 : Int).toNat.toUInt8) = (t.length : Int) from by rw [hs]; exact hix]
 obtain ⟨z, hz⟩ : ∃ z : Int, z = (t.length : Int) := ⟨_, rfl⟩
 rw [← hz] at CI
 have z0 : decide (z < 0) = false := decide_eq_false (by omega)
 have z1 := eq_true (show 0 ≤ z by omega)
 have z2 := eq_true (show z ≤ (s.size : Int) by omega)
 have hzt : z.toNat = t.length := by omega
 have CE : ∀ W, Glob W → Calls Tryz.prog 73 #[.string (s.extract 0 z.toNat)] W fun e w' => e = .returned (.tuple #[.string (Tk.bs []), .int .i64 5]) ∧ Below W.heap.size W w' := by
  intro W hW
  rw [hzt, hta]
  exact ent_f (x := ([], 5)) (entsV_none hv) (by omega) W hW
 have hex : s.extract z.toNat s.size = Tk.bs (l.drop t.length) := by rw [hzt, hdr]
 have HEX := Lib.hid hex
 have HG := aA_.mk hG
 have c0 := h.cell0
 have H0 := aA_.mk h
 clear h hG hv hf ht htk hix hta hdr hs hex hle hl0 hzt hz
 go_enter Tryz.func52, Tryz.ntmps52
 go_wp2_with (go_at_call 72; (with_reducible refine (CI _).mono ?_))
 rintro e w1 ⟨rfl, rfl⟩
 go_wp2_with (go_at_call 73; (with_reducible refine (CE _ HG.out).mono ?_))
 rintro e w2 ⟨rfl, b1⟩
 have H1 := aA_.mk (H0.out.below b1)
 have B1 := aA_.mk (b1.mono hsz)
 have S1 := aA_.mk b1.size
 clear b1 H0
 have c1 := H1.out.cell0
 have f1 := H1.out.frozen 0
 have B2 := aA_.mk (B1.out.setCell (p := ⟨g, 0, none⟩) hgeB (.string (s.extract z.toNat s.size)))
 go_wp2
 go_ret
 exact ⟨rfl, B2.out⟩
theorem cW_.y0 (B g : Nat) {ok : Nat → Prop} (l x : List UInt8) (L : List S45) (w : World) (h : bH_ w B g ok (Tk.bs l) L) (hG : Glob w) (hl : l.length ≤ 100000) (hL : L.length ≤ 100000) (hok : ∀ k, w.heap.size ≤ k → ok k) (hf : ¬ (l.takeWhile (· != 60)).length < l.length) (hv : Tk.entities (l.takeWhile (· != 60)) = some x) :
 Calls Tryz.prog 52 #[.pointer (some ⟨g, 0, none⟩)] w fun e w' => e = .returned (.bool true) ∧ bH_ w' B g ok (Tk.bs (l.drop (l.takeWhile (· != 60)).length)) (L ++ [Tk.tk 3 [] x [] false]) ∧ Below B w w' := by
 have hpos := h.pos
 have hsz := h.size
 have hgeB := h.ge
 have hle := tw_le (p := fun x => x != 60) l
 have htk := tw_take (p := fun x => x != 60) l
 have hix := tw_index l
 rw [if_neg hf] at hix
 obtain ⟨t, ht⟩ : ∃ t, l.takeWhile (· != 60) = t := ⟨_, rfl⟩
 rw [ht] at hle htk hv hf ⊢
 have hl0 := bV_ l
 have hdr := bs_drop l t.length
 have hta := bs_take l t.length
 rw [htk] at hta
 obtain ⟨s, hs⟩ : ∃ s, s = Tk.bs l := ⟨_, rfl⟩
 rw [← hs] at hdr hta h hl0
 have CI : ∀ W, Calls Tryz.prog 72 #[.string s, .int .u8 60] W fun e w' => e = .returned (.int .i64 (-1)) ∧ W = w' := by
  intro W
  refine (Tryz.strings_IndexByte s 60 W).mono ?_
  rintro e w' ⟨rfl, rfl⟩
  refine ⟨?_, rfl⟩
  rw [show Lib.indexByte s.data.toList ((60 : Int).toNat.toUInt8) = (-1) from by rw [hs]; exact hix]
 have hts : t.length = l.length := by omega
 have hss : t.length = s.size := by omega
 obtain ⟨z, hz⟩ : ∃ z : Int, z = (s.size : Int) := ⟨_, rfl⟩
 have z0 : decide (z < 0) = false := decide_eq_false (by omega)
 have z1 := eq_true (show 0 ≤ z by omega)
 have z2 := eq_true (show z ≤ (s.size : Int) by omega)
 have hzt : z.toNat = t.length := by omega
 have CE : ∀ W, Glob W → Calls Tryz.prog 73 #[.string (s.extract 0 z.toNat)] W fun e w' => e = .returned (.tuple #[.string (Tk.bs x), .int .i64 0]) ∧ Below W.heap.size W w' := by
  intro W hW
  rw [hzt, hta]
  exact ent_f (x := (x, 0)) (entsV_some hv) (by omega) W hW
 have hex : s.extract z.toNat s.size = Tk.bs (l.drop t.length) := by rw [hzt, hdr]
 have HEX := Lib.hid hex
 have HG := aA_.mk hG
 have c0 := h.cell0
 have H0 := aA_.mk h
 have hzs : (s.size : Int) = z := hz.symm
 have HZ := Lib.hid hzs
 clear h hG hv hf ht htk hix hta hdr hs hex hle hl0 hzt hz hzs hts hss
 go_enter Tryz.func52, Tryz.ntmps52
 go_wp2_with (go_at_call 72; (with_reducible refine (CI _).mono ?_))
 rintro e w1 ⟨rfl, rfl⟩
 have hmz := HZ.out
 go_wp2_with (go_at_call 73; (with_reducible refine (CE _ HG.out).mono ?_))
 rintro e w2 ⟨rfl, b1⟩
 have H1 := aA_.mk (H0.out.below b1)
 have B1 := aA_.mk (b1.mono hsz)
 have S1 := aA_.mk b1.size
 clear b1 H0
 have c1 := H1.out.cell0
 have f1 := H1.out.frozen 0
 have H2 := aA_.mk (H1.out.left (s.extract z.toNat s.size))
 have B2 := aA_.mk (B1.out.setCell (p := ⟨g, 0, none⟩) hgeB (.string (s.extract z.toNat s.size)))
 have S2 : w.heap.size ≤ (w2.setCell ⟨g, 0, none⟩ (.string (s.extract z.toNat s.size))).heap.size := by simpa using S1.out
 have S3 := aA_.mk S2
 clear S2
 go_wp2_with (go_at_call 66; refine (dB_.calls B g (fun _ => False) _ L (Tk.tk 3 [] x [] false) (.slice none 0 0) _ (H2.out.more (fun k _ hk => ⟨hk, fun h => h⟩)) (Kd.R_nil _ _ _ _ _) (fun _ h => h.elim) (fun k hk => hok k (Nat.le_trans S3.out hk)) hL).mono ?_)
 rintro e w4 ⟨rfl, h4, b4⟩
 have H4 := aA_.mk h4
 have B4 := aA_.mk (B2.out.trans b4)
 clear h4 b4
 go_wp2
 go_ret
 refine ⟨rfl, ?_, B4.out⟩
 rw [← HEX.out]
 exact H4.out
theorem cW_.n0 (B g : Nat) {ok : Nat → Prop} (l : List UInt8) (L : List S45) (w : World) (h : bH_ w B g ok (Tk.bs l) L) (hG : Glob w) (hl : l.length ≤ 100000) (hf : ¬ (l.takeWhile (· != 60)).length < l.length) (hv : Tk.entities (l.takeWhile (· != 60)) = none) :
 Calls Tryz.prog 52 #[.pointer (some ⟨g, 0, none⟩)] w fun e w' => e = .returned (.bool false) ∧ Below B w w' := by
 have hpos := h.pos
 have hsz := h.size
 have hgeB := h.ge
 have hle := tw_le (p := fun x => x != 60) l
 have htk := tw_take (p := fun x => x != 60) l
 have hix := tw_index l
 rw [if_neg hf] at hix
 obtain ⟨t, ht⟩ : ∃ t, l.takeWhile (· != 60) = t := ⟨_, rfl⟩
 rw [ht] at hle htk hv hf
 have hl0 := bV_ l
 have hdr := bs_drop l t.length
 have hta := bs_take l t.length
 rw [htk] at hta
 obtain ⟨s, hs⟩ : ∃ s, s = Tk.bs l := ⟨_, rfl⟩
 rw [← hs] at hdr hta h hl0
 have CI : ∀ W, Calls Tryz.prog 72 #[.string s, .int .u8 60] W fun e w' => e = .returned (.int .i64 (-1)) ∧ W = w' := by
  intro W
  refine (Tryz.strings_IndexByte s 60 W).mono ?_
  rintro e w' ⟨rfl, rfl⟩
  refine ⟨?_, rfl⟩
  rw [show Lib.indexByte s.data.toList ((60 : Int).toNat.toUInt8) = (-1) from by rw [hs]; exact hix]
 have hts : t.length = l.length := by omega
 have hss : t.length = s.size := by omega
 obtain ⟨z, hz⟩ : ∃ z : Int, z = (s.size : Int) := ⟨_, rfl⟩
 have z0 : decide (z < 0) = false := decide_eq_false (by omega)
 have z1 := eq_true (show 0 ≤ z by omega)
 have z2 := eq_true (show z ≤ (s.size : Int) by omega)
 have hzt : z.toNat = t.length := by omega
 have CE : ∀ W, Glob W → Calls Tryz.prog 73 #[.string (s.extract 0 z.toNat)] W fun e w' => e = .returned (.tuple #[.string (Tk.bs []), .int .i64 5]) ∧ Below W.heap.size W w' := by
  intro W hW
  rw [hzt, hta]
  exact ent_f (x := ([], 5)) (entsV_none hv) (by omega) W hW
 have hex : s.extract z.toNat s.size = Tk.bs (l.drop t.length) := by rw [hzt, hdr]
 have HEX := Lib.hid hex
 have HG := aA_.mk hG
 have c0 := h.cell0
 have H0 := aA_.mk h
 have hzs : (s.size : Int) = z := hz.symm
 have HZ := Lib.hid hzs
 clear h hG hv hf ht htk hix hta hdr hs hex hle hl0 hzt hz hzs hts hss
 go_enter Tryz.func52, Tryz.ntmps52
 go_wp2_with (go_at_call 72; (with_reducible refine (CI _).mono ?_))
 rintro e w1 ⟨rfl, rfl⟩
 have hmz := HZ.out
 go_wp2_with (go_at_call 73; (with_reducible refine (CE _ HG.out).mono ?_))
 rintro e w2 ⟨rfl, b1⟩
 have H1 := aA_.mk (H0.out.below b1)
 have B1 := aA_.mk (b1.mono hsz)
 have S1 := aA_.mk b1.size
 clear b1 H0
 have c1 := H1.out.cell0
 have f1 := H1.out.frozen 0
 have B2 := aA_.mk (B1.out.setCell (p := ⟨g, 0, none⟩) hgeB (.string (s.extract z.toNat s.size)))
 go_wp2
 go_ret
 exact ⟨rfl, B2.out⟩
theorem cW_.all (B g : Nat) {ok : Nat → Prop} (l : List UInt8) (res : Option (S45 × List UInt8)) (L : List S45) (w : World) (h : bH_ w B g ok (Tk.bs l) L) (hG : Glob w) (hl : l.length ≤ 100000) (hL : L.length ≤ 100000) (hok : ∀ k, w.heap.size ≤ k → ok k) (hx : Tk.text l = res) :
 Calls Tryz.prog 52 #[.pointer (some ⟨g, 0, none⟩)] w fun e w' => (∀ t r, res = some (t, r) → e = .returned (.bool true) ∧ bH_ w' B g ok (Tk.bs r) (L ++ [t])) ∧ (res = none → e = .returned (.bool false)) ∧ Below B w w' := by
 unfold Tk.text at hx
 dsimp only at hx
 cases hv : Tk.entities (l.takeWhile (· != 60)) with
 | none =>
  rw [hv] at hx
  subst hx
  by_cases hf : (l.takeWhile (· != 60)).length < l.length
  ·refine (cW_.n1 B g l L w h hG hl hf hv).mono ?_
   rintro e w' ⟨rfl, b⟩
   exact ⟨(fun t r h => by cases h), fun _ => rfl, b⟩
  ·refine (cW_.n0 B g l L w h hG hl hf hv).mono ?_
   rintro e w' ⟨rfl, b⟩
   exact ⟨(fun t r h => by cases h), fun _ => rfl, b⟩
 | some x =>
  rw [hv] at hx
  subst hx
  by_cases hf : (l.takeWhile (· != 60)).length < l.length
  ·refine (cW_.y1 B g l x L w h hG hl hL hok hf hv).mono ?_
   rintro e w' ⟨rfl, h1, b⟩
   refine ⟨fun t r h => ?_, (fun h => by cases h), b⟩
   obtain ⟨rfl, rfl⟩ := Prod.mk.inj (Option.some.inj h)
   exact ⟨rfl, h1⟩
  ·refine (cW_.y0 B g l x L w h hG hl hL hok hf hv).mono ?_
   rintro e w' ⟨rfl, h1, b⟩
   refine ⟨fun t r h => ?_, (fun h => by cases h), b⟩
   obtain ⟨rfl, rfl⟩ := Prod.mk.inj (Option.some.inj h)
   exact ⟨rfl, h1⟩
theorem behind_le {x l r : List UInt8} (h : Tk.behind x l = some r) : r.length ≤ l.length := cM_ h
theorem cH_.w0 (B g : Nat) {ok : Nat → Prop} (fst : Bool) (l : List UInt8) (res : Option (S45 × List UInt8)) (q : List UInt8) (L : List S45) (w : World) (h : bH_ w B g ok (Tk.bs l) L) (hG : Glob w) (hl : l.length ≤ 100000) (hL : L.length ≤ 100000) (hok : ∀ k, w.heap.size ≤ k → ok k) (h0 : Tk.behind [60, 33, 45, 45] l = some q) (hx : Tk.comment q = res) :
 Calls Tryz.prog 33 #[.pointer (some ⟨g, 0, none⟩), .bool fst] w fun e w' => (∀ t r, res = some (t, r) → e = .returned (.bool true) ∧ bH_ w' B g ok (Tk.bs r) (L ++ [t])) ∧ (res = none → e = .returned (.bool false)) ∧ Below B w w' := by
 have hpos := h.pos
 have HG := aA_.mk hG
 have HX := aA_.mk hx
 have H := aA_.mk h
 have E0 := aA_.mk h0
 have hlq : q.length ≤ 100000 := Nat.le_trans (behind_le h0) hl
 clear h hG hx h0
 have B0 := aA_.mk (Below.refl B w)
 have S0 := aA_.mk (Nat.le_refl w.heap.size)
 go_enter Tryz.func33, Tryz.ntmps33
 go_wp2_with (go_at_call 46; refine (bC_.yesK B g _ [60, 33, 45, 45] q L _ H.out E0.out).mono ?_)
 rintro e w0 ⟨rfl, h1, b1, k1⟩
 have Hn := aA_.mk h1
 have HGn := aA_.mk (HG.out.below b1 hpos)
 have Bn := aA_.mk (B0.out.trans b1)
 have Sn := aA_.mk (Nat.le_trans S0.out k1.1)
 clear h1 b1 k1 H HG B0 S0
 have H := Hn
 have HG := HGn
 have B0 := Bn
 have S0 := Sn
 clear Hn HGn Bn Sn
 have CF : Calls Tryz.prog 47 #[.pointer (some ⟨g, 0, none⟩)] w0 fun e w' => (∀ t r, res = some (t, r) → e = .returned (.bool true) ∧ bH_ w' B g ok (Tk.bs r) (L ++ [t])) ∧ (res = none → e = .returned (.bool false)) ∧ Below B w0 w' := by
  cases hr : res with
  | none =>
   refine (d2_.no B g q L _ H.out HG.out (by omega) (HX.out.trans hr)).mono ?_
   rintro e w' ⟨rfl, b⟩
   exact ⟨(fun t r h => by cases h), fun _ => rfl, b⟩
  | some p =>
   obtain ⟨t0, r0⟩ := p
   refine (d2_.yes B g q r0 t0 L _ H.out HG.out (by omega) hL (fun k hk => hok k (Nat.le_trans S0.out hk)) (HX.out.trans hr)).mono ?_
   rintro e w' ⟨rfl, h1, b⟩
   refine ⟨fun t r h => ?_, (fun h => by cases h), b⟩
   obtain ⟨rfl, rfl⟩ := Prod.mk.inj (Option.some.inj h)
   exact ⟨rfl, h1⟩
 have CF1 := aA_.mk CF
 clear CF
 go_wp2_with (go_at_call 47; refine CF1.out.mono ?_)
 rintro e wz ⟨hy, hn, bz⟩
 have BZ := aA_.mk (B0.out.trans bz)
 clear bz
 cases hr : res with
 | none =>
  obtain rfl := hn hr
  clear hy hn
  go_wp2
  go_ret
  exact ⟨(fun t r h => by rw [hr] at h; cases h), fun _ => rfl, BZ.out⟩
 | some p =>
  obtain ⟨t0, r0⟩ := p
  obtain ⟨rfl, h1⟩ := hy t0 r0 hr
  have H1 := aA_.mk h1
  clear hy hn h1
  go_wp2
  go_ret
  refine ⟨fun t r h => ?_, (fun h => by rw [hr] at h; cases h), BZ.out⟩
  rw [hr] at h
  obtain ⟨rfl, rfl⟩ := Prod.mk.inj (Option.some.inj h)
  exact ⟨rfl, H1.out⟩
theorem cH_.w1 (B g : Nat) {ok : Nat → Prop} (fst : Bool) (l : List UInt8) (res : Option (S45 × List UInt8)) (q : List UInt8) (L : List S45) (w : World) (h : bH_ w B g ok (Tk.bs l) L) (hG : Glob w) (hl : l.length ≤ 100000) (hL : L.length ≤ 100000) (hok : ∀ k, w.heap.size ≤ k → ok k) (h0 : Tk.behind [60, 33, 45, 45] l = none) (h1 : Tk.behind [60, 33, 91, 67, 68, 65, 84, 65, 91] l = some q) (hx : Tk.data q = res) :
 Calls Tryz.prog 33 #[.pointer (some ⟨g, 0, none⟩), .bool fst] w fun e w' => (∀ t r, res = some (t, r) → e = .returned (.bool true) ∧ bH_ w' B g ok (Tk.bs r) (L ++ [t])) ∧ (res = none → e = .returned (.bool false)) ∧ Below B w w' := by
 have hpos := h.pos
 have HG := aA_.mk hG
 have HX := aA_.mk hx
 have H := aA_.mk h
 have E0 := aA_.mk h0
 have E1 := aA_.mk h1
 have hlq : q.length ≤ 100000 := Nat.le_trans (behind_le h1) hl
 clear h hG hx h0 h1
 have B0 := aA_.mk (Below.refl B w)
 have S0 := aA_.mk (Nat.le_refl w.heap.size)
 go_enter Tryz.func33, Tryz.ntmps33
 go_wp2_with (go_at_call 46; refine (bC_.noK B g _ [60, 33, 45, 45] L _ H.out E0.out).mono ?_)
 rintro e w0 ⟨rfl, h1, b1, k1⟩
 have Hn := aA_.mk h1
 have HGn := aA_.mk (HG.out.below b1 hpos)
 have Bn := aA_.mk (B0.out.trans b1)
 have Sn := aA_.mk (Nat.le_trans S0.out k1.1)
 clear h1 b1 k1 H HG B0 S0
 have H := Hn
 have HG := HGn
 have B0 := Bn
 have S0 := Sn
 clear Hn HGn Bn Sn
 go_wp2_with (go_at_call 46; refine (bC_.yesK B g _ [60, 33, 91, 67, 68, 65, 84, 65, 91] q L _ H.out E1.out).mono ?_)
 rintro e w1 ⟨rfl, h1, b1, k1⟩
 have Hn := aA_.mk h1
 have HGn := aA_.mk (HG.out.below b1 hpos)
 have Bn := aA_.mk (B0.out.trans b1)
 have Sn := aA_.mk (Nat.le_trans S0.out k1.1)
 clear h1 b1 k1 H HG B0 S0
 have H := Hn
 have HG := HGn
 have B0 := Bn
 have S0 := Sn
 clear Hn HGn Bn Sn
 have CF : Calls Tryz.prog 48 #[.pointer (some ⟨g, 0, none⟩)] w1 fun e w' => (∀ t r, res = some (t, r) → e = .returned (.bool true) ∧ bH_ w' B g ok (Tk.bs r) (L ++ [t])) ∧ (res = none → e = .returned (.bool false)) ∧ Below B w1 w' := by
  cases hr : res with
  | none =>
   refine (token_walk_data.no B g q L _ H.out HG.out (by omega) (HX.out.trans hr)).mono ?_
   rintro e w' ⟨rfl, b⟩
   exact ⟨(fun t r h => by cases h), fun _ => rfl, b⟩
  | some p =>
   obtain ⟨t0, r0⟩ := p
   refine (token_walk_data.yes B g q r0 t0 L _ H.out HG.out (by omega) hL (fun k hk => hok k (Nat.le_trans S0.out hk)) (HX.out.trans hr)).mono ?_
   rintro e w' ⟨rfl, h1, b⟩
   refine ⟨fun t r h => ?_, (fun h => by cases h), b⟩
   obtain ⟨rfl, rfl⟩ := Prod.mk.inj (Option.some.inj h)
   exact ⟨rfl, h1⟩
 have CF1 := aA_.mk CF
 clear CF
 go_wp2_with (go_at_call 48; refine CF1.out.mono ?_)
 rintro e wz ⟨hy, hn, bz⟩
 have BZ := aA_.mk (B0.out.trans bz)
 clear bz
 cases hr : res with
 | none =>
  obtain rfl := hn hr
  clear hy hn
  go_wp2
  go_ret
  exact ⟨(fun t r h => by rw [hr] at h; cases h), fun _ => rfl, BZ.out⟩
 | some p =>
  obtain ⟨t0, r0⟩ := p
  obtain ⟨rfl, h1⟩ := hy t0 r0 hr
  have H1 := aA_.mk h1
  clear hy hn h1
  go_wp2
  go_ret
  refine ⟨fun t r h => ?_, (fun h => by rw [hr] at h; cases h), BZ.out⟩
  rw [hr] at h
  obtain ⟨rfl, rfl⟩ := Prod.mk.inj (Option.some.inj h)
  exact ⟨rfl, H1.out⟩
theorem cH_.w2 (B g : Nat) {ok : Nat → Prop} (fst : Bool) (l : List UInt8) (res : Option (S45 × List UInt8)) (q : List UInt8) (L : List S45) (w : World) (h : bH_ w B g ok (Tk.bs l) L) (hG : Glob w) (hl : l.length ≤ 100000) (hL : L.length ≤ 100000) (hok : ∀ k, w.heap.size ≤ k → ok k) (h0 : Tk.behind [60, 33, 45, 45] l = none) (h1 : Tk.behind [60, 33, 91, 67, 68, 65, 84, 65, 91] l = none) (h2 : Tk.behind [60, 63] l = some q) (hx : Tk.prolog fst q = res) :
 Calls Tryz.prog 33 #[.pointer (some ⟨g, 0, none⟩), .bool fst] w fun e w' => (∀ t r, res = some (t, r) → e = .returned (.bool true) ∧ bH_ w' B g ok (Tk.bs r) (L ++ [t])) ∧ (res = none → e = .returned (.bool false)) ∧ Below B w w' := by
 have hpos := h.pos
 have HG := aA_.mk hG
 have HX := aA_.mk hx
 have H := aA_.mk h
 have E0 := aA_.mk h0
 have E1 := aA_.mk h1
 have E2 := aA_.mk h2
 have hlq : q.length ≤ 100000 := Nat.le_trans (behind_le h2) hl
 clear h hG hx h0 h1 h2
 have B0 := aA_.mk (Below.refl B w)
 have S0 := aA_.mk (Nat.le_refl w.heap.size)
 go_enter Tryz.func33, Tryz.ntmps33
 go_wp2_with (go_at_call 46; refine (bC_.noK B g _ [60, 33, 45, 45] L _ H.out E0.out).mono ?_)
 rintro e w0 ⟨rfl, h1, b1, k1⟩
 have Hn := aA_.mk h1
 have HGn := aA_.mk (HG.out.below b1 hpos)
 have Bn := aA_.mk (B0.out.trans b1)
 have Sn := aA_.mk (Nat.le_trans S0.out k1.1)
 clear h1 b1 k1 H HG B0 S0
 have H := Hn
 have HG := HGn
 have B0 := Bn
 have S0 := Sn
 clear Hn HGn Bn Sn
 go_wp2_with (go_at_call 46; refine (bC_.noK B g _ [60, 33, 91, 67, 68, 65, 84, 65, 91] L _ H.out E1.out).mono ?_)
 rintro e w1 ⟨rfl, h1, b1, k1⟩
 have Hn := aA_.mk h1
 have HGn := aA_.mk (HG.out.below b1 hpos)
 have Bn := aA_.mk (B0.out.trans b1)
 have Sn := aA_.mk (Nat.le_trans S0.out k1.1)
 clear h1 b1 k1 H HG B0 S0
 have H := Hn
 have HG := HGn
 have B0 := Bn
 have S0 := Sn
 clear Hn HGn Bn Sn
 go_wp2_with (go_at_call 46; refine (bC_.yesK B g _ [60, 63] q L _ H.out E2.out).mono ?_)
 rintro e w2 ⟨rfl, h1, b1, k1⟩
 have Hn := aA_.mk h1
 have HGn := aA_.mk (HG.out.below b1 hpos)
 have Bn := aA_.mk (B0.out.trans b1)
 have Sn := aA_.mk (Nat.le_trans S0.out k1.1)
 clear h1 b1 k1 H HG B0 S0
 have H := Hn
 have HG := HGn
 have B0 := Bn
 have S0 := Sn
 clear Hn HGn Bn Sn
 have CF : Calls Tryz.prog 49 #[.pointer (some ⟨g, 0, none⟩), .bool fst] w2 fun e w' => (∀ t r, res = some (t, r) → e = .returned (.bool true) ∧ bH_ w' B g ok (Tk.bs r) (L ++ [t])) ∧ (res = none → e = .returned (.bool false)) ∧ Below B w2 w' := by
  cases hr : res with
  | none =>
   refine (token_walk_prolog.no B g fst q L _ H.out HG.out (by omega) (HX.out.trans hr)).mono ?_
   rintro e w' ⟨rfl, b⟩
   exact ⟨(fun t r h => by cases h), fun _ => rfl, b⟩
  | some p =>
   obtain ⟨t0, r0⟩ := p
   refine (token_walk_prolog.yes B g fst q r0 t0 L _ H.out HG.out (by omega) hL (fun k hk => hok k (Nat.le_trans S0.out hk)) (HX.out.trans hr)).mono ?_
   rintro e w' ⟨rfl, h1, b⟩
   refine ⟨fun t r h => ?_, (fun h => by cases h), b⟩
   obtain ⟨rfl, rfl⟩ := Prod.mk.inj (Option.some.inj h)
   exact ⟨rfl, h1⟩
 have CF1 := aA_.mk CF
 clear CF
 go_wp2_with (go_at_call 49; refine CF1.out.mono ?_)
 rintro e wz ⟨hy, hn, bz⟩
 have BZ := aA_.mk (B0.out.trans bz)
 clear bz
 cases hr : res with
 | none =>
  obtain rfl := hn hr
  clear hy hn
  go_wp2
  go_ret
  exact ⟨(fun t r h => by rw [hr] at h; cases h), fun _ => rfl, BZ.out⟩
 | some p =>
  obtain ⟨t0, r0⟩ := p
  obtain ⟨rfl, h1⟩ := hy t0 r0 hr
  have H1 := aA_.mk h1
  clear hy hn h1
  go_wp2
  go_ret
  refine ⟨fun t r h => ?_, (fun h => by rw [hr] at h; cases h), BZ.out⟩
  rw [hr] at h
  obtain ⟨rfl, rfl⟩ := Prod.mk.inj (Option.some.inj h)
  exact ⟨rfl, H1.out⟩
theorem cH_.w3 (B g : Nat) {ok : Nat → Prop} (fst : Bool) (l : List UInt8) (res : Option (S45 × List UInt8)) (q : List UInt8) (L : List S45) (w : World) (h : bH_ w B g ok (Tk.bs l) L) (hG : Glob w) (hl : l.length ≤ 100000) (hL : L.length ≤ 100000) (hok : ∀ k, w.heap.size ≤ k → ok k) (h0 : Tk.behind [60, 33, 45, 45] l = none) (h1 : Tk.behind [60, 33, 91, 67, 68, 65, 84, 65, 91] l = none) (h2 : Tk.behind [60, 63] l = none) (h3 : Tk.behind [60, 47] l = some q) (hx : Tk.close q = res) :
 Calls Tryz.prog 33 #[.pointer (some ⟨g, 0, none⟩), .bool fst] w fun e w' => (∀ t r, res = some (t, r) → e = .returned (.bool true) ∧ bH_ w' B g ok (Tk.bs r) (L ++ [t])) ∧ (res = none → e = .returned (.bool false)) ∧ Below B w w' := by
 have hpos := h.pos
 have HG := aA_.mk hG
 have HX := aA_.mk hx
 have H := aA_.mk h
 have E0 := aA_.mk h0
 have E1 := aA_.mk h1
 have E2 := aA_.mk h2
 have E3 := aA_.mk h3
 have hlq : q.length ≤ 100000 := Nat.le_trans (behind_le h3) hl
 clear h hG hx h0 h1 h2 h3
 have B0 := aA_.mk (Below.refl B w)
 have S0 := aA_.mk (Nat.le_refl w.heap.size)
 go_enter Tryz.func33, Tryz.ntmps33
 go_wp2_with (go_at_call 46; refine (bC_.noK B g _ [60, 33, 45, 45] L _ H.out E0.out).mono ?_)
 rintro e w0 ⟨rfl, h1, b1, k1⟩
 have Hn := aA_.mk h1
 have HGn := aA_.mk (HG.out.below b1 hpos)
 have Bn := aA_.mk (B0.out.trans b1)
 have Sn := aA_.mk (Nat.le_trans S0.out k1.1)
 clear h1 b1 k1 H HG B0 S0
 have H := Hn
 have HG := HGn
 have B0 := Bn
 have S0 := Sn
 clear Hn HGn Bn Sn
 go_wp2_with (go_at_call 46; refine (bC_.noK B g _ [60, 33, 91, 67, 68, 65, 84, 65, 91] L _ H.out E1.out).mono ?_)
 rintro e w1 ⟨rfl, h1, b1, k1⟩
 have Hn := aA_.mk h1
 have HGn := aA_.mk (HG.out.below b1 hpos)
 have Bn := aA_.mk (B0.out.trans b1)
 have Sn := aA_.mk (Nat.le_trans S0.out k1.1)
 clear h1 b1 k1 H HG B0 S0
 have H := Hn
 have HG := HGn
 have B0 := Bn
 have S0 := Sn
 clear Hn HGn Bn Sn
 go_wp2_with (go_at_call 46; refine (bC_.noK B g _ [60, 63] L _ H.out E2.out).mono ?_)
 rintro e w2 ⟨rfl, h1, b1, k1⟩
 have Hn := aA_.mk h1
 have HGn := aA_.mk (HG.out.below b1 hpos)
 have Bn := aA_.mk (B0.out.trans b1)
 have Sn := aA_.mk (Nat.le_trans S0.out k1.1)
 clear h1 b1 k1 H HG B0 S0
 have H := Hn
 have HG := HGn
 have B0 := Bn
 have S0 := Sn
 clear Hn HGn Bn Sn
 go_wp2_with (go_at_call 46; refine (bC_.yesK B g _ [60, 47] q L _ H.out E3.out).mono ?_)
 rintro e w3 ⟨rfl, h1, b1, k1⟩
 have Hn := aA_.mk h1
 have HGn := aA_.mk (HG.out.below b1 hpos)
 have Bn := aA_.mk (B0.out.trans b1)
 have Sn := aA_.mk (Nat.le_trans S0.out k1.1)
 clear h1 b1 k1 H HG B0 S0
 have H := Hn
 have HG := HGn
 have B0 := Bn
 have S0 := Sn
 clear Hn HGn Bn Sn
 have CF : Calls Tryz.prog 50 #[.pointer (some ⟨g, 0, none⟩)] w3 fun e w' => (∀ t r, res = some (t, r) → e = .returned (.bool true) ∧ bH_ w' B g ok (Tk.bs r) (L ++ [t])) ∧ (res = none → e = .returned (.bool false)) ∧ Below B w3 w' := by
  cases hr : res with
  | none =>
   refine (token_walk_end.no B g q L _ H.out HG.out (by omega) (HX.out.trans hr)).mono ?_
   rintro e w' ⟨rfl, b⟩
   exact ⟨(fun t r h => by cases h), fun _ => rfl, b⟩
  | some p =>
   obtain ⟨t0, r0⟩ := p
   refine (token_walk_end.yes B g q r0 t0 L _ H.out HG.out (by omega) hL (fun k hk => hok k (Nat.le_trans S0.out hk)) (HX.out.trans hr)).mono ?_
   rintro e w' ⟨rfl, h1, b⟩
   refine ⟨fun t r h => ?_, (fun h => by cases h), b⟩
   obtain ⟨rfl, rfl⟩ := Prod.mk.inj (Option.some.inj h)
   exact ⟨rfl, h1⟩
 have CF1 := aA_.mk CF
 clear CF
 go_wp2_with (go_at_call 50; refine CF1.out.mono ?_)
 rintro e wz ⟨hy, hn, bz⟩
 have BZ := aA_.mk (B0.out.trans bz)
 clear bz
 cases hr : res with
 | none =>
  obtain rfl := hn hr
  clear hy hn
  go_wp2
  go_ret
  exact ⟨(fun t r h => by rw [hr] at h; cases h), fun _ => rfl, BZ.out⟩
 | some p =>
  obtain ⟨t0, r0⟩ := p
  obtain ⟨rfl, h1⟩ := hy t0 r0 hr
  have H1 := aA_.mk h1
  clear hy hn h1
  go_wp2
  go_ret
  refine ⟨fun t r h => ?_, (fun h => by rw [hr] at h; cases h), BZ.out⟩
  rw [hr] at h
  obtain ⟨rfl, rfl⟩ := Prod.mk.inj (Option.some.inj h)
  exact ⟨rfl, H1.out⟩
theorem cH_.w4 (B g : Nat) {ok : Nat → Prop} (fst : Bool) (l : List UInt8) (res : Option (S45 × List UInt8)) (q : List UInt8) (L : List S45) (w : World) (h : bH_ w B g ok (Tk.bs l) L) (hG : Glob w) (hl : l.length ≤ 100000) (hL : L.length ≤ 100000) (hok : ∀ k, w.heap.size ≤ k → ok k) (h0 : Tk.behind [60, 33, 45, 45] l = none) (h1 : Tk.behind [60, 33, 91, 67, 68, 65, 84, 65, 91] l = none) (h2 : Tk.behind [60, 63] l = none) (h3 : Tk.behind [60, 47] l = none) (h4 : Tk.behind [60] l = some q) (hx : Tk.opening q = res) :
 Calls Tryz.prog 33 #[.pointer (some ⟨g, 0, none⟩), .bool fst] w fun e w' => (∀ t r, res = some (t, r) → e = .returned (.bool true) ∧ bH_ w' B g ok (Tk.bs r) (L ++ [t])) ∧ (res = none → e = .returned (.bool false)) ∧ Below B w w' := by
 have hpos := h.pos
 have HG := aA_.mk hG
 have HX := aA_.mk hx
 have H := aA_.mk h
 have E0 := aA_.mk h0
 have E1 := aA_.mk h1
 have E2 := aA_.mk h2
 have E3 := aA_.mk h3
 have E4 := aA_.mk h4
 have hlq : q.length ≤ 100000 := Nat.le_trans (behind_le h4) hl
 clear h hG hx h0 h1 h2 h3 h4
 have B0 := aA_.mk (Below.refl B w)
 have S0 := aA_.mk (Nat.le_refl w.heap.size)
 go_enter Tryz.func33, Tryz.ntmps33
 go_wp2_with (go_at_call 46; refine (bC_.noK B g _ [60, 33, 45, 45] L _ H.out E0.out).mono ?_)
 rintro e w0 ⟨rfl, h1, b1, k1⟩
 have Hn := aA_.mk h1
 have HGn := aA_.mk (HG.out.below b1 hpos)
 have Bn := aA_.mk (B0.out.trans b1)
 have Sn := aA_.mk (Nat.le_trans S0.out k1.1)
 clear h1 b1 k1 H HG B0 S0
 have H := Hn
 have HG := HGn
 have B0 := Bn
 have S0 := Sn
 clear Hn HGn Bn Sn
 go_wp2_with (go_at_call 46; refine (bC_.noK B g _ [60, 33, 91, 67, 68, 65, 84, 65, 91] L _ H.out E1.out).mono ?_)
 rintro e w1 ⟨rfl, h1, b1, k1⟩
 have Hn := aA_.mk h1
 have HGn := aA_.mk (HG.out.below b1 hpos)
 have Bn := aA_.mk (B0.out.trans b1)
 have Sn := aA_.mk (Nat.le_trans S0.out k1.1)
 clear h1 b1 k1 H HG B0 S0
 have H := Hn
 have HG := HGn
 have B0 := Bn
 have S0 := Sn
 clear Hn HGn Bn Sn
 go_wp2_with (go_at_call 46; refine (bC_.noK B g _ [60, 63] L _ H.out E2.out).mono ?_)
 rintro e w2 ⟨rfl, h1, b1, k1⟩
 have Hn := aA_.mk h1
 have HGn := aA_.mk (HG.out.below b1 hpos)
 have Bn := aA_.mk (B0.out.trans b1)
 have Sn := aA_.mk (Nat.le_trans S0.out k1.1)
 clear h1 b1 k1 H HG B0 S0
 have H := Hn
 have HG := HGn
 have B0 := Bn
 have S0 := Sn
 clear Hn HGn Bn Sn
 go_wp2_with (go_at_call 46; refine (bC_.noK B g _ [60, 47] L _ H.out E3.out).mono ?_)
 rintro e w3 ⟨rfl, h1, b1, k1⟩
 have Hn := aA_.mk h1
 have HGn := aA_.mk (HG.out.below b1 hpos)
 have Bn := aA_.mk (B0.out.trans b1)
 have Sn := aA_.mk (Nat.le_trans S0.out k1.1)
 clear h1 b1 k1 H HG B0 S0
 have H := Hn
 have HG := HGn
 have B0 := Bn
 have S0 := Sn
 clear Hn HGn Bn Sn
 go_wp2_with (go_at_call 46; refine (bC_.yesK B g _ [60] q L _ H.out E4.out).mono ?_)
 rintro e w4 ⟨rfl, h1, b1, k1⟩
 have Hn := aA_.mk h1
 have HGn := aA_.mk (HG.out.below b1 hpos)
 have Bn := aA_.mk (B0.out.trans b1)
 have Sn := aA_.mk (Nat.le_trans S0.out k1.1)
 clear h1 b1 k1 H HG B0 S0
 have H := Hn
 have HG := HGn
 have B0 := Bn
 have S0 := Sn
 clear Hn HGn Bn Sn
 go_wp2_with (go_at_call 51; refine (dL_.all B g q res L _ H.out HG.out hlq hL (fun k hk => hok k (Nat.le_trans S0.out hk)) HX.out).mono ?_)
 rintro e wz ⟨hy, hn, bz⟩
 have BZ := aA_.mk (B0.out.trans bz)
 clear bz
 cases hr : res with
 | none =>
  obtain rfl := hn hr
  clear hy hn
  go_wp2
  go_ret
  exact ⟨(fun t r h => by rw [hr] at h; cases h), fun _ => rfl, BZ.out⟩
 | some p =>
  obtain ⟨t0, r0⟩ := p
  obtain ⟨rfl, h1⟩ := hy t0 r0 hr
  have H1 := aA_.mk h1
  clear hy hn h1
  go_wp2
  go_ret
  refine ⟨fun t r h => ?_, (fun h => by rw [hr] at h; cases h), BZ.out⟩
  rw [hr] at h
  obtain ⟨rfl, rfl⟩ := Prod.mk.inj (Option.some.inj h)
  exact ⟨rfl, H1.out⟩
theorem cH_.w5 (B g : Nat) {ok : Nat → Prop} (fst : Bool) (l : List UInt8) (res : Option (S45 × List UInt8)) (L : List S45) (w : World) (h : bH_ w B g ok (Tk.bs l) L) (hG : Glob w) (hl : l.length ≤ 100000) (hL : L.length ≤ 100000) (hok : ∀ k, w.heap.size ≤ k → ok k) (h0 : Tk.behind [60, 33, 45, 45] l = none) (h1 : Tk.behind [60, 33, 91, 67, 68, 65, 84, 65, 91] l = none) (h2 : Tk.behind [60, 63] l = none) (h3 : Tk.behind [60, 47] l = none) (h4 : Tk.behind [60] l = none) (hx : Tk.text l = res) :
 Calls Tryz.prog 33 #[.pointer (some ⟨g, 0, none⟩), .bool fst] w fun e w' => (∀ t r, res = some (t, r) → e = .returned (.bool true) ∧ bH_ w' B g ok (Tk.bs r) (L ++ [t])) ∧ (res = none → e = .returned (.bool false)) ∧ Below B w w' := by
 have hpos := h.pos
 have HG := aA_.mk hG
 have HX := aA_.mk hx
 have H := aA_.mk h
 have E0 := aA_.mk h0
 have E1 := aA_.mk h1
 have E2 := aA_.mk h2
 have E3 := aA_.mk h3
 have E4 := aA_.mk h4
 clear h hG hx h0 h1 h2 h3 h4
 have B0 := aA_.mk (Below.refl B w)
 have S0 := aA_.mk (Nat.le_refl w.heap.size)
 go_enter Tryz.func33, Tryz.ntmps33
 go_wp2_with (go_at_call 46; refine (bC_.noK B g _ [60, 33, 45, 45] L _ H.out E0.out).mono ?_)
 rintro e w0 ⟨rfl, h1, b1, k1⟩
 have Hn := aA_.mk h1
 have HGn := aA_.mk (HG.out.below b1 hpos)
 have Bn := aA_.mk (B0.out.trans b1)
 have Sn := aA_.mk (Nat.le_trans S0.out k1.1)
 clear h1 b1 k1 H HG B0 S0
 have H := Hn
 have HG := HGn
 have B0 := Bn
 have S0 := Sn
 clear Hn HGn Bn Sn
 go_wp2_with (go_at_call 46; refine (bC_.noK B g _ [60, 33, 91, 67, 68, 65, 84, 65, 91] L _ H.out E1.out).mono ?_)
 rintro e w1 ⟨rfl, h1, b1, k1⟩
 have Hn := aA_.mk h1
 have HGn := aA_.mk (HG.out.below b1 hpos)
 have Bn := aA_.mk (B0.out.trans b1)
 have Sn := aA_.mk (Nat.le_trans S0.out k1.1)
 clear h1 b1 k1 H HG B0 S0
 have H := Hn
 have HG := HGn
 have B0 := Bn
 have S0 := Sn
 clear Hn HGn Bn Sn
 go_wp2_with (go_at_call 46; refine (bC_.noK B g _ [60, 63] L _ H.out E2.out).mono ?_)
 rintro e w2 ⟨rfl, h1, b1, k1⟩
 have Hn := aA_.mk h1
 have HGn := aA_.mk (HG.out.below b1 hpos)
 have Bn := aA_.mk (B0.out.trans b1)
 have Sn := aA_.mk (Nat.le_trans S0.out k1.1)
 clear h1 b1 k1 H HG B0 S0
 have H := Hn
 have HG := HGn
 have B0 := Bn
 have S0 := Sn
 clear Hn HGn Bn Sn
 go_wp2_with (go_at_call 46; refine (bC_.noK B g _ [60, 47] L _ H.out E3.out).mono ?_)
 rintro e w3 ⟨rfl, h1, b1, k1⟩
 have Hn := aA_.mk h1
 have HGn := aA_.mk (HG.out.below b1 hpos)
 have Bn := aA_.mk (B0.out.trans b1)
 have Sn := aA_.mk (Nat.le_trans S0.out k1.1)
 clear h1 b1 k1 H HG B0 S0
 have H := Hn
 have HG := HGn
 have B0 := Bn
 have S0 := Sn
 clear Hn HGn Bn Sn
 go_wp2_with (go_at_call 46; refine (bC_.noK B g _ [60] L _ H.out E4.out).mono ?_)
 rintro e w4 ⟨rfl, h1, b1, k1⟩
 have Hn := aA_.mk h1
 have HGn := aA_.mk (HG.out.below b1 hpos)
 have Bn := aA_.mk (B0.out.trans b1)
 have Sn := aA_.mk (Nat.le_trans S0.out k1.1)
 clear h1 b1 k1 H HG B0 S0
 have H := Hn
 have HG := HGn
 have B0 := Bn
 have S0 := Sn
 clear Hn HGn Bn Sn
 go_wp2_with (go_at_call 52; refine (cW_.all B g l res L _ H.out HG.out hl hL (fun k hk => hok k (Nat.le_trans S0.out hk)) HX.out).mono ?_)
 rintro e wz ⟨hy, hn, bz⟩
 have BZ := aA_.mk (B0.out.trans bz)
 clear bz
 cases hr : res with
 | none =>
  obtain rfl := hn hr
  clear hy hn
  go_wp2
  go_ret
  exact ⟨(fun t r h => by rw [hr] at h; cases h), fun _ => rfl, BZ.out⟩
 | some p =>
  obtain ⟨t0, r0⟩ := p
  obtain ⟨rfl, h1⟩ := hy t0 r0 hr
  have H1 := aA_.mk h1
  clear hy hn h1
  go_wp2
  go_ret
  refine ⟨fun t r h => ?_, (fun h => by rw [hr] at h; cases h), BZ.out⟩
  rw [hr] at h
  obtain ⟨rfl, rfl⟩ := Prod.mk.inj (Option.some.inj h)
  exact ⟨rfl, H1.out⟩
theorem cH_.all (B g : Nat) {ok : Nat → Prop} (fst : Bool) (l : List UInt8) (res : Option (S45 × List UInt8)) (L : List S45) (w : World) (h : bH_ w B g ok (Tk.bs l) L) (hG : Glob w) (hl : l.length ≤ 100000) (hL : L.length ≤ 100000) (hok : ∀ k, w.heap.size ≤ k → ok k) (hx : Tk.next fst l = res) :
 Calls Tryz.prog 33 #[.pointer (some ⟨g, 0, none⟩), .bool fst] w fun e w' => (∀ t r, res = some (t, r) → e = .returned (.bool true) ∧ bH_ w' B g ok (Tk.bs r) (L ++ [t])) ∧ (res = none → e = .returned (.bool false)) ∧ Below B w w' := by
 unfold Tk.next at hx
 cases h0 : Tk.behind [60, 33, 45, 45] l with
 | some q => rw [h0] at hx; exact cH_.w0 B g fst l res q L w h hG hl hL hok h0 hx
 | none =>
  rw [h0] at hx
  dsimp only at hx
  cases h1 : Tk.behind [60, 33, 91, 67, 68, 65, 84, 65, 91] l with
  | some q => rw [h1] at hx; exact cH_.w1 B g fst l res q L w h hG hl hL hok h0 h1 hx
  | none =>
   rw [h1] at hx
   dsimp only at hx
   cases h2 : Tk.behind [60, 63] l with
   | some q => rw [h2] at hx; exact cH_.w2 B g fst l res q L w h hG hl hL hok h0 h1 h2 hx
   | none =>
    rw [h2] at hx
    dsimp only at hx
    cases h3 : Tk.behind [60, 47] l with
    | some q => rw [h3] at hx; exact cH_.w3 B g fst l res q L w h hG hl hL hok h0 h1 h2 h3 hx
    | none =>
     rw [h3] at hx
     dsimp only at hx
     cases h4 : Tk.behind [60] l with
     | some q => rw [h4] at hx; exact cH_.w4 B g fst l res q L w h hG hl hL hok h0 h1 h2 h3 h4 hx
     | none =>
      rw [h4] at hx
      dsimp only at hx
      exact cH_.w5 B g fst l res L w h hG hl hL hok h0 h1 h2 h3 h4 hx
theorem allowed_f (c : UInt8) : chars_Allowed.f (c.toNat : Int) = some (Tk.allowed c) := Tk.bytes_all (by kernel_rfl) c
def badB (c : UInt8) : Bool := !Tk.allowed c
theorem cB_.clo (c : UInt8) (x : Int) (hx : x = (c.toNat : Int)) (w : World) (hG : Glob w) :
 Calls Tryz.prog 31 #[.int .u8 x] w fun e w' => e = .returned (.bool (badB c)) ∧ Below w.heap.size w w' := by
 have hf := allowed_f c
 rw [← hx] at hf
 obtain ⟨b, hb⟩ : ∃ b, Tk.allowed c = b := ⟨_, rfl⟩
 have hbb : badB c = !b := by unfold badB; rw [hb]
 rw [hb] at hf
 rw [hbb]
 have HF := aA_.mk hf
 have HG := aA_.mk hG
 clear hf hG hb hbb hx
 go_enter Tryz.func31, Tryz.ntmps31
 go_wp2_with (first | (go_at_call 32; (with_reducible refine (chars_Allowed.calls x b _ HG.out HF.out).mono ?_); rintro e w1 ⟨rfl, ⟨nd, rfl⟩⟩))
 go_ret
 exact ⟨rfl, aF_ (Below.refl _ _) nd⟩
theorem bytes_rd (l : List UInt8) (i : Nat) (h : i < l.length) : rd (dE_ (Tk.bs l)) (i : Int) = (l[i].toNat : Int) := by rw [rd_bytesOf, bs_bt l i h]
theorem cB_.ix (A0 : Option Addr) (c0 : Nat) (l : List UInt8) (w : World) (hr0 : Kd.C (Kd.int .u8) w A0 l.length (dE_ (Tk.bs l))) (hlen : l.length ≤ 1000000) (hG : Glob w) :
 Calls Tryz.prog 44 #[.slice A0 l.length c0, .func (.func 31) #[] #[]] w fun e w' => (∃ r : Int, e = .returned (.int .i64 r) ∧ decide (0 ≤ r) = l.any badB) ∧ Below w.heap.size w w' := by
 have HR0 := aA_.mk hr0
 have HG := aA_.mk hG
 clear hr0 hG
 go_enter Tryz.func44, Tryz.ntmps44
 go_wp2
 go_loopg [8] (l.length + 1) (fun gk v8 w' => ∃ (i : Nat) (x : Int), i ≤ l.length ∧ i + gk = l.length + 1 ∧ v8 = .int .i64 x ∧ aA_ (x = (i : Int)) ∧ aA_ ((l.take i).any badB = false) ∧ aA_ (Below w.heap.size w w'))
 case atStart => exact ⟨0, 0, by omega, by omega, by first | rfl | (simp; done), ⟨rfl⟩, ⟨by rw [List.take_zero]; rfl⟩, ⟨Below.refl _ _⟩⟩
 obtain ⟨i, x, hi, hgk, rfl, HX, HA, HB⟩ := hrel
 have hxi := HX.out
 by_cases hlt : i < l.length
 rotate_left
 ·obtain rfl : i = l.length := by omega
  have d1 : decide (x < (l.length : Int)) = false := decide_eq_false (by omega)
  have hall : l.any badB = false := by have := HA.out; rwa [List.take_length] at this
  have HALL := Lib.hid hall
  clear hall hxi
  go_wp2
  go_ret
  exact ⟨⟨_, rfl, by rw [HALL.out]; rfl⟩, HB.out⟩
 obtain ⟨g1, rfl⟩ : ∃ g1, gk = g1 + 1 := ⟨gk - 1, by omega⟩
 have d1 : decide (x < (l.length : Int)) = true := decide_eq_true (by omega)
 obtain ⟨ad, e_, hx0⟩ := Kd.at_int HR0.out x (by omega) (by omega)
 cases e_
 obtain ⟨y, hy⟩ : ∃ y, rd (dE_ (Tk.bs l)) x = y := ⟨_, rfl⟩
 have hyc : y = (l[i].toNat : Int) := by rw [← hy, hxi, bytes_rd l i hlt]
 rw [hy] at hx0
 replace hx0 := (HB.out.cell (World.block_lt_of_cell? w _ hx0)).trans hx0
 have p_ := eq_true (show 0 ≤ x by omega)
 have q_ := eq_true (show x < (l.length : Int) by omega)
 have hat := any_take badB l i hlt
 rw [HA.out, Bool.false_or] at hat
 have C2 := cB_.clo l[i] y hyc wr (HG.out.step HB.out)
 cases hps : badB l[i] with
 | true =>
  rw [hps] at C2
  have hall : l.any badB = true := any_hit hlt hps
  have HALL := Lib.hid hall
  have HX0 : decide (0 ≤ x) = true := decide_eq_true (by omega)
  have HXX := Lib.hid HX0
  have C3 := aA_.mk C2
  clear hps hall hat hxi C2 HX0 hy hyc
  go_wp2_with (first | (go_at_call 31; (with_reducible refine (C3.out).mono ?_); rintro e w4 ⟨rfl, hb⟩; have B4 := aA_.mk hb; clear hb))
  go_ret
  exact ⟨⟨_, rfl, by rw [HALL.out, HXX.out]⟩, bG_ HB.out B4.out⟩
 | false =>
  rw [hps] at C2 hat
  have HAT := aA_.mk hat
  have C3 := aA_.mk C2
  have hw1 : wrap64 (x + 1) = ((i + 1 : Nat) : Int) := by unfold wrap64; omega
  have HW1 := aA_.mk hw1
  clear hps hat hxi C2 hw1 hy hyc
  go_wp2_with (first | (go_at_call 31; (with_reducible refine (C3.out).mono ?_); rintro e w4 ⟨rfl, hb⟩; have B4 := aA_.mk hb; clear hb))
  go_roundg g1
  case measure => omega
  case rel => exact ⟨i + 1, _, by omega, by omega, by first | rfl | (simp; done), HW1, HAT, ⟨bG_ HB.out B4.out⟩⟩
theorem cB_.has (A0 : Option Addr) (c0 : Nat) (l : List UInt8) (w : World) (hr0 : Kd.C (Kd.int .u8) w A0 l.length (dE_ (Tk.bs l))) (hlen : l.length ≤ 1000000) (hG : Glob w) :
 Calls Tryz.prog 30 #[.slice A0 l.length c0, .func (.func 31) #[] #[]] w fun e w' => e = .returned (.bool (l.any badB)) ∧ Below w.heap.size w w' := by
 have C1 := aA_.mk (cB_.ix A0 c0 l w hr0 hlen hG)
 obtain ⟨b, hb⟩ : ∃ b, b = l.any badB := ⟨_, rfl⟩
 rw [← hb] at C1 ⊢
 clear hr0 hG hb
 go_enter Tryz.func30, Tryz.ntmps30
 go_wp2_with (first | (go_at_call 44; (with_reducible refine C1.out.mono ?_); rintro e w4 ⟨⟨r, rfl, hr⟩, hb⟩; have HB := aA_.mk hb; have HR := Lib.hid hr; clear hb hr))
 go_ret
 refine ⟨?_, HB.out⟩
 rw [← HR.out]
 first | rfl | (simp; done)
theorem attrs_len : ∀ (n : Nat) (nm : List UInt8) (ys : List S53) (l : List UInt8) (t : S45) (r : List UInt8), Tk.attrs n nm ys l = some (t, r) → r.length ≤ l.length
 | 0, _, _, _, _, _, h => by simp [Tk.attrs] at h
 | n + 1, nm, ys, l, t, r, h => by
  rw [Tk.attrs] at h
  (try dsimp only at h)
  have hs := skip_len l
  cases h1 : Tk.behind [62] (Tk.skip l) with
  | some q =>
   rw [h1] at h
   obtain ⟨_, rfl⟩ := Prod.mk.inj (Option.some.inj h)
   exact Nat.le_trans (cM_ h1) hs
  | none =>
   rw [h1] at h
   (try dsimp only at h)
   cases h2 : Tk.behind [47, 62] (Tk.skip l) with
   | some q =>
    rw [h2] at h
    obtain ⟨_, rfl⟩ := Prod.mk.inj (Option.some.inj h)
    exact Nat.le_trans (cM_ h2) hs
   | none =>
    rw [h2] at h
    (try dsimp only at h)
    split at h
    ·cases h
    ·obtain ⟨⟨x, q⟩, h3, h⟩ := Option.bind_eq_some_iff.1 h
     (try dsimp only at h)
     split at h
     ·cases h
     ·have := attrs_len n nm _ q t r h
      have := attr_len h3
      omega
theorem next_len {fst : Bool} {l r : List UInt8} {t : S45} (hl : l ≠ []) (h : Tk.next fst l = some (t, r)) : r.length < l.length := by
 unfold Tk.next at h
 cases h1 : Tk.behind [60, 33, 45, 45] l with
 | some q =>
  rw [h1] at h
  have e := behind_sum h1
  unfold Tk.comment at h
  obtain ⟨⟨a, b⟩, h2, h⟩ := Option.bind_eq_some_iff.1 h
  (try dsimp only at h)
  split at h
  ·cases h
  ·obtain ⟨_, rfl⟩ := Prod.mk.inj (Option.some.inj h)
   have := (dK_ h2).2
   simp only [List.length_cons, List.length_nil] at e
   (try dsimp only)
   omega
 | none =>
 rw [h1] at h
 (try dsimp only at h)
 cases h1 : Tk.behind [60, 33, 91, 67, 68, 65, 84, 65, 91] l with
 | some q =>
  rw [h1] at h
  have e := behind_sum h1
  obtain ⟨⟨a, b⟩, h2, h⟩ := Option.map_eq_some_iff.1 (show (Tk.upto [93, 93, 62] q).map _ = some (t, r) from h)
  obtain ⟨_, rfl⟩ := Prod.mk.inj h
  have := (dK_ h2).2
  simp only [List.length_cons, List.length_nil] at e
  (try dsimp only)
  omega
 | none =>
 rw [h1] at h
 (try dsimp only at h)
 cases h1 : Tk.behind [60, 63] l with
 | some q =>
  rw [h1] at h
  have e := behind_sum h1
  obtain ⟨⟨a, b⟩, h2, h⟩ := Option.bind_eq_some_iff.1 (show (Tk.upto [63, 62] q).bind _ = some (t, r) from h)
  (try dsimp only at h)
  split at h
  ·obtain ⟨_, rfl⟩ := Prod.mk.inj (Option.some.inj h)
   have := (dK_ h2).2
   simp only [List.length_cons, List.length_nil] at e
   (try dsimp only)
   omega
  ·cases h
 | none =>
 rw [h1] at h
 (try dsimp only at h)
 cases h1 : Tk.behind [60, 47] l with
 | some q =>
  rw [h1] at h
  have e := behind_sum h1
  (try dsimp only at h)
  unfold Tk.close at h
  split at h
  ·cases h
  ·obtain ⟨b, h2, h⟩ := Option.map_eq_some_iff.1 h
   obtain ⟨_, rfl⟩ := Prod.mk.inj h
   have e2 := cM_ h2
   have e3 := skip_len (q.drop (Tk.head q).length)
   rw [List.length_drop] at e3
   simp only [List.length_cons, List.length_nil] at e
   omega
 | none =>
 rw [h1] at h
 (try dsimp only at h)
 cases h1 : Tk.behind [60] l with
 | some q =>
  rw [h1] at h
  have e := behind_sum h1
  (try dsimp only at h)
  unfold Tk.opening at h
  split at h
  ·cases h
  ·have e2 := attrs_len _ _ _ _ _ _ h
   rw [List.length_drop] at e2
   simp only [List.length_cons, List.length_nil] at e
   omega
 | none =>
 rw [h1] at h
 (try dsimp only at h)
 unfold Tk.text at h
 (try dsimp only at h)
 obtain ⟨x, _, h⟩ := Option.map_eq_some_iff.1 h
 obtain ⟨_, rfl⟩ := Prod.mk.inj h
 cases l with
 | nil => exact absurd rfl hl
 | cons c q =>
  have hc : (c != 60) = true := by
   by_cases hc : c = 60
   ·subst hc; simp [Tk.behind, List.isPrefixOf] at h1
   ·simpa using hc
  rw [List.takeWhile_cons, if_pos hc, List.length_drop, List.length_cons, List.length_cons]
  omega
def cB_.f (a0 : ByteArray) : Option (List S45 × Int) := if a0.size ≤ 9223372036854775807 then some (Tk.split a0.data.toList) else none
theorem cB_.loop (l : List UInt8) (P : Option (List S45)) (hl : l.length ≤ 20000) (hbad : l.any badB = false) (hP : Tk.pieces (l.length + 1) true l = P) (w : World) (hG : Glob w) :
 Calls Tryz.prog 18 #[.string (Tk.bs l)] w fun e w' => (∀ t, P = some t → ∃ v0_ : Value, e = .returned (.tuple #[v0_, .int .i64 0]) ∧ Kd.S k45 45 w' w.heap.size (fun _ => True) v0_ t) ∧ (P = none → e = .returned (.tuple #[.slice none 0 0, .int .i64 5])) ∧ Below w.heap.size w w' := by
 have hsz := bV_ l
 have hpos := hG.lt
 obtain ⟨s, hs⟩ : ∃ s, s = Tk.bs l := ⟨_, rfl⟩
 have d1 : decide ((20000 : Int) < (s.size : Int)) = false := decide_eq_false (by rw [hs, hsz]; omega)
 have d1' : decide (20000 < s.size) = false := decide_eq_false (by rw [hs, hsz]; omega)
 have kb := fun W => print_bytes (P := Tryz.prog) 9 57 5 Tryz.underlying9 Tryz.underlying57 Tryz.underlying5 s W
 have hr : Kd.C (Kd.int .u8) (Lib.bytesWorld w 5 s) (some ⟨w.heap.size, 0, none⟩) s.size (dE_ s) := Kd.C_of_reads (enc := Value.int .u8) (d := (0 : Int)) (h1 := fun _ => rfl) (bytes_reads w 5 s (by rw [hs, hsz]; omega))
 have hb : Below w.heap.size w (Lib.bytesWorld w 5 s) := bytes_below (Below.refl _ _) (Nat.le_refl _) _ _
 have hu := Tryz.underlying72
 have HSZ := Lib.hid (show s.size = l.length by rw [hs, hsz])
 have HS := Lib.hid hs
 have HBAD := Lib.hid hbad
 have HP := Lib.hid hP
 have HR := aA_.mk hr
 have HBB := aA_.mk hb
 have HG := aA_.mk hG
 rw [← hs]
 clear hs hsz hr hb hG hbad hP
 go_enter Tryz.func18, Tryz.ntmps18
 go_wp2
 refine dJ_ 0 (by rfl) ?_
 go_wp2_with (fail)
 have hC := HR.out
 rw [HSZ.out, HS.out] at hC
 rw [HSZ.out]
 refine (cB_.has _ _ l _ (by rw [← HS.out] at hC ⊢; exact hC) (by omega) (HG.out.step HBB.out)).mono ?_
 rintro e wc ⟨rfl, b1⟩
 rw [HBAD.out]
 have HBC := aA_.mk (HBB.out.trans (b1.mono HBB.out.size))
 clear b1 hC HBB HR kb d1 d1'
 go_wp2_with (fail)
 have hb0 : Below wc.heap.size wc (wc.alloc (.cells #[.string s, .slice none 0 0] 72)) := aH_ (Below.refl _ _) _
 have X0 : (wc.alloc (.cells #[.string s, .slice none 0 0] 72)).heap[wc.heap.size]? = some (.cells #[.string s, .slice none 0 0] 72 (0, 0)) := heap_alloc_new wc _
 obtain ⟨g, hg⟩ : ∃ g, g = wc.heap.size := ⟨_, rfl⟩
 obtain ⟨B, hBe⟩ : ∃ B, B = w.heap.size := ⟨_, rfl⟩
 obtain ⟨wb, hwb⟩ : ∃ wb, wb = w := ⟨_, rfl⟩
 have hgB : B ≤ g := by have := HBC.out.size; omega
 have H2 := aA_.mk (show bH_ (wc.alloc (.cells #[.string s, .slice none 0 0] 72)) B g (fun _ => True) (Tk.bs l) [] from by rw [← HS.out]; exact ⟨_, by rw [hg]; exact X0, Kd.S_nil _ _ _ _ _, hgB, by omega⟩)
 have B2 := aA_.mk (show Below B wb (wc.alloc (.cells #[.string s, .slice none 0 0] 72)) from by rw [hBe, hwb]; exact HBC.out.trans (hb0.mono HBC.out.size))
 have HGb := aA_.mk (show Glob wb from by rw [hwb]; exact HG.out)
 have hposB : 0 < B := by omega
 rw [← hg]
 rw [← hBe, ← hwb]
 clear hb0 X0 HBC HG
 generalize wc.alloc _ = w0 at *
 have HBE := Lib.hid hBe
 have HWB := Lib.hid hwb
 clear hg hBe hwb
 refine wp_label ?_
 rename_i hlb
 refine hlb _ _ ?_
 refine wp_at_label ?_
 refine LoopAt.intro (fun aB_ kq_ a1 w1 => ∃ (u2 u3 u16 u17 u18 u19 u20 u21 u22 u23 u24 u25 u26 u27 u28 u29 u30 u31 u32 u33 u34 u35 : Value), (∃ (m : List UInt8) (L : List S45) (fst : Bool), m.length < kq_ ∧ aA_ (fst = decide (m.length = l.length)) ∧ aA_ (L.length + m.length ≤ l.length) ∧ aA_ (P = (Tk.pieces kq_ fst m).map fun t => L ++ t) ∧ aA_ (bH_ w1 B g (fun _ => True) (Tk.bs m) L) ∧ aA_ (Below B wb w1)) ∧ a1 = ((((((((((((((((((((((aB_.put (some 2) u2).put (some 3) u3).put (some 16) u16).put (some 17) u17).put (some 18) u18).put (some 19) u19).put (some 20) u20).put (some 21) u21).put (some 22) u22).put (some 23) u23).put (some 24) u24).put (some 25) u25).put (some 26) u26).put (some 27) u27).put (some 28) u28).put (some 29) u29).put (some 30) u30).put (some 31) u31).put (some 32) u32).put (some 33) u33).put (some 34) u34).put (some 35) u35)) (l.length + 1) ?_ ?_
 ·(repeat apply Exists.intro)
  (try simp only [Act.put, List.setIfInBounds_toArray, List.set_cons_zero, List.set_cons_succ])
  refine ⟨?_, rfl⟩
  exact ⟨l, [], true, Nat.lt_succ_self _, ⟨by simp⟩, ⟨by simp⟩, ⟨by rw [HP.out]; simp⟩, H2, B2⟩
 ·intro gk a1 wr hinv
  obtain ⟨u2, u3, u16, u17, u18, u19, u20, u21, u22, u23, u24, u25, u26, u27, u28, u29, u30, u31, u32, u33, u34, u35, hrel, ha⟩ := hinv
  subst ha
  (try simp only [Act.put, List.setIfInBounds_toArray, List.set_cons_zero, List.set_cons_succ])
  intro Js0 Ks0 hJs0 hKs0
  clear H2 B2 HP
  obtain ⟨m, L, fst, hmk, HFS, HLM, HP, H, HB⟩ := hrel
  obtain ⟨g1, rfl⟩ : ∃ g1, gk = g1 + 1 := ⟨gk - 1, by omega⟩
  have hlm := HLM.out
  have hsl := HSZ.out
  have hmz := bV_ m
  have c0 := H.out.cell0
  have HG1 := aA_.mk (HGb.out.below HB.out (by show 0 < B; omega))
  by_cases hm : m = []
  ·have hPL : P = some L := by
    rw [HP.out, Tk.pieces, if_pos hm]; simp
   have HPL := Lib.hid hPL
   have e1 := bs_none hm
   have H0 := H.out
   obtain ⟨v, h1, h2, _⟩ := H0
   obtain ⟨A1, c1, rfl⟩ := Kd.S_slice h2
   have c1' := (aC_ h1 1).trans rfl
   have H2 := aA_.mk h2
   clear h1 h2 hPL hm HP hlm hsl hmz
   go_wp2_with (fail)
   (try simp only [Exit.inBlock, Exit.then, dD_])
   go_ret2
   have HBf := HB.out
   have H2f := H2.out
   rw [HBE.out, HWB.out] at HBf
   rw [HBE.out] at H2f
   refine ⟨fun t h => ?_, (fun h => by rw [HPL.out] at h; cases h), HBf⟩
   rw [HPL.out] at h
   obtain rfl := Option.some.inj h
   exact ⟨_, rfl, Kd.S_mono H2f (fun _ _ => trivial)⟩
  obtain ⟨e1, e2, e3, e4⟩ := bs_some hm
  have hP1 : P = ((Tk.next fst m).bind fun p => (Tk.pieces g1 false p.2).map fun t => p.1 :: t).map fun t => L ++ t := by
   rw [HP.out, Tk.pieces, if_neg hm]
  have hfs : ((((Tk.bs m).size : Nat) : Int) == ((s.size : Nat) : Int)) = fst := by
   rw [HFS.out, hmz, hsl]
   rw [Bool.eq_iff_iff, beq_iff_eq, decide_eq_true_eq]
   omega
  have hfs2 : ((Tk.bs m).size == s.size) = fst := by
   rw [HFS.out, hmz, hsl]
   rw [Bool.eq_iff_iff, beq_iff_eq, decide_eq_true_eq]
  have HP1 := Lib.hid hP1
  obtain ⟨res, hres⟩ : ∃ res, Tk.next fst m = res := ⟨_, rfl⟩
  have CN := aA_.mk (cH_.all B g fst m res L wr H.out HG1.out (by omega) (by omega) (fun _ _ => trivial) hres)
  have HRS := Lib.hid hres
  have HM := Lib.hid hm
  clear hP1 hres hm HP hsl hmz
  go_wp2_with (go_at_call 33; (with_reducible refine CN.out.mono ?_))
  rintro e wn ⟨hy, hn, bn⟩
  have B3 := aA_.mk (HB.out.trans bn)
  clear bn CN
  cases hr : res with
  | none =>
   obtain rfl := hn hr
   have hPN : P = none := by rw [HP1.out, HRS.out, hr]; rfl
   have HPN := Lib.hid hPN
   clear hy hn hPN hr
   go_wp2_with (fail)
   (try simp only [Exit.inBlock, Exit.then, dD_])
   go_ret2
   have HBf := B3.out
   rw [HBE.out, HWB.out] at HBf
   exact ⟨(fun t h => by rw [HPN.out] at h; cases h), fun _ => rfl, HBf⟩
  | some p =>
   obtain ⟨t0, r0⟩ := p
   obtain ⟨rfl, h1⟩ := hy t0 r0 hr
   have H3 := aA_.mk h1
   have hrl := next_len HM.out (HRS.out.trans hr)
   have hPN : P = (Tk.pieces g1 false r0).map fun t => (L ++ [t0]) ++ t := by
    rw [HP1.out, HRS.out, hr]
    cases hq : Tk.pieces g1 false r0 with
    | none => simp [hq]
    | some t => simp [hq]
   have HPN := aA_.mk hPN
   clear hy hn h1 hPN hr hfs hfs2
   go_wp2_with (fail)
   refine wp_goto (And.intro rfl ?_)
   refine hKs0 _ _ ?_
   go_roundg g1
   case measure => omega
   case rel => exact ⟨r0, L ++ [t0], false, by omega, ⟨by rw [eq_comm, decide_eq_false_iff_not]; omega⟩, ⟨by rw [List.length_append, List.length_singleton]; omega⟩, HPN, H3, B3⟩
theorem cB_.big (l : List UInt8) (hl : 20000 < l.length) (hl2 : l.length ≤ 9223372036854775807) (w : World) :
 Calls Tryz.prog 18 #[.string (Tk.bs l)] w fun e w' => e = .returned (.tuple #[.slice none 0 0, .int .i64 3]) ∧ w = w' := by
 have hsz := bV_ l
 obtain ⟨s, hs⟩ : ∃ s, s = Tk.bs l := ⟨_, rfl⟩
 rw [← hs] at hsz ⊢
 have d1 : decide ((20000 : Int) < (s.size : Int)) = true := decide_eq_true (by omega)
 have d1' : decide (20000 < s.size) = true := decide_eq_true (by omega)
 clear hs hsz
 go_enter Tryz.func18, Tryz.ntmps18
 go_wp2
 refine dJ_ 0 (by rfl) ?_
 go_wp2_with (fail)
 (try simp only [Exit.inBlock, Exit.then, dD_])
 go_ret2
 exact ⟨rfl, rfl⟩
theorem cB_.bad (l : List UInt8) (hl : l.length ≤ 20000) (hbad : l.any badB = true) (w : World) (hG : Glob w) :
 Calls Tryz.prog 18 #[.string (Tk.bs l)] w fun e w' => e = .returned (.tuple #[.slice none 0 0, .int .i64 4]) ∧ Below w.heap.size w w' := by
 have hsz := bV_ l
 obtain ⟨s, hs⟩ : ∃ s, s = Tk.bs l := ⟨_, rfl⟩
 have d1 : decide ((20000 : Int) < (s.size : Int)) = false := decide_eq_false (by rw [hs, hsz]; omega)
 have d1' : decide (20000 < s.size) = false := decide_eq_false (by rw [hs, hsz]; omega)
 have kb := fun W => print_bytes (P := Tryz.prog) 9 57 5 Tryz.underlying9 Tryz.underlying57 Tryz.underlying5 s W
 have hr : Kd.C (Kd.int .u8) (Lib.bytesWorld w 5 s) (some ⟨w.heap.size, 0, none⟩) s.size (dE_ s) := Kd.C_of_reads (enc := Value.int .u8) (d := (0 : Int)) (h1 := fun _ => rfl) (bytes_reads w 5 s (by rw [hs, hsz]; omega))
 have hb : Below w.heap.size w (Lib.bytesWorld w 5 s) := bytes_below (Below.refl _ _) (Nat.le_refl _) _ _
 have HSZ := Lib.hid (show s.size = l.length by rw [hs, hsz])
 have HS := Lib.hid hs
 have HBAD := Lib.hid hbad
 have HR := aA_.mk hr
 have HBB := aA_.mk hb
 have HG := aA_.mk hG
 rw [← hs]
 clear hs hsz hr hb hG hbad
 go_enter Tryz.func18, Tryz.ntmps18
 go_wp2
 refine dJ_ 0 (by rfl) ?_
 go_wp2_with (fail)
 have hC := HR.out
 rw [HSZ.out, HS.out] at hC
 rw [HSZ.out]
 refine (cB_.has _ _ l _ (by rw [← HS.out] at hC ⊢; exact hC) (by omega) (HG.out.step HBB.out)).mono ?_
 rintro e wc ⟨rfl, b1⟩
 rw [HBAD.out]
 have HBC := aA_.mk (HBB.out.trans (b1.mono HBB.out.size))
 clear b1 hC HBB HR kb d1 d1'
 go_wp2_with (fail)
 (try simp only [Exit.inBlock, Exit.then, dD_])
 go_ret2
 exact ⟨rfl, HBC.out⟩
theorem badB_eq (l : List UInt8) : l.any badB = l.any (fun c => !Tk.allowed c) := rfl
theorem cB_.calls (a0 : ByteArray) (r1 : List S45) (r2 : Int) (w : World) (hG : Glob w) (h : cB_.f a0 = some (r1, r2)) :
 Calls Tryz.prog 18 #[.string a0] w fun e w' => ∃ v0_ : Value, e = .returned (.tuple #[v0_, .int .i64 r2]) ∧ Kd.S k45 45 w' w.heap.size (fun _ => True) v0_ r1 ∧ Below w.heap.size w w' := by
 unfold cB_.f at h
 have hl2 : a0.size ≤ 9223372036854775807 := by
  refine Classical.byContradiction fun hc => ?_
  rw [if_neg hc] at h
  cases h
 rw [if_pos hl2] at h
 have hx := Option.some.inj h
 rw [Lib.size_eq] at hl2
 have ha : a0 = Tk.bs a0.data.toList := (bs_data a0).symm
 rw [ha]
 rw [ha] at hx
 generalize a0.data.toList = l at *
 clear ha h
 have hx : Tk.split l = (r1, r2) := hx
 unfold Tk.split at hx
 by_cases hl : 20000 < l.length
 ·rw [if_pos hl] at hx
  obtain ⟨rfl, rfl⟩ := Prod.mk.inj hx
  refine (cB_.big l hl hl2 w).mono ?_
  rintro e w' ⟨rfl, rfl⟩
  exact ⟨_, rfl, Kd.S_nil _ _ _ _ _, Below.refl _ _⟩
 rw [if_neg hl] at hx
 by_cases hb : l.any badB = true
 ·rw [if_pos (by rw [← badB_eq]; exact hb)] at hx
  obtain ⟨rfl, rfl⟩ := Prod.mk.inj hx
  refine (cB_.bad l (by omega) hb w hG).mono ?_
  rintro e w' ⟨rfl, b⟩
  exact ⟨_, rfl, Kd.S_nil _ _ _ _ _, b⟩
 rw [if_neg (by rw [← badB_eq]; exact hb)] at hx
 refine (cB_.loop l _ (by omega) (Bool.eq_false_iff.2 hb) rfl w hG).mono ?_
 rintro e w' ⟨hy, hn, b⟩
 cases hp : Tk.pieces (l.length + 1) true l with
 | none =>
  rw [hp] at hx
  obtain ⟨rfl, rfl⟩ := Prod.mk.inj hx
  exact ⟨_, hn hp, Kd.S_nil _ _ _ _ _, b⟩
 | some t =>
  rw [hp] at hx
  obtain ⟨rfl, rfl⟩ := Prod.mk.inj hx
  obtain ⟨v, he, hr⟩ := hy t hp
  exact ⟨v, he, hr, b⟩
theorem dC_.no (B g N : Nat) (l : List El.Nd) (op : List Int) (t : El.Tok) (va : Value) (w : World) (h : BAt w B g N l op) (hop : op.length ≤ 100000) (hl : l.length ≤ 100000) (hneg : El.inner op < 0) :
 Calls Tryz.prog 26 #[.pointer (some ⟨g, 0, none⟩), .agg #[.int .i64 t.f0, .string t.f1, .string t.f2, va, .bool t.f4]] w fun e w' => e = .returned (.int .i64 6) ∧ Below w.heap.size w w' := by
 have HB0 := aA_.mk (aH_ (Below.refl w.heap.size w) (.cells #[.int .i64 t.f0, .string t.f1, .string t.f2, va, .bool t.f4] 45))
 have CI := aA_.mk (fun W (hW : Below w.heap.size w W) => cE_.calls B g N l op W (h.below hW) hop)
 obtain ⟨p, hp⟩ : ∃ p, p = El.inner op := ⟨_, rfl⟩
 rw [← hp] at CI hneg
 have d1 : decide (p < 0) = true := decide_eq_true hneg
 clear h hp
 go_enter Tryz.func26, Tryz.ntmps26
 go_wp2_with (first | (go_at_call 41; (with_reducible refine (CI.out _ HB0.out).mono ?_); rintro e w1 ⟨rfl, ⟨nd1, rfl⟩⟩))
 go_quiet (fail)
 go_wp2
 go_ret
 exact ⟨rfl, aF_ (aF_ HB0.out _) _⟩
theorem dC_.other (B g N : Nat) (l : List El.Nd) (op : List Int) (t : El.Tok) (va : Value) (w : World) (h : BAt w B g N l op) (hop : op.length ≤ 100000) (hl : l.length ≤ 100000) (h0 : 0 ≤ El.inner op) (h1 : El.inner op < (l.length : Int)) (hne : ¬ (bD_ l (El.inner op)).f1 = t.f1) :
 Calls Tryz.prog 26 #[.pointer (some ⟨g, 0, none⟩), .agg #[.int .i64 t.f0, .string t.f1, .string t.f2, va, .bool t.f4]] w fun e w' => e = .returned (.int .i64 6) ∧ Below w.heap.size w w' := by
 obtain ⟨W, hW⟩ : ∃ W, W = w.alloc (.cells #[.int .i64 t.f0, .string t.f1, .string t.f2, va, .bool t.f4] 45) := ⟨_, rfl⟩
 have hBW : Below w.heap.size w W := by rw [hW]; exact aH_ (Below.refl _ _) _
 have y1 : W.cell? ⟨w.heap.size, 1, none⟩ = some (.string t.f1) := by rw [hW]; exact (aC_ (heap_alloc_new w (.cells #[.int .i64 t.f0, .string t.f1, .string t.f2, va, .bool t.f4] 45)) 1).trans rfl
 have HB0 := aA_.mk hBW
 have CI := aA_.mk (fun W (hW : Below w.heap.size w W) => cE_.calls B g N l op W (h.below hW) hop)
 have hbt := h.below hBW
 obtain ⟨v1, v2, m, n, D, g1, g2, _⟩ := hbt
 obtain ⟨A1, c1, rfl⟩ := Kd.S_slice g2
 have x0 := (aC_ g1 0).trans rfl
 obtain ⟨ad, A3, c3, e_, q0, q1, _⟩ := dM_ (Kd.S_reads' g2).2.2 (El.inner op) h0 h1
 cases e_
 obtain ⟨p, hp⟩ : ∃ p, p = El.inner op := ⟨_, rfl⟩
 rw [← hp] at CI h0 h1 q0 q1 hne
 have d1 : decide (p < 0) = false := decide_eq_false (by omega)
 have p1 := eq_true h0
 have p2 := eq_true h1
 have s1 : ((bD_ l p).f1.toList == t.f1.toList) = false := by
  rw [Bool.eq_false_iff]; intro h; rw [beq_iff_eq, toList_data, toList_data] at h
  exact hne (ByteArray.ext (Array.toList_inj.1 h))
 have hu := Tryz.underlying42
 have ht := Tryz.underlying45
 have hu2 := Tryz.underlying32
 rw [hW] at x0 q0 q1 y1
 clear g1 g2 hp h hne
 go_enter Tryz.func26, Tryz.ntmps26
 rw [hW] at HB0
 clear hW hBW
 go_wp2_with (first | (go_at_call 41; (with_reducible refine (CI.out _ HB0.out).mono ?_); rintro e w1 ⟨rfl, ⟨nd1, rfl⟩⟩))
 go_quiet (fail)
 go_wp2
 go_ret
 exact ⟨rfl, aF_ (aF_ HB0.out _) _⟩
theorem dC_.yes (B g N : Nat) (l : List El.Nd) (op : List Int) (t : El.Tok) (va : Value) (w : World) (h : BAt w B g N l op) (hop : op.length ≤ 100000) (hl : l.length ≤ 100000) (h0 : 0 ≤ El.inner op) (h1 : El.inner op < (l.length : Int)) (hne : (bD_ l (El.inner op)).f1 = t.f1) :
 Calls Tryz.prog 26 #[.pointer (some ⟨g, 0, none⟩), .agg #[.int .i64 t.f0, .string t.f1, .string t.f2, va, .bool t.f4]] w fun e w' => e = .returned (.int .i64 0) ∧ BAt w' B g w'.heap.size l op.dropLast ∧ Below B w w' := by
 have hop0 : op.length ≠ 0 := fun he => by
  rw [List.eq_nil_of_length_eq_zero he] at h0
  exact absurd h0 (by decide)
 obtain ⟨W, hW⟩ : ∃ W, W = w.alloc (.cells #[.int .i64 t.f0, .string t.f1, .string t.f2, va, .bool t.f4] 45) := ⟨_, rfl⟩
 have hBW : Below w.heap.size w W := by rw [hW]; exact aH_ (Below.refl _ _) _
 have y1 : W.cell? ⟨w.heap.size, 1, none⟩ = some (.string t.f1) := by rw [hW]; exact (aC_ (heap_alloc_new w (.cells #[.int .i64 t.f0, .string t.f1, .string t.f2, va, .bool t.f4] 45)) 1).trans rfl
 have HB0 := aA_.mk hBW
 have HBB := aA_.mk (hBW.mono (Nat.le_of_lt (Nat.lt_of_le_of_lt h.ge.1 h.ge.2.1)))
 have CI := aA_.mk (fun W (hW : Below w.heap.size w W) => cE_.calls B g N l op W (h.below hW) hop)
 have hbt := h.below hBW
 obtain ⟨v1, v2, m, n, D, g1, g2, g3, g4, g5, g6, g7, g8, g9⟩ := hbt
 obtain ⟨A1, c1, rfl⟩ := Kd.S_slice g2
 obtain ⟨g2_, c2, rfl, _⟩ := Kd.R_form g3 (by omega)
 have hc2 := (Kd.R_reads' g3).2.1
 have G1 := aA_.mk g1
 have G2 := aA_.mk g2
 have G3 := aA_.mk g3
 have G4 := aA_.mk g4
 have HH := Lib.hid (show n ≤ l.length ∧ El.MapIs D l ∧ B ≤ g ∧ B ≤ m ∧ 0 < B from ⟨g5, g6, g7, g8, g9⟩)
 have x0 := (aC_ g1 0).trans rfl
 have x1 := (aC_ g1 1).trans rfl
 have f1 := aE_ g1 1
 obtain ⟨ad, A3, c3, e_, q0, q1, _⟩ := dM_ (Kd.S_reads' g2).2.2 (El.inner op) h0 h1
 cases e_
 obtain ⟨p, hp⟩ : ∃ p, p = El.inner op := ⟨_, rfl⟩
 rw [← hp] at CI h0 h1 q0 q1 hne
 have d1 : decide (p < 0) = false := decide_eq_false (by omega)
 have p1 := eq_true h0
 have p2 := eq_true h1
 have s1 : ((bD_ l p).f1.toList == t.f1.toList) = true := by rw [hne, beq_self_eq_true]
 have ew : wrap64 ((op.length : Int) - 1) = (op.length : Int) - 1 := by unfold wrap64; omega
 have ew' : IntKind.i64.wrap ((op.length : Int) - 1) = (op.length : Int) - 1 := by rw [c6_]; exact ew
 have r1 := eq_true (show (0 : Int) ≤ (op.length : Int) - 1 by omega)
 have r2 := eq_true (show (op.length : Int) - 1 ≤ (c2 : Int) by omega)
 have r3 := eq_true (show op.length - 1 ≤ c2 by omega)
 have r4 : ((op.length : Int) - 1).toNat = op.length - 1 := by omega
 have r5 := eq_true (show (1 : Int) ≤ (op.length : Int) by omega)
 have r6 := eq_true (show 1 ≤ op.length by omega)
 have hc0 := eq_false (show ¬ (c2 = 0) by omega)
 have hc0' : (c2 == 0) = false := beq_eq_false_iff_ne.mpr (by omega)
 have hu := Tryz.underlying42
 have ht := Tryz.underlying45
 have hu2 := Tryz.underlying32
 have HW := Lib.hid hW
 rw [hW] at x0 x1 q0 q1 y1 f1
 clear g1 g2 g3 g4 g5 g6 g7 g8 g9 hp h hne
 go_enter Tryz.func26, Tryz.ntmps26
 rw [hW] at HB0
 clear hW hBW
 go_wp2_with (first | (go_at_call 41; (with_reducible refine (CI.out _ HB0.out).mono ?_); rintro e w1 ⟨rfl, ⟨nd1, rfl⟩⟩))
 go_quiet (fail)
 go_wp2
 obtain ⟨W2, hW2⟩ : ∃ W2, W2 = ((w.alloc (.cells #[.int .i64 t.f0, .string t.f1, .string t.f2, va, .bool t.f4] 45)).drewN nd1).drewN nq := ⟨_, rfl⟩
 rw [← hW2]
 rw [← HW.out] at hW2
 have G1 := aA_.mk (show W2.heap[g]? = some (.cells #[.slice (some ad) l.length c1, .slice (some ⟨g2_, 0, none⟩) op.length c2, .map (some m)] 42 (0, 0)) from by rw [hW2]; exact G1.out)
 have G2 := aA_.mk (show Kd.S k32 32 W2 B (fun k => k < N) (.slice (some ad) l.length c1) l from by rw [hW2]; exact Kd.S_drewN (Kd.S_drewN G2.out _) _)
 have G3 := aA_.mk (show Kd.R (Kd.int .i64) 3 W2 B (fun _ => True) (.slice (some ⟨g2_, 0, none⟩) op.length c2) op from by rw [hW2]; exact Kd.R_drewN (Kd.R_drewN G3.out _) _)
 have G4 := aA_.mk (show W2.ownsMap Tryz.prog 3 (plainElem (H := Unit) Tryz.prog 3) m n D from by rw [hW2]; exact map_at G4.out rfl)
 have HBB := aA_.mk (show Below B w W2 from by rw [hW2]; exact aF_ (aF_ HBB.out _) _)
 clear hW2 x0 x1 y1 q0 q1 f1
 have x1 := (aC_ G1.out 1).trans rfl
 have f1 := aE_ G1.out 1
 go_still_tail 14, (by kernel_rfl)
 go_wp2
 go_ret
 have P1 := c5_ G1.out 1 (.slice (some ⟨g2_, 0, none⟩) (op.length - 1) c2)
 have P2 := Kd.S_set G2.out G1.out (by decide) 1 (.slice (some ⟨g2_, 0, none⟩) (op.length - 1) c2)
 have P3 := Kd.R_set (Kd.R_take (m := op.length - 1) G3.out (by omega)) G1.out (by decide) 1 (.slice (some ⟨g2_, 0, none⟩) (op.length - 1) c2)
 have PB := HBB.out.setCell (p := ⟨g, 1, none⟩) HH.out.2.2.1 (.slice (some ⟨g2_, 0, none⟩) (op.length - 1) c2)
 have PM := World.ownsMap.setCell G4.out (a := ⟨g, 1, none⟩) (map_ne G4.out G1.out) (.slice (some ⟨g2_, 0, none⟩) (op.length - 1) c2)
 have RB : BAt (W2.setCell ⟨g, 1, none⟩ (.slice (some ⟨g2_, 0, none⟩) (op.length - 1) c2)) B g (W2.setCell ⟨g, 1, none⟩ (.slice (some ⟨g2_, 0, none⟩) (op.length - 1) c2)).heap.size l op.dropLast :=
  ⟨.slice (some ad) l.length c1, .slice (some ⟨g2_, 0, none⟩) (op.length - 1) c2, m, n, D, by simpa using P1, Kd.S_mono (Kd.S_bound P2) (fun k hk => hk.2.2.1), by rw [List.dropLast_eq_take]; exact P3, PM, HH.out.1, HH.out.2.1, HH.out.2.2⟩
 exact ⟨rfl, RB.below (b5_ (Below.refl _ _)), b5_ PB⟩
mutual
def bM_.j1 : Nat → ByteArray → Option (ByteArray)
 | 0, _ => none
 | k + 1, x0 => bM_.l1 k x0
def bM_.l1 : Nat → ByteArray → Option (ByteArray)
 | 0, _ => none
 | k + 1, x0 => if x0.toList = ([] : List UInt8) then (some x0) else (if 0 ≤ (wrap64 ((x0.size : Int) - 1)) then (if (wrap64 ((x0.size : Int) - 1)) < (x0.size : Int) then ((cL_.f (bt x0 (wrap64 ((x0.size : Int) - 1)))).bind fun t113 => (if t113 = true then (if (wrap64 ((x0.size : Int) - 1)) ≤ (x0.size : Int) then (bM_.l1 k (x0.extract 0 ((wrap64 ((x0.size : Int) - 1)) : Int).toNat)) else (none)) else (some x0))) else (none)) else (none))
def bM_.l0 : Nat → ByteArray → Option (ByteArray)
 | 0, _ => none
 | k + 1, x0 => if x0.toList = ([] : List UInt8) then (bM_.j1 k x0) else (if 0 < (x0.size : Int) then ((cL_.f (bt x0 0)).bind fun t112 => (if t112 = true then (if 1 ≤ (x0.size : Int) then (bM_.l0 k (x0.extract 1 x0.size)) else (none)) else (bM_.j1 k x0))) else (none))
end
def bM_.f (k : Nat) (a0 : ByteArray) : Option (ByteArray) := bM_.l0 k a0
theorem bM_.mono_l : ∀ k, (∀ y0, LeO (bM_.j1 k y0) (bM_.j1 (k + 1) y0)) ∧ (∀ y0, LeO (bM_.l1 k y0) (bM_.l1 (k + 1) y0)) ∧ (∀ y0, LeO (bM_.l0 k y0) (bM_.l0 (k + 1) y0))
 | 0 => ⟨fun _ r h => by simp [bM_.j1] at h, fun _ r h => by simp [bM_.l1] at h, fun _ r h => by simp [bM_.l0] at h⟩
 | k + 1 => by
  obtain ⟨ih0, ih1, ih2⟩ := bM_.mono_l k
  refine ⟨?_, ?_, ?_⟩
  ·intro y0
   unfold bM_.j1
   exact mo
  ·intro y0
   unfold bM_.l1
   exact mo
  ·intro y0
   unfold bM_.l0
   exact mo
theorem bM_.calls (k : Nat) (a0 : ByteArray) (r : ByteArray) (w : World) (hG : Glob w) (h : bM_.f k a0 = some r) :
 Calls Tryz.prog 42 #[.string a0] w fun e w' => e = .returned (.string r) ∧ aS_ w w' := by
 have HG := aA_.mk hG
 clear hG
 have H : (bM_.l0 k a0) = some r := h
 clear h
 have HC2 := aA_.mk H
 clear H
 go_enter Tryz.func42, Tryz.ntmps42
 go_upto_block 0 with (fail)
 go_cut [0] (fun v0 wc => ∃ (kq : Nat) (x0_1 : ByteArray), v0 = .string x0_1 ∧ aA_ (bM_.j1 kq x0_1 = some r) ∧ aA_ (kq ≤ k) ∧ aS_ w wc)
 case first =>
  have H := HC2.out
  clear HC2
  have H' := aA_.mk H
  clear H
  go_wp2
  go_loopg [0] k (fun kq v0 w' => ∃ (x0_1 : ByteArray), v0 = .string x0_1 ∧ aA_ (bM_.l0 kq x0_1 = some r) ∧ aA_ (kq ≤ k) ∧ aS_ w w')
  case atStart => exact ⟨(a0), cA, H', ⟨Nat.le_refl _⟩, r3b1_⟩
  clear H'
  try clear p2
  obtain ⟨x0_1, rfl, HA, HK1, ⟨m1, rfl⟩⟩ := hrel
  cases gk with
  | zero => exact absurd HA.out (by simp [bM_.l0])
  | succ k1 =>
   have H := HA.out
   clear HA
   simp only [bM_.l0] at H
   (try simp only [toList_lit] at H)
   by_cases c3 : x0_1.toList = ([] : List UInt8)
   ·rw [if_pos c3] at H
    obtain ⟨c3b0, c3b1⟩ := eqT c3
    (try (have c3b2 : x0_1.toList.isEmpty = true := by simpa using c3))
    clear c3
    (first | rw [c3b0] | rw [c3b2] | (simp only [c6_, dY_]; rw [c3b0]) | skip)
    have H' := aA_.mk H
    clear H
    go_wp2
    go_meet
    case rel => exact ⟨_, (x0_1), cA, H', ⟨by have := HK1.out; first | omega | exact Nat.le_refl _⟩, r3b1_⟩
   rw [if_neg c3] at H
   obtain ⟨c3b0, c3b1⟩ := eqF c3
   (try (have c3b2 : x0_1.toList.isEmpty = false := by simpa using c3))
   (first | rw [c3b0] | rw [c3b2] | (simp only [c6_, dY_]; rw [c3b0]) | skip)
   obtain ⟨c4, H⟩ := gp H
   have c4b0 := dT c4
   have c4b1 : decide (0 < x0_1.size) = true := decide_eq_true (by omega)
   clear c4
   replace H := bi H
   obtain ⟨t112, A60, H⟩ := H
   try dsimp only at H
   have A6 := aA_.mk A60
   clear A60
   by_cases c7 : t112 = true
   rotate_left
   ·replace c7 := Bool.eq_false_iff.mpr c7
    subst c7
    replace H : (bM_.j1 k1 x0_1) = some r := by rw [if_neg nF] at H; exact H
    have H' := aA_.mk H
    clear H
    have p5 : 0 ≤ (0 : Int) := (by omega)
    have q5 : 0 < x0_1.size := (by have : (0 : Int) < (x0_1.size : Int) := dA; omega)
    have hx5 : ∀ h : 0 < x0_1.size, ((x0_1[0]'h).toNat : Int) = bt x0_1 0 := dP_ x0_1 0
    clear p5
    have qi5 : (0 < (x0_1.size : Int)) = True := eq_true (dA)
    replace q5 := eq_true q5
    go_wp2_with (first | (go_at_call 45; (with_reducible refine (cL_.calls (bt x0_1 0) false _ ?side1 A6.out).mono ?_); (case side1 => exact Glob.drawn HG.out (r3b1_)); rintro e w' ⟨rfl, ⟨nd, rfl⟩⟩))
    go_meet
    case rel => exact ⟨_, (x0_1), cA, H', ⟨by have := HK1.out; first | omega | exact Nat.le_refl _⟩, r3b1_⟩
   subst c7
   replace H : (if 1 ≤ (x0_1.size : Int) then (bM_.l0 k1 (x0_1.extract 1 x0_1.size)) else (none)) = some r := by rw [if_pos rfl] at H; exact H
   obtain ⟨c8, H⟩ := gp H
   have c8b0 := eq_true c8
   have c8b1 := dT c8
   clear c8
   have H' := aA_.mk H
   clear H
   have p5 : 0 ≤ (0 : Int) := (by omega)
   have q5 : 0 < x0_1.size := (by have : (0 : Int) < (x0_1.size : Int) := dA; omega)
   have hx5 : ∀ h : 0 < x0_1.size, ((x0_1[0]'h).toNat : Int) = bt x0_1 0 := dP_ x0_1 0
   clear p5
   have qi5 : (0 < (x0_1.size : Int)) = True := eq_true (dA)
   replace q5 := eq_true q5
   go_wp2_with (first | (go_at_call 45; (with_reducible refine (cL_.calls (bt x0_1 0) true _ ?side1 A6.out).mono ?_); (case side1 => exact Glob.drawn HG.out (r3b1_)); rintro e w' ⟨rfl, ⟨nd, rfl⟩⟩))
   go_roundg k1
   case measure => have := HK1.out; omega
   case rel => exact ⟨(x0_1.extract 1 x0_1.size), cA, H', ⟨by have := HK1.out; omega⟩, r3b1_⟩
 clear HC2
 try clear p2
 try clear c3
 try clear c3b0
 try clear c3b1
 try clear c3b2
 try clear c4
 try clear c4b0
 try clear c4b1
 try clear p5
 try clear q5
 try clear hx5
 try clear qi5
 try clear c7
 try clear c8
 try clear c8b0
 try clear c8b1
 try clear p2
 try clear p5
 try clear q5
 obtain ⟨kq, x0_1, rfl, HA, HJ1, ⟨mc1, rfl⟩⟩ := hcut
 cases kq with
 | zero => exact absurd HA.out (by simp [bM_.j1])
 | succ kj1 =>
  have H := HA.out
  clear HA
  simp only [bM_.j1] at H
  (try simp only [toList_lit] at H)
  have H' := aA_.mk H
  clear H
  go_wp2
  go_loopg [0] kj1 (fun kq v0 w' => ∃ (x0_2 : ByteArray), v0 = .string x0_2 ∧ aA_ (bM_.l1 kq x0_2 = some r) ∧ aA_ (kq ≤ kj1) ∧ aS_ w w')
  case atStart => exact ⟨(x0_1), cA, H', ⟨Nat.le_refl _⟩, r3b1_⟩
  clear H'
  try clear c1
  try clear p2
  try clear c3
  try clear c3b0
  try clear c3b1
  try clear c3b2
  try clear c4
  try clear c4b0
  try clear c4b1
  try clear p5
  try clear q5
  try clear hx5
  try clear qi5
  try clear c7
  try clear c8
  try clear c8b0
  try clear c8b1
  try clear p2
  try clear p5
  try clear q5
  obtain ⟨x0_2, rfl, HA, HK2, ⟨m2, rfl⟩⟩ := hrel
  cases gk with
  | zero => exact absurd HA.out (by simp [bM_.l1])
  | succ k2 =>
   have H := HA.out
   clear HA
   simp only [bM_.l1] at H
   (try simp only [toList_lit] at H)
   by_cases c9 : x0_2.toList = ([] : List UInt8)
   ·rw [if_pos c9] at H
    obtain ⟨c9b0, c9b1⟩ := eqT c9
    (try (have c9b2 : x0_2.toList.isEmpty = true := by simpa using c9))
    clear c9
    obtain rfl := Option.some.inj H
    go_wp2
    go_ret
    exact ⟨by first | rfl | (simp; done) | (simp [*]; done), r3b1_⟩
   rw [if_neg c9] at H
   obtain ⟨c9b0, c9b1⟩ := eqF c9
   (try (have c9b2 : x0_2.toList.isEmpty = false := by simpa using c9))
   obtain ⟨ji10, hji10⟩ : ∃ j_ : Int, (wrap64 ((x0_2.size : Int) - 1)) = j_ := ⟨_, rfl⟩
   rw [hji10] at H
   have hji10w : (IntKind.i64.wrap ((x0_2.size : Int) - 1)) = ji10 := (c6_ _).trans hji10
   obtain ⟨c11, H⟩ := gp H
   have c11b0 := dT c11
   clear c11
   obtain ⟨c12, H⟩ := gp H
   have c12b0 := dT c12
   clear c12
   replace H := bi H
   obtain ⟨t113, A140, H⟩ := H
   try dsimp only at H
   have A14 := aA_.mk A140
   clear A140
   by_cases c15 : t113 = true
   rotate_left
   ·replace c15 := Bool.eq_false_iff.mpr c15
    subst c15
    replace H : (some x0_2) = some r := by rw [if_neg nF] at H; exact H
    obtain rfl := Option.some.inj H
    have p13 : 0 ≤ ((ji10) : Int) := dA
    have q13 : (ji10) < (x0_2.size : Int) := dA
    have hx13 := dP_ x0_2 (ji10)
    replace p13 := eq_true p13
    replace q13 := eq_true q13
    go_wp2_with (first | (go_at_call 45; (with_reducible refine (cL_.calls (bt x0_2 (ji10)) false _ ?side1 A14.out).mono ?_); (case side1 => exact Glob.drawn HG.out (r3b1_)); rintro e w' ⟨rfl, ⟨nd, rfl⟩⟩))
    go_ret
    exact ⟨by first | rfl | (simp; done) | (simp only [← hji10] <;> (first | rfl | simp)) | (simp [*]; done), r3b1_⟩
   subst c15
   replace H : (if (ji10) ≤ (x0_2.size : Int) then (bM_.l1 k2 (x0_2.extract 0 ((ji10) : Int).toNat)) else (none)) = some r := by rw [if_pos rfl] at H; exact H
   have c16b0 := eq_true (dA : 0 ≤ (ji10))
   obtain ⟨c17, H⟩ := gp H
   have c17b0 := eq_true c17
   have c17b1 := dT c17
   clear c17
   have H' := aA_.mk H
   clear H
   have p13 : 0 ≤ ((ji10) : Int) := dA
   have q13 : (ji10) < (x0_2.size : Int) := dA
   have hx13 := dP_ x0_2 (ji10)
   replace p13 := eq_true p13
   replace q13 := eq_true q13
   go_wp2_with (first | (go_at_call 45; (with_reducible refine (cL_.calls (bt x0_2 (ji10)) true _ ?side1 A14.out).mono ?_); (case side1 => exact Glob.drawn HG.out (r3b1_)); rintro e w' ⟨rfl, ⟨nd, rfl⟩⟩))
   go_roundg k2
   case measure => have := HJ1.out; have := HK2.out; omega
   case rel => exact ⟨(x0_2.extract 0 ((ji10) : Int).toNat), (by first | rfl | (simp; done) | (simp only [← hji10] <;> (first | rfl | simp)) | (simp [*]; done)), H', ⟨by have := HJ1.out; have := HK2.out; omega⟩, r3b1_⟩
theorem space_told (c : UInt8) : cL_.f (c.toNat : Int) = some (Tk.space c) := Tk.bytes_all (by kernel_rfl) c
theorem bs_nil_eq (l : List UInt8) : ((Tk.bs l).toList = ([] : List UInt8)) = (l = []) := by rw [toList_data]; rfl
theorem bs_ext {x : ByteArray} {l : List UInt8} (h : x.data.toList = l) : x = Tk.bs l := by subst h; exact (bs_data x).symm
theorem trim_right : ∀ (n : Nat) (l : List UInt8), l.length = n → l.length ≤ 1000000000 → ∃ k r, bM_.l1 k (Tk.bs l) = some r ∧ r.toList.isEmpty = l.all Tk.space := by
 intro n
 induction n with
 | zero =>
  intro l h _
  obtain rfl := List.eq_nil_of_length_eq_zero h
  exact ⟨1, Tk.bs [], by rw [bM_.l1, if_pos (by rw [bs_nil_eq])], by rw [toList_data]; rfl⟩
 | succ n ih =>
  intro l h hl
  have hne : l ≠ [] := fun he => by rw [he] at h; cases h
  have hs := bV_ l
  obtain ⟨m, c, rfl⟩ : ∃ m c, l = m ++ [c] := ⟨l.dropLast, l.getLast hne, (List.dropLast_concat_getLast hne).symm⟩
  rw [List.length_append, List.length_singleton] at h hs hl
  have hw : wrap64 (((Tk.bs (m ++ [c])).size : Int) - 1) = (m.length : Int) := by rw [hs]; unfold wrap64; omega
  have hb : bt (Tk.bs (m ++ [c])) (m.length : Int) = (c.toNat : Int) := by rw [bs_bt (m ++ [c]) m.length (by simp)]; simp
  by_cases hc : Tk.space c = true
  rotate_left
  ·refine ⟨1, Tk.bs (m ++ [c]), ?_, ?_⟩
   ·rw [bM_.l1, if_neg (by rw [bs_nil_eq]; exact hne), hw, if_pos (by omega), if_pos (by rw [hs]; omega), hb, space_told, Option.bind_some, if_neg hc]
   ·rw [toList_data, List.all_append]
    have : Tk.space c = false := Bool.eq_false_iff.2 hc
    simp [Tk.bs, this]
  obtain ⟨k, r, hk, hr⟩ := ih m (by omega) (by omega)
  refine ⟨k + 1, r, ?_, by rw [hr, List.all_append]; simp [hc]⟩
  rw [bM_.l1, if_neg (by rw [bs_nil_eq]; exact hne), hw, if_pos (by omega), if_pos (by rw [hs]; omega), hb, space_told, hc, Option.bind_some, if_pos rfl, if_pos (by rw [hs]; omega)]
  have e : (Tk.bs (m ++ [c])).extract 0 ((m.length : Int)).toNat = Tk.bs m := by
   apply bs_ext
   rw [Int.toNat_natCast]
   simp [Tk.bs, ByteArray.data_extract]
  rw [e]; exact hk
theorem trim_left : ∀ (l : List UInt8), l.length ≤ 1000000000 → ∃ k r, bM_.l0 k (Tk.bs l) = some r ∧ r.toList.isEmpty = l.all Tk.space := by
 intro l
 induction l with
 | nil =>
  intro _
  obtain ⟨k, r, hk, hr⟩ := trim_right 0 [] rfl (by simp)
  exact ⟨k + 2, r, by rw [bM_.l0, if_pos (by rw [bs_nil_eq]), bM_.j1]; exact hk, hr⟩
 | cons c l ih =>
  intro hl
  have hs := bV_ (c :: l)
  rw [List.length_cons] at hs hl
  have hb : bt (Tk.bs (c :: l)) 0 = (c.toNat : Int) := by have := bs_bt (c :: l) 0 (by simp); simpa using this
  by_cases hc : Tk.space c = true
  rotate_left
  ·obtain ⟨k, r, hk, hr⟩ := trim_right _ (c :: l) rfl (by rw [List.length_cons]; omega)
   refine ⟨k + 2, r, ?_, hr⟩
   rw [bM_.l0, if_neg (by rw [bs_nil_eq]; simp), if_pos (by rw [hs]; omega), hb, space_told, Option.bind_some, if_neg hc, bM_.j1]
   exact hk
  obtain ⟨k, r, hk, hr⟩ := ih (by omega)
  refine ⟨k + 1, r, ?_, by rw [hr, List.all_cons, hc, Bool.true_and]⟩
  rw [bM_.l0, if_neg (by rw [bs_nil_eq]; simp), if_pos (by rw [hs]; omega), hb, space_told, hc, Option.bind_some, if_pos rfl, if_pos (by rw [hs]; omega)]
  have e : (Tk.bs (c :: l)).extract 1 (Tk.bs (c :: l)).size = Tk.bs l := by
   apply bs_ext
   rw [hs]
   simp [Tk.bs, ByteArray.data_extract]
  rw [e]; exact hk
theorem trim_blank (s : ByteArray) (hs : s.size ≤ 1000000000) : ∃ k r, bM_.f k s = some r ∧ r.toList.isEmpty = El.blank s := by
 have e : s = Tk.bs s.data.toList := (bs_data s).symm
 have hz := bV_ s.data.toList
 rw [← e] at hz
 obtain ⟨k, r, hk, hr⟩ := trim_left s.data.toList (by omega)
 rw [← e] at hk
 exact ⟨k, r, hk, hr⟩
theorem zeroInt (w : World) : (zeroValue 3).run Tryz.prog w = .ok (.int .i64 0) w := by kernel_rfl
theorem look_told {m n : Nat} {D : DataW Unit} {w : World} {l : List El.Nd} (hm : w.ownsMap Tryz.prog 3 (plainElem (H := Unit) Tryz.prog 3) m n D) (hmi : El.MapIs D l) (p : Int) (hp : (Lit.int .i64 p).wf = true) :
 ∃ c : Int, (∀ W : World, W.heap = w.heap → (Instr.lookup 40 (.map (some m)) (.int .i64 p) true).run Tryz.prog W = .ok (.tuple #[.int .i64 c, .bool (El.lastI l p).isSome]) W) ∧ ∀ k, El.lastI l p = some k → c = (k : Int) := by
 have one : ∀ W : World, W.heap = w.heap → ∃ c : Int, (Instr.lookup 40 (.map (some m)) (.int .i64 p) true).run Tryz.prog W = .ok (.tuple #[.int .i64 c, .bool (El.lastI l p).isSome]) W ∧ D.atKey (.int .i64 p) (.lit (.int .i64 0)) = .lit (.int .i64 c) := by
  intro W hW
  obtain ⟨v, ps, hrun, hv⟩ := (map_at hm (w1 := W) (by rw [hW])).look_ok (Maps.int_keyed Tryz.underlying3) Tryz.underlying40 (zeroInt W) (plainElem_int Tryz.underlying3 (by decide)) (Maps.keyOf_int_mk Tryz.underlying3 hp)
  obtain ⟨c, rfl, hc, _⟩ := plainElem_int_inv Tryz.underlying3 hv
  rw [(hmi p hp).1] at hrun
  exact ⟨c, hrun, congrArg Prod.fst hc⟩
 obtain ⟨c, _, hat⟩ := one w rfl
 refine ⟨c, fun W hW => ?_, fun k hk => ?_⟩
 ·obtain ⟨c', hrun, hat'⟩ := one W hW
  rw [hat] at hat'
  injection hat' with h3
  injection h3 with _ h3
  rw [h3]; exact hrun
 ·rw [(hmi p hp).2 k hk] at hat
  injection hat with h3
  injection h3 with _ h3
  exact h3.symm
theorem cF_.out (B g N : Nat) (l : List El.Nd) (op : List Int) (s : ByteArray) (r : Int) (w : World) (h : BAt w B g N l op) (hG : Glob w) (hop : op.length ≤ 100000) (hs : s.size ≤ 1000000000) (hneg : El.inner op < 0) (hr : r = if El.blank s = true then 0 else 6) :
 Calls Tryz.prog 27 #[.pointer (some ⟨g, 0, none⟩), .string s] w fun e w' => e = .returned (.int .i64 r) ∧ Below w.heap.size w w' := by
 have CI := aA_.mk (fun W (hW : Below w.heap.size w W) => cE_.calls B g N l op W (h.below hW) hop)
 obtain ⟨p, hp⟩ : ∃ p, p = El.inner op := ⟨_, rfl⟩
 rw [← hp] at CI hneg
 have d1 : decide (p < 0) = true := decide_eq_true hneg
 obtain ⟨k, x, hk, hx⟩ := trim_blank s hs
 have HK := aA_.mk hk
 have HG := aA_.mk hG
 have HR := Lib.hid hr
 obtain ⟨b, hb⟩ : ∃ b, b = El.blank s := ⟨_, rfl⟩
 rw [← hb] at hx
 have HBL := Lib.hid hb
 clear h hp hk hG hr hb
 go_enter Tryz.func27, Tryz.ntmps27
 cases b with
 | true =>
  go_wp2_with (first | (go_at_call 41; (with_reducible refine (CI.out _ (Below.refl _ _)).mono ?_); rintro e w1 ⟨rfl, ⟨nd1, rfl⟩⟩) | (go_at_call 42; (with_reducible refine (bM_.calls k s x _ (Glob.drawn HG.out ⟨_, rfl⟩) HK.out).mono ?_); rintro e w2 ⟨rfl, ⟨nd2, rfl⟩⟩))
  go_ret
  exact ⟨by rw [HR.out, ← HBL.out, if_pos rfl]; rfl, aF_ (Below.refl _ _) _⟩
 | false =>
  go_wp2_with (first | (go_at_call 41; (with_reducible refine (CI.out _ (Below.refl _ _)).mono ?_); rintro e w1 ⟨rfl, ⟨nd1, rfl⟩⟩) | (go_at_call 42; (with_reducible refine (bM_.calls k s x _ (Glob.drawn HG.out ⟨_, rfl⟩) HK.out).mono ?_); rintro e w2 ⟨rfl, ⟨nd2, rfl⟩⟩))
  go_ret
  exact ⟨by rw [HR.out, ← HBL.out]; rfl, aF_ (Below.refl _ _) _⟩
theorem cF_.same (B g N : Nat) (l : List El.Nd) (op : List Int) (s : ByteArray) (w : World) (h : BAt w B g N l op) (hop : op.length ≤ 100000) (h0 : 0 ≤ El.inner op) (hs : s = El.nul) :
 Calls Tryz.prog 27 #[.pointer (some ⟨g, 0, none⟩), .string s] w fun e w' => e = .returned (.int .i64 0) ∧ Below w.heap.size w w' := by
 have CI := aA_.mk (fun W (hW : Below w.heap.size w W) => cE_.calls B g N l op W (h.below hW) hop)
 obtain ⟨p, hp⟩ : ∃ p, p = El.inner op := ⟨_, rfl⟩
 rw [← hp] at CI h0
 have d1 : decide (p < 0) = false := decide_eq_false (by omega)
 have s1 := cY_ s
 rw [decide_eq_true hs] at s1
 clear h hp hs
 go_enter Tryz.func27, Tryz.ntmps27
 go_wp2_with (first | (go_at_call 41; (with_reducible refine (CI.out _ (Below.refl _ _)).mono ?_); rintro e w1 ⟨rfl, ⟨nd1, rfl⟩⟩))
 go_ret
 exact ⟨rfl, aF_ (Below.refl _ _) _⟩
theorem cF_.putfull (B g N : Nat) (l : List El.Nd) (op : List Int) (s : ByteArray) (w : World) (h : BAt w B g N l op) (hop : op.length ≤ 100000) (h0 : 0 ≤ El.inner op) (h1 : El.inner op < (l.length : Int)) (hs : s ≠ El.nul) (hnew : ∀ k, El.lastI l (El.inner op) = some k → ¬ (bD_ l (k : Int)).f1 = El.nul) (hl : 2000 ≤ l.length) (hl2 : l.length ≤ 100000) :
 Calls Tryz.prog 27 #[.pointer (some ⟨g, 0, none⟩), .string s] w fun e w' => e = .returned (.int .i64 3) ∧ Below w.heap.size w w' := by
 have H := aA_.mk h
 have CI := aA_.mk (fun W (hW : Below w.heap.size w W) => cE_.calls B g N l op W (h.below hW) hop)
 obtain ⟨v1, v2, m, n, D, g1, g2, g3, g4, g5, g6, _⟩ := h
 obtain ⟨A1, c1, rfl⟩ := Kd.S_slice g2
 obtain ⟨p, hp⟩ : ∃ p, p = El.inner op := ⟨_, rfl⟩
 have x0 := (aC_ g1 0).trans rfl
 have x2 := (aC_ g1 2).trans rfl
 have G1 := aA_.mk g1
 have G2 := aA_.mk g2
 have HP := Lib.hid hp
 rw [← hp] at CI h0 h1 hnew
 obtain ⟨c, hrun, hck⟩ := look_told g4 g6 p (int_wf p (by omega) (by omega))
 have hlk : ∀ j, (Instr.lookup 40 (.map (some m)) (.int .i64 p) true).run Tryz.prog (w.drewN j) = .ok (.tuple #[.int .i64 c, .bool (El.lastI l p).isSome]) (w.drewN j) := fun j => hrun _ rfl
 have d1 : decide (p < 0) = false := decide_eq_false (by omega)
 have s1 := cY_ s
 rw [decide_eq_false hs] at s1
 have hu := Tryz.underlying42
 have hu2 := Tryz.underlying32
 clear g1 g2 g3 g4 g5 g6 hp hs hrun
 go_enter Tryz.func27, Tryz.ntmps27
 cases hk : El.lastI l p with
 | none =>
  (try rw [hk] at hlk)
  have hlk : ∀ j, (Instr.lookup 40 (.map (some m)) (.int .i64 p) true).run Tryz.prog (w.drewN j) = .ok (.tuple #[.int .i64 c, .bool false]) (w.drewN j) := fun j => hlk j
  clear hck hnew
  go_wp2_with (first | (go_at_call 41; (with_reducible refine (CI.out _ (Below.refl _ _)).mono ?_); rintro e w1 ⟨rfl, ⟨nd1, rfl⟩⟩) | (go_at_call 39; (with_reducible refine (cJ_.full B g N l op (⟨0, (⟨#[]⟩ : ByteArray), s, []⟩ : El.Nd) _ _ (H.out.below (aF_ (Below.refl _ _) _)) hl hl2).mono ?_); rintro e w2 ⟨rfl, hb2⟩; have B2 := aA_.mk (bG_ (aF_ (Below.refl _ _) _) hb2); clear hb2))
  go_ret
  exact ⟨rfl, B2.out⟩
 | some k =>
  (try rw [hk] at hlk)
  have hc := hck k hk
  subst hc
  have hkl := El.lastI_lt l p k hk
  obtain ⟨ad, A3, c3, e_, q0, q1, _⟩ := dM_ (Kd.S_reads' G2.out).2.2 (k : Int) (by omega) (by omega)
  cases e_
  simp only [Int.toNat_natCast] at q0 q1
  have s2 := cY_ (bD_ l (k : Int)).f1
  rw [decide_eq_false (hnew k hk)] at s2
  have p1 := eq_true (show (0 : Int) ≤ (k : Int) by omega)
  have p2 := eq_true (show (k : Int) < (l.length : Int) by omega)
  have p3 := eq_true (show k < l.length by omega)
  have hlk : ∀ j, (Instr.lookup 40 (.map (some m)) (.int .i64 p) true).run Tryz.prog (w.drewN j) = .ok (.tuple #[.int .i64 (k : Int), .bool true]) (w.drewN j) := fun j => hlk j
  clear hck hnew hk hkl
  go_wp2_with (first | (go_at_call 41; (with_reducible refine (CI.out _ (Below.refl _ _)).mono ?_); rintro e w1 ⟨rfl, ⟨nd1, rfl⟩⟩) | (go_at_call 39; (with_reducible refine (cJ_.full B g N l op (⟨0, (⟨#[]⟩ : ByteArray), s, []⟩ : El.Nd) _ _ (H.out.below (aF_ (Below.refl _ _) _)) hl hl2).mono ?_); rintro e w2 ⟨rfl, hb2⟩; have B2 := aA_.mk (bG_ (aF_ (Below.refl _ _) _) hb2); clear hb2))
  go_ret
  exact ⟨rfl, B2.out⟩
theorem cF_.putroom (B g N : Nat) (l : List El.Nd) (op : List Int) (s : ByteArray) (w : World) (h : BAt w B g N l op) (hop : op.length ≤ 100000) (h0 : 0 ≤ El.inner op) (h1 : El.inner op < (l.length : Int)) (hs : s ≠ El.nul) (hnew : ∀ k, El.lastI l (El.inner op) = some k → ¬ (bD_ l (k : Int)).f1 = El.nul) (hl : l.length < 2000) (hN : N ≤ w.heap.size) (hin : ∀ i ∈ op, 0 ≤ i ∧ i < (l.length : Int)) :
 Calls Tryz.prog 27 #[.pointer (some ⟨g, 0, none⟩), .string s] w fun e w' => e = .returned (.int .i64 0) ∧ BAt w' B g w'.heap.size (l ++ [⟨El.inner op, El.nul, s, []⟩]) op ∧ Below B w w' := by
 have hN' : ∀ j, N ≤ (w.drewN j).heap.size := fun _ => hN
 have H := aA_.mk h
 have CI := aA_.mk (fun W (hW : Below w.heap.size w W) => cE_.calls B g N l op W (h.below hW) hop)
 obtain ⟨v1, v2, m, n, D, g1, g2, g3, g4, g5, g6, _⟩ := h
 obtain ⟨A1, c1, rfl⟩ := Kd.S_slice g2
 obtain ⟨p, hp⟩ : ∃ p, p = El.inner op := ⟨_, rfl⟩
 have x0 := (aC_ g1 0).trans rfl
 have x2 := (aC_ g1 2).trans rfl
 have G1 := aA_.mk g1
 have G2 := aA_.mk g2
 have HP := Lib.hid hp
 rw [← hp] at CI h0 h1 hnew
 obtain ⟨c, hrun, hck⟩ := look_told g4 g6 p (int_wf p (by omega) (by omega))
 have hlk : ∀ j, (Instr.lookup 40 (.map (some m)) (.int .i64 p) true).run Tryz.prog (w.drewN j) = .ok (.tuple #[.int .i64 c, .bool (El.lastI l p).isSome]) (w.drewN j) := fun j => hrun _ rfl
 have d1 : decide (p < 0) = false := decide_eq_false (by omega)
 have s1 := cY_ s
 rw [decide_eq_false hs] at s1
 have hu := Tryz.underlying42
 have hu2 := Tryz.underlying32
 clear g1 g2 g3 g4 g5 g6 hp hs hrun
 go_enter Tryz.func27, Tryz.ntmps27
 cases hk : El.lastI l p with
 | none =>
  (try rw [hk] at hlk)
  have hlk : ∀ j, (Instr.lookup 40 (.map (some m)) (.int .i64 p) true).run Tryz.prog (w.drewN j) = .ok (.tuple #[.int .i64 c, .bool false]) (w.drewN j) := fun j => hlk j
  clear hck hnew
  go_wp2_with (first | (go_at_call 41; (with_reducible refine (CI.out _ (Below.refl _ _)).mono ?_); rintro e w1 ⟨rfl, ⟨nd1, rfl⟩⟩) | (go_at_call 39; (with_reducible refine (cJ_.room B g N l op (⟨0, (⟨#[]⟩ : ByteArray), s, []⟩ : El.Nd) (.slice none 0 0) _ (H.out.below (aF_ (Below.refl _ _) _)) (hN' _) (Kd.R_nil _ _ _ _ _) hl hop hin).mono ?_); rintro e w2 ⟨rfl, hbt, hb2, _⟩; have B2 := aA_.mk (show Below B w w2 from (aF_ (Below.refl B w) _).trans hb2); have T2 := aA_.mk hbt; clear hb2 hbt))
  go_ret
  exact ⟨rfl, T2.out, B2.out⟩
 | some k =>
  (try rw [hk] at hlk)
  have hc := hck k hk
  subst hc
  have hkl := El.lastI_lt l p k hk
  obtain ⟨ad, A3, c3, e_, q0, q1, _⟩ := dM_ (Kd.S_reads' G2.out).2.2 (k : Int) (by omega) (by omega)
  cases e_
  simp only [Int.toNat_natCast] at q0 q1
  have s2 := cY_ (bD_ l (k : Int)).f1
  rw [decide_eq_false (hnew k hk)] at s2
  have p1 := eq_true (show (0 : Int) ≤ (k : Int) by omega)
  have p2 := eq_true (show (k : Int) < (l.length : Int) by omega)
  have p3 := eq_true (show k < l.length by omega)
  have hlk : ∀ j, (Instr.lookup 40 (.map (some m)) (.int .i64 p) true).run Tryz.prog (w.drewN j) = .ok (.tuple #[.int .i64 (k : Int), .bool true]) (w.drewN j) := fun j => hlk j
  clear hck hnew hk hkl
  go_wp2_with (first | (go_at_call 41; (with_reducible refine (CI.out _ (Below.refl _ _)).mono ?_); rintro e w1 ⟨rfl, ⟨nd1, rfl⟩⟩) | (go_at_call 39; (with_reducible refine (cJ_.room B g N l op (⟨0, (⟨#[]⟩ : ByteArray), s, []⟩ : El.Nd) (.slice none 0 0) _ (H.out.below (aF_ (Below.refl _ _) _)) (hN' _) (Kd.R_nil _ _ _ _ _) hl hop hin).mono ?_); rintro e w2 ⟨rfl, hbt, hb2, _⟩; have B2 := aA_.mk (show Below B w w2 from (aF_ (Below.refl B w) _).trans hb2); have T2 := aA_.mk hbt; clear hb2 hbt))
  go_ret
  exact ⟨rfl, T2.out, B2.out⟩
theorem cF_.add (B g N : Nat) (l : List El.Nd) (op : List Int) (s : ByteArray) (k : Nat) (w : World) (h : BAt w B g N l op) (hop : op.length ≤ 100000) (h0 : 0 ≤ El.inner op) (h1 : El.inner op < (l.length : Int)) (hl2 : l.length ≤ 100000) (hs : s ≠ El.nul) (hk : El.lastI l (El.inner op) = some k) (hname : (bD_ l (k : Int)).f1 = El.nul) (hsz : (bD_ l (k : Int)).f2.size + s.size ≤ 1000000000000) :
 Calls Tryz.prog 27 #[.pointer (some ⟨g, 0, none⟩), .string s] w fun e w' => e = .returned (.int .i64 0) ∧ BAt w' B g w'.heap.size (l.set k { bD_ l (k : Int) with f2 := (bD_ l (k : Int)).f2 ++ s }) op ∧ Below B w w' := by
 have hkl := El.lastI_lt l _ k hk
 have CI := aA_.mk (fun W (hW : Below w.heap.size w W) => cE_.calls B g N l op W (h.below hW) hop)
 obtain ⟨v1, v2, m, n, D, g1, g2, g3, g4, g5, g6, g7, g8, g9⟩ := h
 obtain ⟨gn, c1, rfl, hgn1, hgn2, _⟩ := Kd.S_form g2 (by omega)
 obtain ⟨p, hp⟩ : ∃ p, p = El.inner op := ⟨_, rfl⟩
 obtain ⟨x, hx⟩ : ∃ x, x = bD_ l (k : Int) := ⟨_, rfl⟩
 rw [← hx] at hname hsz ⊢
 rw [← hp] at CI h0 h1 hk
 have x0 := (aC_ g1 0).trans rfl
 have x2 := (aC_ g1 2).trans rfl
 obtain ⟨c, hrun, hck⟩ := look_told g4 g6 p (int_wf p (by omega) (by omega))
 have hc := hck k hk
 subst hc
 rw [hk] at hrun
 have hlk : ∀ j, (Instr.lookup 40 (.map (some m)) (.int .i64 p) true).run Tryz.prog (w.drewN j) = .ok (.tuple #[.int .i64 (k : Int), .bool true]) (w.drewN j) := fun j => hrun _ rfl
 obtain ⟨oki, cc, hcl, hM, hcc, hfr, hoki, hH⟩ := Kd.S_elem g2 El.zn (k : Int) (by omega) (by omega)
 have hx' : l.getD ((k : Int)).toNat El.zn = x := hx.symm
 rw [hx'] at hM
 obtain ⟨v3, rfl, hv3⟩ := k32_openM hM
 have q1 : w.cell? ⟨gn, k * 4 + 1, none⟩ = some (.string x.f1) := hcc 1 _ rfl
 have q2 : w.cell? ⟨gn, k * 4 + 2, none⟩ = some (.string x.f2) := hcc 2 _ rfl
 have qf : w.frozen? ⟨gn, k * 4 + 2, none⟩ = false := hfr 2
 have d1 : decide (p < 0) = false := decide_eq_false (by omega)
 have s1 := cY_ s
 rw [decide_eq_false hs] at s1
 have s2 := cY_ x.f1
 rw [decide_eq_true hname] at s2
 have p1 := eq_true (show (0 : Int) ≤ (k : Int) by omega)
 have p2 := eq_true (show (k : Int) < (l.length : Int) by omega)
 have p3 := eq_true (show k < l.length by omega)
 have z1 := eq_false (show ¬ 9223372036854775807 < x.f2.size + s.size by omega)
 have z2 := eq_true (show x.f2.size + s.size ≤ 9223372036854775807 by omega)
 have G1 := aA_.mk g1
 have G2 := aA_.mk g2
 have G3 := aA_.mk g3
 have G4 := aA_.mk g4
 have HH := Lib.hid (show n ≤ l.length ∧ El.MapIs D l ∧ B ≤ g ∧ B ≤ m ∧ 0 < B from ⟨g5, g6, g7, g8, g9⟩)
 have HX := Lib.hid (show x = bD_ l (k : Int) ∧ k < l.length ∧ B ≤ gn from ⟨hx, hkl, hgn1⟩)
 have HM := aA_.mk (And.intro hH hv3)
 have HOK := Lib.hid hoki
 have hu := Tryz.underlying42
 have hu2 := Tryz.underlying32
 clear g1 g2 g3 g4 g5 g6 g7 g8 g9 hp hs hk hname hsz hx hx' hM hcc hfr hoki hH hv3 hrun hck hkl hcl hgn1 hgn2
 go_enter Tryz.func27, Tryz.ntmps27
 go_wp2_with (first | (go_at_call 41; (with_reducible refine (CI.out _ (Below.refl _ _)).mono ?_); rintro e w1 ⟨rfl, ⟨nd1, rfl⟩⟩))
 go_ret
 obtain ⟨W, hW⟩ : ∃ W, W = w.drewN nd1 := ⟨_, rfl⟩
 rw [← hW]
 have k1 : W.heap[g]? = some (.cells #[.slice (some ⟨gn, 0, none⟩) l.length c1, v2, .map (some m)] 42 (0, 0)) := by rw [hW]; exact G1.out
 have k2 : Kd.S k32 32 W B (fun k => k < N) (.slice (some ⟨gn, 0, none⟩) l.length c1) l := by rw [hW]; exact Kd.S_drewN G2.out _
 have k3 : Kd.R (Kd.int .i64) 3 W B (fun _ => True) v2 op := by rw [hW]; exact Kd.R_drewN G3.out _
 have k4 : W.ownsMap Tryz.prog 3 (plainElem (H := Unit) Tryz.prog 3) m n D := by rw [hW]; exact map_at G4.out rfl
 have kH : Kd.H k32 32 W B (fun k => k < N) (.slice (some ⟨gn, 0, none⟩) l.length c1) l (k : Int) oki [.int .i64 x.f0, .string x.f1, .string x.f2, v3] := by rw [hW]; exact Kd.H_drewN HM.out.1 _
 have kv : Kd.R k53 53 W B oki v3 x.f3 := by rw [hW]; exact Kd.R_drewN HM.out.2 _
 have kB : Below B w W := by rw [hW]; exact aF_ (Below.refl _ _) _
 clear hW
 have hkl := HX.out.2.1
 obtain ⟨r1, r2⟩ := Kd.S_seg (okg := fun _ => False) (okp := oki) (Kd.H_mono (ok' := fun k => k < N ∧ ¬ False) kH (fun k hk => ⟨hk, fun h => h⟩)) (by omega) (by omega) (seg := [.string (x.f2 ++ s)]) (j := 2) (by show 2 + 1 ≤ 4; omega) (x' := { x with f2 := x.f2 ++ s }) (k32_mkM _ _ _ { x with f2 := x.f2 ++ s } kv) (fun k hk => .inl hk) (fun _ h => h.elim)
 have ec : W.setCells gn (((k : Int)).toNat * k32.sz + 2) [.string (x.f2 ++ s)] = W.setCell ⟨gn, k * 4 + 2, none⟩ (.string (x.f2 ++ s)) := rfl
 rw [ec] at r1 r2
 have hty := Kd.S_typed k2
 have P1 : (W.setCell ⟨gn, k * 4 + 2, none⟩ (.string (x.f2 ++ s))).heap[g]? = some (.cells #[.slice (some ⟨gn, 0, none⟩) l.length c1, v2, .map (some m)] 42 (0, 0)) := b6_ k1 r2 (Kd.S_ne k2 k1 (by decide))
 have P3 := Kd.R_over' (v := .slice (some ⟨gn, 0, none⟩) l.length c1) k3 hty (by decide) r2
 have P4 := World.ownsMap.kept k4 r2 (map_off k4 k2)
 have PB := kB.setCell (p := ⟨gn, k * 4 + 2, none⟩) HX.out.2.2 (.string (x.f2 ++ s))
 have hH := HH.out
 refine ⟨rfl, ⟨.slice (some ⟨gn, 0, none⟩) l.length c1, v2, m, n, D, P1, Kd.S_mono (Kd.S_bound r1) (fun k hk => hk.2.2.1), P3, P4, by rw [List.length_set]; exact hH.1, ?_, hH.2.2.1, hH.2.2.2.1, hH.2.2.2.2⟩, PB⟩
 refine El.MapIs.set hH.2.1 k _ (fun y hy => ?_)
 show x.f0 = y.f0
 rw [HX.out.1]
 unfold bD_
 rw [Int.toNat_natCast, List.getD_eq_getElem?_getD, hy]
 rfl
def Res (w w' : World) (e : Ending) (B g : Nat) (s : Except Int El.St) : Prop :=
 ∃ r : Int, e = .returned (.int .i64 r) ∧ Below B w w' ∧ ((s = .error r ∧ r ≠ 0) ∨ (r = 0 ∧ ∃ t, s = .ok t ∧ BAt w' B g w'.heap.size t.1 t.2))
def Inv (l : List El.Nd) (op : List Int) (T : Nat) : Prop := l.length ≤ 2000 ∧ op.length ≤ 20 ∧ (∀ i ∈ op, 0 ≤ i ∧ i < (l.length : Int)) ∧ ∀ n ∈ l, n.f2.size ≤ T
theorem inv_nil : Inv [] [] 0 := ⟨Nat.zero_le _, Nat.zero_le _, fun _ h => absurd h (by simp), fun _ h => absurd h (by simp)⟩
theorem inv_put {l : List El.Nd} {op : List Int} {T T' : Nat} (h : Inv l op T) (n : El.Nd) (hl : l.length < 2000) (hn : n.f2.size ≤ T') (ht : T ≤ T') : Inv (l ++ [n]) op T' := by
 obtain ⟨h1, h2, h3, h4⟩ := h
 refine ⟨by rw [List.length_append, List.length_singleton]; omega, h2, fun i hi => ?_, fun x hx => ?_⟩
 ·have := h3 i hi
  rw [List.length_append, List.length_singleton]
  omega
 ·rcases List.mem_append.1 hx with hx | hx
  ·have := h4 x hx; omega
  ·rw [List.mem_singleton] at hx; rw [hx]; exact hn
theorem inner_mem {op : List Int} (h : ¬ El.inner op < 0) : ∃ x, op.getLast? = some x ∧ El.inner op = x := by
 unfold El.inner at *
 cases hx : op.getLast? with
 | none => rw [hx] at h; exact absurd (show (-1 : Int) < 0 by omega) h
 | some x => exact ⟨x, rfl, rfl⟩
theorem inner_in {l : List El.Nd} {op : List Int} {T : Nat} (h : Inv l op T) (hi : ¬ El.inner op < 0) : 0 ≤ El.inner op ∧ El.inner op < (l.length : Int) := by
 obtain ⟨x, hx, e⟩ := inner_mem hi
 rw [e]
 exact h.2.2.1 x (List.mem_of_getLast? hx)
theorem inv_take {l : List El.Nd} {op : List Int} {T : Nat} (h : Inv l op T) (t : El.Tok) (s : El.St) (ht : El.take l op t = .ok s) : Inv s.1 s.2 (T + t.f2.size) := by
 have hm : ∀ n ∈ l, n.f2.size ≤ T + t.f2.size := fun n hn => by have := h.2.2.2 n hn; omega
 have same : Inv l op (T + t.f2.size) := ⟨h.1, h.2.1, h.2.2.1, hm⟩
 have putd : ∀ (nm tx : ByteArray) (at_ : List El.Att) (l' : List El.Nd), tx.size ≤ T + t.f2.size → El.put l op nm tx at_ = some l' → Inv l' op (T + t.f2.size) ∧ l'.length = l.length + 1 := by
  intro nm tx at_ l' htx hp
  unfold El.put at hp
  split at hp
  ·rename_i hl
   injection hp with hp
   rw [← hp]
   exact ⟨inv_put h _ hl htx (by omega), by simp⟩
  ·cases hp
 unfold El.take at ht
 split at ht
 ·injection ht with ht; rw [← ht]; exact same
 split at ht
 ·injection ht with ht; rw [← ht]; exact same
 split at ht
 ·unfold El.begin_ at ht
  split at ht
  ·cases ht
  split at ht
  ·cases ht
  split at ht
  ·cases ht
  rename_i hop
  split at ht
  ·cases ht
  ·rename_i l' hp
   injection ht with ht
   obtain ⟨h1, h2⟩ := putd _ _ _ l' (by show (0 : Nat) ≤ _; omega) hp
   rw [← ht]
   show Inv l' (if t.f4 = true then op else op ++ [(l.length : Int)]) _
   split
   ·exact h1
   ·refine ⟨h1.1, by rw [List.length_append, List.length_singleton]; omega, fun i hi => ?_, h1.2.2.2⟩
    rcases List.mem_append.1 hi with hi | hi
    ·exact h1.2.2.1 i hi
    ·rw [List.mem_singleton] at hi; rw [hi, h2]; omega
 split at ht
 ·unfold El.end_ at ht
  split at ht
  ·cases ht
  split at ht
  ·injection ht with ht
   rw [← ht]
   exact ⟨same.1, by rw [List.length_dropLast]; have := same.2.1; show op.length - 1 ≤ 20; omega, fun i hi => same.2.2.1 i (by have hi : i ∈ op.dropLast := hi; rw [List.dropLast_eq_take] at hi; exact List.mem_of_mem_take hi), hm⟩
  ·cases ht
 split at ht
 ·unfold El.text at ht
  split at ht
  ·split at ht
   ·injection ht with ht; rw [← ht]; exact same
   ·cases ht
  split at ht
  ·injection ht with ht; rw [← ht]; exact same
  split at ht
  ·rename_i k hk
   have hkl := El.lastI_lt l _ k hk
   split at ht
   ·injection ht with ht
    rw [← ht]
    refine ⟨by rw [List.length_set]; exact h.1, h.2.1, fun i hi => by rw [List.length_set]; exact h.2.2.1 i hi, fun n hn => ?_⟩
    rcases List.mem_or_eq_of_mem_set hn with hn | hn
    ·exact hm n hn
    ·rw [hn]
     show ((l.getD k El.zn).f2 ++ t.f2).size ≤ _
     rw [ByteArray.size_append]
     have : (l.getD k El.zn) ∈ l := by rw [List.getD_eq_getElem?_getD, List.getElem?_eq_getElem hkl]; exact List.getElem_mem hkl
     have := h.2.2.2 _ this
     omega
   ·split at ht
    ·cases ht
    ·rename_i l' hp
     injection ht with ht
     rw [← ht]
     exact (putd _ _ _ l' (by omega) hp).1
  ·split at ht
   ·cases ht
   ·rename_i l' hp
    injection ht with ht
    rw [← ht]
    exact (putd _ _ _ l' (by omega) hp).1
 ·cases ht
theorem begin_all (B g N : Nat) (l : List El.Nd) (op : List Int) (T : Nat) (t : El.Tok) (A3 : Option Addr) (c3 : Nat) (w : World) (h : BAt w B g N l op) (hI : Inv l op T) (hc3 : Kd.C k53 w A3 t.f3.length t.f3) (hlen : t.f3.length ≤ 1000000) :
 Calls Tryz.prog 25 #[.pointer (some ⟨g, 0, none⟩), .agg #[.int .i64 t.f0, .string t.f1, .string t.f2, .slice A3 t.f3.length c3, .bool t.f4]] w fun e w' => Res w w' e B g (El.begin_ l op t) := by
 obtain ⟨hgB, hgl, hpos⟩ := h.ge
 have hBw : B ≤ w.heap.size := Nat.le_of_lt (Nat.lt_of_le_of_lt hgB hgl)
 obtain ⟨i1, i2, i3, i4⟩ := hI
 have early := fun r hr => (c7_.early B g N l op t (.slice A3 t.f3.length c3) r w h (by omega) (by omega) hr)
 unfold El.begin_
 by_cases c1 : t.f1 = El.nul
 ·rw [if_pos c1]
  refine (early 5 (by rw [if_pos c1])).mono ?_
  rintro e w' ⟨rfl, b⟩
  exact ⟨5, rfl, b.mono hBw, .inl ⟨rfl, by decide⟩⟩
 rw [if_neg c1]
 by_cases c2 : op = [] ∧ l ≠ []
 ·rw [if_pos c2]
  refine (early 6 (by rw [if_neg c1, if_pos c2])).mono ?_
  rintro e w' ⟨rfl, b⟩
  exact ⟨6, rfl, b.mono hBw, .inl ⟨rfl, by decide⟩⟩
 rw [if_neg c2]
 by_cases c4 : 20 ≤ op.length
 ·rw [if_pos c4]
  refine (early 7 (by rw [if_neg c1, if_neg c2, if_pos c4])).mono ?_
  rintro e w' ⟨rfl, b⟩
  exact ⟨7, rfl, b.mono hBw, .inl ⟨rfl, by decide⟩⟩
 rw [if_neg c4]
 unfold El.put
 by_cases c5 : l.length < 2000
 ·rw [if_pos c5]
  refine (c7_.room B g N l op t A3 c3 w h hc3 hlen c5 (by omega) (by omega) i3 c1 c2).mono ?_
  rintro e w' ⟨rfl, hb, b⟩
  exact ⟨0, rfl, b, .inr ⟨rfl, _, rfl, hb⟩⟩
 ·rw [if_neg c5]
  refine (c7_.full B g N l op t A3 c3 w h hc3 hlen (by omega) (by omega) (by omega) i3 c1 c2).mono ?_
  rintro e w' ⟨rfl, b⟩
  exact ⟨3, rfl, b.mono hBw, .inl ⟨rfl, by decide⟩⟩
theorem end_all (B g N : Nat) (l : List El.Nd) (op : List Int) (T : Nat) (t : El.Tok) (va : Value) (w : World) (h : BAt w B g N l op) (hI : Inv l op T) :
 Calls Tryz.prog 26 #[.pointer (some ⟨g, 0, none⟩), .agg #[.int .i64 t.f0, .string t.f1, .string t.f2, va, .bool t.f4]] w fun e w' => Res w w' e B g (El.end_ l op t) := by
 obtain ⟨hgB, hgl, hpos⟩ := h.ge
 have hBw : B ≤ w.heap.size := Nat.le_of_lt (Nat.lt_of_le_of_lt hgB hgl)
 have i1 := hI.1
 have i2 := hI.2.1
 unfold El.end_
 by_cases c1 : El.inner op < 0
 ·rw [if_pos c1]
  refine (dC_.no B g N l op t va w h (by omega) (by omega) c1).mono ?_
  rintro e w' ⟨rfl, b⟩
  exact ⟨6, rfl, b.mono hBw, .inl ⟨rfl, by decide⟩⟩
 rw [if_neg c1]
 obtain ⟨p0, p1⟩ := inner_in hI c1
 by_cases c2 : (l.getD (El.inner op).toNat El.zn).f1 = t.f1
 ·rw [if_pos c2]
  refine (dC_.yes B g N l op t va w h (by omega) (by omega) p0 p1 c2).mono ?_
  rintro e w' ⟨rfl, hb, b⟩
  exact ⟨0, rfl, b, .inr ⟨rfl, _, rfl, hb⟩⟩
 ·rw [if_neg c2]
  refine (dC_.other B g N l op t va w h (by omega) (by omega) p0 p1 c2).mono ?_
  rintro e w' ⟨rfl, b⟩
  exact ⟨6, rfl, b.mono hBw, .inl ⟨rfl, by decide⟩⟩
theorem text_all (B g N : Nat) (l : List El.Nd) (op : List Int) (T : Nat) (s : ByteArray) (w : World) (h : BAt w B g N l op) (hN : N ≤ w.heap.size) (hG : Glob w) (hI : Inv l op T) (hT : T + s.size ≤ 1000000000) :
 Calls Tryz.prog 27 #[.pointer (some ⟨g, 0, none⟩), .string s] w fun e w' => Res w w' e B g (El.text l op s) := by
 obtain ⟨hgB, hgl, hpos⟩ := h.ge
 have hBw : B ≤ w.heap.size := Nat.le_of_lt (Nat.lt_of_le_of_lt hgB hgl)
 have i1 := hI.1
 have i2 := hI.2.1
 unfold El.text
 by_cases c1 : El.inner op < 0
 ·rw [if_pos c1]
  refine (cF_.out B g N l op s _ w h hG (by omega) (by omega) c1 rfl).mono ?_
  rintro e w' ⟨rfl, b⟩
  by_cases cb : El.blank s = true
  ·rw [if_pos cb, if_pos cb]
   exact ⟨0, rfl, b.mono hBw, .inr ⟨rfl, _, rfl, (h.below b).now⟩⟩
  ·rw [if_neg cb, if_neg cb]
   exact ⟨6, rfl, b.mono hBw, .inl ⟨rfl, by decide⟩⟩
 rw [if_neg c1]
 obtain ⟨p0, p1⟩ := inner_in hI c1
 by_cases c2 : s = El.nul
 ·rw [if_pos c2]
  refine (cF_.same B g N l op s w h (by omega) p0 c2).mono ?_
  rintro e w' ⟨rfl, b⟩
  exact ⟨0, rfl, b.mono hBw, .inr ⟨rfl, _, rfl, (h.below b).now⟩⟩
 rw [if_neg c2]
 have puts : (∀ k, El.lastI l (El.inner op) = some k → ¬ (bD_ l (k : Int)).f1 = El.nul) → Calls Tryz.prog 27 #[.pointer (some ⟨g, 0, none⟩), .string s] w fun e w' => Res w w' e B g (match El.put l op El.nul s [] with | none => .error 3 | some l' => .ok (l', op)) := by
  intro hnew
  unfold El.put
  by_cases c5 : l.length < 2000
  ·rw [if_pos c5]
   refine (cF_.putroom B g N l op s w h (by omega) p0 p1 c2 hnew c5 hN hI.2.2.1).mono ?_
   rintro e w' ⟨rfl, hb, b⟩
   exact ⟨0, rfl, b, .inr ⟨rfl, _, rfl, hb⟩⟩
  ·rw [if_neg c5]
   refine (cF_.putfull B g N l op s w h (by omega) p0 p1 c2 hnew (by omega) (by omega)).mono ?_
   rintro e w' ⟨rfl, b⟩
   exact ⟨3, rfl, b.mono hBw, .inl ⟨rfl, by decide⟩⟩
 cases hk : El.lastI l (El.inner op) with
 | none => exact puts (fun k h => by rw [hk] at h; cases h)
 | some k =>
  have hkl := El.lastI_lt l _ k hk
  by_cases c3 : (l.getD k El.zn).f1 = El.nul
  ·simp only [if_pos c3]
   have hm : (l.getD k El.zn) ∈ l := by rw [List.getD_eq_getElem?_getD, List.getElem?_eq_getElem hkl]; exact List.getElem_mem hkl
   have hz := hI.2.2.2 _ hm
   refine (cF_.add B g N l op s k w h (by omega) p0 p1 (by omega) c2 hk c3 (by show (l.getD k El.zn).f2.size + _ ≤ _; omega)).mono ?_
   rintro e w' ⟨rfl, hb, b⟩
   exact ⟨0, rfl, b, .inr ⟨rfl, _, rfl, hb⟩⟩
  ·simp only [if_neg c3]
   exact puts (fun k' h => by rw [hk] at h; injection h with h; rw [← h]; exact c3)
theorem element_builder_take.all (B g N : Nat) (l : List El.Nd) (op : List Int) (T : Nat) (t : El.Tok) (A3 : Option Addr) (c3 : Nat) (w : World) (h : BAt w B g N l op) (hN : N ≤ w.heap.size) (hG : Glob w) (hI : Inv l op T) (hT : T + t.f2.size ≤ 1000000000) (hc3 : Kd.C k53 w A3 t.f3.length t.f3) (hlen : t.f3.length ≤ 1000000) :
 Calls Tryz.prog 16 #[.pointer (some ⟨g, 0, none⟩), .agg #[.int .i64 t.f0, .string t.f1, .string t.f2, .slice A3 t.f3.length c3, .bool t.f4]] w fun e w' => Res w w' e B g (El.take l op t) := by
 obtain ⟨hgB, hgl, hpos⟩ := h.ge
 have hBw : B ≤ w.heap.size := Nat.le_of_lt (Nat.lt_of_le_of_lt hgB hgl)
 obtain ⟨W, hW⟩ : ∃ W, W = w.alloc (.cells #[.int .i64 t.f0, .string t.f1, .string t.f2, .slice A3 t.f3.length c3, .bool t.f4] 45) := ⟨_, rfl⟩
 have hX : W.heap[w.heap.size]? = some (.cells #[.int .i64 t.f0, .string t.f1, .string t.f2, .slice A3 t.f3.length c3, .bool t.f4] 45 (0, 0)) := by rw [hW]; exact heap_alloc_new w _
 have hBW : Below w.heap.size w W := by rw [hW]; exact aH_ (Below.refl _ _) _
 have y0 := (aC_ hX 0).trans rfl
 have y1 := (aC_ hX 1).trans rfl
 have y2 := (aC_ hX 2).trans rfl
 have y3 := (aC_ hX 3).trans rfl
 have y4 := (aC_ hX 4).trans rfl
 have hb := h.below hBW
 have hNW : N ≤ W.heap.size := Nat.le_trans hN hBW.size
 have C1 := aA_.mk (begin_all B g N l op T t A3 c3 W hb hI (Kd.C_below hc3 hBW) hlen)
 have C2 := aA_.mk (end_all B g N l op T t (.slice A3 t.f3.length c3) W hb hI)
 have C3 := aA_.mk (text_all B g N l op T t.f2 W hb hNW (hG.step hBW) hI hT)
 have HBW := aA_.mk (hBW.mono hBw)
 have HSAME := aA_.mk (show Res w W (.returned (.int .i64 0)) B g (.ok (l, op)) from ⟨0, rfl, hBW.mono hBw, .inr ⟨rfl, _, rfl, hb.now⟩⟩)
 have HBAD := aA_.mk (show Res w W (.returned (.int .i64 5)) B g (.error 5) from ⟨5, rfl, hBW.mono hBw, .inl ⟨rfl, by decide⟩⟩)
 have ht := Tryz.underlying45
 rw [hW] at C1 C2 C3 HBW y0 y1 y2 y3 y4 HSAME HBAD
 obtain ⟨kd, hkd⟩ : ∃ kd, kd = t.f0 := ⟨_, rfl⟩
 obtain ⟨ans, hans⟩ : ∃ ans, ans = El.take l op t := ⟨_, rfl⟩
 rw [← hans]
 unfold El.take at hans
 rw [← hkd] at hans C1 C2 C3 HBW y0 y1 y2 y3 y4 HSAME HBAD ⊢
 clear h hN hG hI hT hc3 hlen hb hNW hX hBW hW hgB hgl hpos hBw hkd
 have up : ∀ (V w' : World) (e : Ending) (s : Except Int El.St), Below B w V → Res V w' e B g s → Res w w' e B g s := by
  rintro V w' e s hV ⟨r, he, hb, hr⟩
  exact ⟨r, he, hV.trans hb, hr⟩
 go_enter Tryz.func16, Tryz.ntmps16
 by_cases k4 : kd = 4
 ·rw [if_pos k4] at hans
  subst k4
  rw [hans]
  have HS := HSAME.out
  go_wp2
  go_ret
  exact HS
 rw [if_neg k4] at hans
 have b4 : (kd == 4) = false := beq_eq_false_iff_ne.mpr k4
 by_cases k5 : kd = 5
 ·rw [if_pos k5] at hans
  subst k5
  rw [hans]
  have HS := HSAME.out
  go_wp2
  go_ret
  exact HS
 rw [if_neg k5] at hans
 have b5 : (kd == 5) = false := beq_eq_false_iff_ne.mpr k5
 by_cases k1 : kd = 1
 ·rw [if_pos k1] at hans
  subst k1
  rw [hans]
  go_wp2_with (first | (go_at_call 25; (with_reducible refine (C1.out).mono ?_); rintro e w2 ⟨r, rfl, hres⟩))
  go_ret
  exact up _ _ _ _ HBW.out ⟨r, rfl, hres⟩
 rw [if_neg k1] at hans
 have b1 : (kd == 1) = false := beq_eq_false_iff_ne.mpr k1
 by_cases k2 : kd = 2
 ·rw [if_pos k2] at hans
  subst k2
  rw [hans]
  go_wp2_with (first | (go_at_call 26; (with_reducible refine (C2.out).mono ?_); rintro e w2 ⟨r, rfl, hres⟩))
  go_ret
  exact up _ _ _ _ HBW.out ⟨r, rfl, hres⟩
 rw [if_neg k2] at hans
 have b2 : (kd == 2) = false := beq_eq_false_iff_ne.mpr k2
 by_cases k3 : kd = 3
 ·rw [if_pos k3] at hans
  subst k3
  rw [hans]
  go_wp2_with (first | (go_at_call 27; (with_reducible refine (C3.out).mono ?_); rintro e w2 ⟨r, rfl, hres⟩))
  go_ret
  exact up _ _ _ _ HBW.out ⟨r, rfl, hres⟩
 rw [if_neg k3] at hans
 have b3 : (kd == 3) = false := beq_eq_false_iff_ne.mpr k3
 rw [hans]
 have HS := HBAD.out
 go_wp2
 go_ret
 exact HS
def El.fits (ts : List El.Tok) : Bool := decide ((ts.map fun t => t.f2.size).sum ≤ 1000000000) && ts.all (fun t => decide (t.f3.length ≤ 1000000)) && decide (ts.length ≤ 1000000000)
def cQ_.f (l0 : List S45) : Option (List S32 × Int) := if El.fits l0 = true then some (El.tree l0) else none
theorem rd_tok (xs : List S45) (i : Nat) (h : i < xs.length) : rd_T45 xs (i : Int) = xs[i] := by
 simp [rd_T45, List.getD, h]
theorem cQ_.loop (A0 : Option Addr) (c0 : Nat) (l0 : List S45) (ans : Except Int El.St) (w : World) (hr0 : Kd.C k45 w A0 l0.length l0) (hG : Glob w) (hfit : El.fits l0 = true) (hans : El.all [] [] l0 = ans) :
 Calls Tryz.prog 5 #[.slice A0 l0.length c0] w fun e w' => Below w.heap.size w w' ∧ (∀ r, ans = .error r → e = .returned (.tuple #[.slice none 0 0, .int .i64 r])) ∧ (∀ s, ans = .ok s → if s.1 = [] ∨ s.2 ≠ [] then e = .returned (.tuple #[.slice none 0 0, .int .i64 6]) else ∃ v0_ : Value, e = .returned (.tuple #[v0_, .int .i64 0]) ∧ Kd.S k32 32 w' w.heap.size (fun _ => True) v0_ s.1) := by
 unfold El.fits at hfit
 simp only [Bool.and_eq_true, decide_eq_true_eq, List.all_eq_true] at hfit
 obtain ⟨⟨hsum, hatt⟩, hlen⟩ := hfit
 have hpos := hG.lt
 obtain ⟨POST, hPOST⟩ : ∃ POST : Ending → World → Prop, POST = fun e w' => Below w.heap.size w w' ∧ (∀ r, ans = .error r → e = .returned (.tuple #[.slice none 0 0, .int .i64 r])) ∧ (∀ s, ans = .ok s → if s.1 = [] ∨ s.2 ≠ [] then e = .returned (.tuple #[.slice none 0 0, .int .i64 6]) else ∃ v0_ : Value, e = .returned (.tuple #[v0_, .int .i64 0]) ∧ Kd.S k32 32 w' w.heap.size (fun _ => True) v0_ s.1) := ⟨_, rfl⟩
 rw [← hPOST]
 have HPO := Lib.hid hPOST
 have HSUM := Lib.hid hsum
 have HATT := Lib.hid hatt
 have HANS := aA_.mk hans
 have HR := aA_.mk hr0
 have HG := aA_.mk hG
 have hu := Tryz.underlying42
 have ht := Tryz.underlying45
 clear hPOST hsum hatt hans hr0 hG
 have hmk : (Instr.makeMap 40 none).run Tryz.prog w = .ok (.map (some w.heap.size)) (w.alloc (.map #[] 0)) := run_makeMap 40 w
 have hms : (w.alloc (.map #[] 0)).heap.size = w.heap.size + 1 := by show Array.size (Array.push _ _) = _; exact Array.size_push _
 go_enter Tryz.func5, Tryz.ntmps5
 go_wp2
 refine dJ_ 0 (by rfl) ?_
 go_wp2_with (fail)
 obtain ⟨W, hW⟩ : ∃ W, W = (w.alloc (.map #[] 0)).alloc (.cells #[.slice none 0 0, .slice none 0 0, .map (some w.heap.size)] 42) := ⟨_, rfl⟩
 obtain ⟨g, hg⟩ : ∃ g, g = w.heap.size + 1 := ⟨_, rfl⟩
 obtain ⟨B, hBe⟩ : ∃ B, B = w.heap.size := ⟨_, rfl⟩
 obtain ⟨wb, hwb⟩ : ∃ wb, wb = w := ⟨_, rfl⟩
 have hblk : W.heap[g]? = some (.cells #[.slice none 0 0, .slice none 0 0, .map (some B)] 42 (0, 0)) := by
  rw [hW, hg, hBe, ← hms]; exact heap_alloc_new _ _
 have hmap : W.ownsMap Tryz.prog 3 (plainElem (H := Unit) Tryz.prog 3) B 0 (.map []) := by
  rw [hW, hBe]
  exact (World.ownsMap_made w Tryz.prog 3 _).alloc _
 have hBW : Below B wb W := by
  rw [hW, hBe, hwb]
  exact aH_ (aH_ (Below.refl _ _) _) _
 have H2 := aA_.mk (show BAt W B g W.heap.size [] [] from ⟨_, _, B, 0, _, hblk, Kd.S_nil _ _ _ _ _, Kd.R_nil _ _ _ _ _, hmap, Nat.zero_le _, El.MapIs.none, by omega, Nat.le_refl _, by omega⟩)
 have B2 := aA_.mk hBW
 have HGb := aA_.mk (show Glob wb from by rw [hwb]; exact HG.out)
 have HRb := aA_.mk (show Kd.C k45 wb A0 l0.length l0 from by rw [hwb]; exact HR.out)
 have HBE := Lib.hid (show B = wb.heap.size ∧ 0 < B from by rw [hBe, hwb]; exact ⟨rfl, hpos⟩)
 have HPB := Lib.hid (show POST = fun e w' => Below B wb w' ∧ (∀ r, ans = .error r → e = .returned (.tuple #[.slice none 0 0, .int .i64 r])) ∧ (∀ s, ans = .ok s → if s.1 = [] ∨ s.2 ≠ [] then e = .returned (.tuple #[.slice none 0 0, .int .i64 6]) else ∃ v0_ : Value, e = .returned (.tuple #[v0_, .int .i64 0]) ∧ Kd.S k32 32 w' B (fun _ => True) v0_ s.1) from by rw [hBe, hwb]; exact HPO.out)
 rw [← hW, ← hg]
 clear hblk hmap hBW hW hg hBe hwb HPO HG HR hmk hms hpos
 refine wp_label ?_
 rename_i hlb
 refine hlb _ _ ?_
 refine wp_at_label ?_
 refine LoopAt.intro (fun aB_ kq_ a1 w1 => ∃ (u2 u3 u5 u6 u10 u11 u12 u13 u14 u15 u16 u17 u18 u19 u20 u21 u22 u23 u24 u25 u26 u27 u28 u29 u30 u31 u32 u33 u34 u35 u36 u37 u38 u39 u40 u41 u42 : Value), (∃ (i : Nat) (l : List El.Nd) (op : List Int) (T : Nat), i ≤ l0.length ∧ i + kq_ = l0.length + 1 ∧ u5 = .int .i64 (i : Int) ∧ aA_ (El.all l op (l0.drop i) = ans) ∧ aA_ (Inv l op T) ∧ aA_ (T + ((l0.drop i).map fun t => t.f2.size).sum ≤ 1000000000) ∧ aA_ (BAt w1 B g w1.heap.size l op) ∧ aA_ (Below B wb w1)) ∧ a1 = (((((((((((((((((((((((((((((((((((((aB_.put (some 2) u2).put (some 3) u3).put (some 5) u5).put (some 6) u6).put (some 10) u10).put (some 11) u11).put (some 12) u12).put (some 13) u13).put (some 14) u14).put (some 15) u15).put (some 16) u16).put (some 17) u17).put (some 18) u18).put (some 19) u19).put (some 20) u20).put (some 21) u21).put (some 22) u22).put (some 23) u23).put (some 24) u24).put (some 25) u25).put (some 26) u26).put (some 27) u27).put (some 28) u28).put (some 29) u29).put (some 30) u30).put (some 31) u31).put (some 32) u32).put (some 33) u33).put (some 34) u34).put (some 35) u35).put (some 36) u36).put (some 37) u37).put (some 38) u38).put (some 39) u39).put (some 40) u40).put (some 41) u41).put (some 42) u42)) (l0.length + 1) ?_ ?_
 ·(repeat apply Exists.intro)
  (try simp only [Act.put, List.setIfInBounds_toArray, List.set_cons_zero, List.set_cons_succ])
  refine ⟨?_, rfl⟩
  exact ⟨0, [], [], 0, Nat.zero_le _, by omega, rfl, ⟨by rw [List.drop_zero]; exact HANS.out⟩, ⟨inv_nil⟩, ⟨by rw [List.drop_zero, Nat.zero_add]; exact HSUM.out⟩, H2, B2⟩
 ·intro gk a1 wr hinv
  obtain ⟨u2, u3, u5, u6, u10, u11, u12, u13, u14, u15, u16, u17, u18, u19, u20, u21, u22, u23, u24, u25, u26, u27, u28, u29, u30, u31, u32, u33, u34, u35, u36, u37, u38, u39, u40, u41, u42, hrel, ha⟩ := hinv
  subst ha
  (try simp only [Act.put, List.setIfInBounds_toArray, List.set_cons_zero, List.set_cons_succ])
  intro Js0 Ks0 hJs0 hKs0
  clear H2 B2 HANS
  obtain ⟨i, l, op, T, hi, hgk, rfl, HA, HI, HT, H, HB⟩ := hrel
  obtain ⟨g1, rfl⟩ : ∃ g1, gk = g1 + 1 := ⟨gk - 1, by omega⟩
  have HG1 := aA_.mk (HGb.out.below HB.out HBE.out.2)
  by_cases hlt : i < l0.length
  ·have d1 : decide ((i : Int) < (l0.length : Int)) = true := decide_eq_true (by omega)
   have d1' : decide (i < l0.length) = true := decide_eq_true hlt
   have p1 := eq_true (show (0 : Int) ≤ (i : Int) by omega)
   have p2 := eq_true (show (i : Int) < (l0.length : Int) by omega)
   have p3 := eq_true hlt
   have hC := Kd.C_below (w1 := wr) HRb.out (by have := HB.out; rw [HBE.out.1] at this; exact this)
   obtain ⟨ad, A3, c3, e_, q0, q1, q2, q3, q4, q5, q6⟩ := at_T45 hC (i : Int) (by omega) (by omega)
   cases e_
   simp only [Int.toNat_natCast] at q0 q1 q2 q3 q4
   obtain ⟨tk, htk⟩ : ∃ tk, tk = rd_T45 l0 (i : Int) := ⟨_, rfl⟩
   rw [← htk] at q0 q1 q2 q3 q4 q6
   have hel : tk = l0[i] := by rw [htk, rd_tok l0 i hlt]
   have hdr : l0.drop i = tk :: l0.drop (i + 1) := by rw [List.drop_eq_getElem_cons hlt, hel]
   have hA := HA.out
   have hT := HT.out
   rw [hdr] at hA hT
   simp only [List.map_cons, List.sum_cons] at hT
   have CT := aA_.mk (element_builder_take.all B g wr.heap.size l op T tk A3 c3 wr H.out (Nat.le_refl _) HG1.out HI.out (by omega) q6 (HATT.out tk (by rw [hel]; exact List.getElem_mem hlt)))
   have HA1 := aA_.mk hA
   have HT1 := aA_.mk hT
   have ew : wrap64 ((i : Int) + 1) = ((i + 1 : Nat) : Int) := by unfold wrap64; omega
   have ew' : wrap64 ((i : Int) + 1) = (i : Int) + 1 := by unfold wrap64; omega
   clear hA hT hdr hel htk hC q5 q6 ew'
   go_wp2_with (go_at_call 16; (with_reducible refine CT.out.mono ?_))
   rintro e wn ⟨r, rfl, bn, hres⟩
   have B3 := aA_.mk (HB.out.trans bn)
   clear bn CT
   rcases hres with ⟨hs, hr⟩ | ⟨rfl, s, hs, hb⟩
   ·have b0 : (r == 0) = false := beq_eq_false_iff_ne.mpr hr
    have b1 : (r != 0) = true := bne_iff_ne.mpr hr
    have hA := HA1.out
    unfold El.all at hA
    rw [hs] at hA
    have HA2 := aA_.mk hA
    clear hs hr hA
    go_wp2_with (fail)
    (try simp only [Exit.inBlock, Exit.then, dD_])
    (try go_ret2)
    rw [HPB.out]
    refine ⟨B3.out, fun r' h => ?_, fun s h => ?_⟩
    ·rw [← HA2.out] at h; injection h with h; subst h; rfl
    ·rw [← HA2.out] at h; cases h
   ·have hA := HA1.out
    unfold El.all at hA
    rw [hs] at hA
    have hI' := inv_take HI.out tk s hs
    have HA2 := aA_.mk (show El.all s.1 s.2 (l0.drop (i + 1)) = ans from hA)
    have HI2 := aA_.mk hI'
    have HT2 := aA_.mk (show T + tk.f2.size + ((l0.drop (i + 1)).map fun t => t.f2.size).sum ≤ 1000000000 from by have := HT1.out; omega)
    have H3 := aA_.mk hb
    clear hA hI' hs hb
    go_wp2_with (fail)
    refine wp_goto (And.intro rfl ?_)
    refine hKs0 _ _ ?_
    go_roundg g1
    case measure => omega
    case rel => exact ⟨i + 1, s.1, s.2, T + tk.f2.size, by omega, by omega, by first | rfl | (rw [ew]) | (simp; done), HA2, HI2, HT2, H3, B3⟩
  have hil : i = l0.length := by omega
  have hA := HA.out
  rw [hil, List.drop_length] at hA
  have hA : .ok (l, op) = ans := hA
  have d1 : decide ((i : Int) < (l0.length : Int)) = false := decide_eq_false (by omega)
  have d1' : decide (i < l0.length) = false := decide_eq_false hlt
  have HA1 := aA_.mk hA
  have hb := H.out
  obtain ⟨v1, v2, m, n, D, h1, h2, h3, h4, _⟩ := hb
  obtain ⟨A1, c1, rfl⟩ := Kd.S_slice h2
  obtain ⟨A2, c2, rfl⟩ := Kd.R_slice h3
  have x0 := (aC_ h1 0).trans rfl
  have x1 := (aC_ h1 1).trans rfl
  have H2 := aA_.mk h2
  clear h1 h2 h3 h4 hA hil H
  by_cases hl : l = []
  ·have b0 : ((l.length : Int) == 0) = true := by rw [hl]; rfl
   have b0' : (l.length == 0) = true := by rw [hl]; rfl
   have HL := Lib.hid hl
   clear hl
   go_wp2_with (fail)
   (try simp only [Exit.inBlock, Exit.then, dD_])
   (try go_ret2)
   rw [HPB.out]
   refine ⟨HB.out, fun r' h => ?_, fun s h => ?_⟩
   ·rw [← HA1.out] at h; cases h
   ·rw [← HA1.out] at h; injection h with h; rw [← h, if_pos (.inl HL.out)]; rfl
  have hln : l.length ≠ 0 := fun h => hl (List.eq_nil_of_length_eq_zero h)
  have b0 : ((l.length : Int) == 0) = false := beq_eq_false_iff_ne.mpr (by omega)
  have b0' : (l.length == 0) = false := beq_eq_false_iff_ne.mpr hln
  by_cases ho : op = []
  ·have e0 : decide ((0 : Int) < (op.length : Int)) = false := by rw [ho]; rfl
   have e0' : decide (0 < op.length) = false := by rw [ho]; rfl
   have HL := Lib.hid (And.intro hl ho)
   clear hl ho hln
   go_wp2_with (fail)
   (try simp only [Exit.inBlock, Exit.then, dD_])
   (try go_ret2)
   rw [HPB.out]
   refine ⟨HB.out, fun r' h => ?_, fun s h => ?_⟩
   ·rw [← HA1.out] at h; cases h
   ·rw [← HA1.out] at h
    injection h with h
    rw [← h, if_neg (fun h => h.elim HL.out.1 (fun h2 => h2 HL.out.2))]
    exact ⟨_, rfl, Kd.S_mono H2.out (fun _ _ => trivial)⟩
  have hon : op.length ≠ 0 := fun h => ho (List.eq_nil_of_length_eq_zero h)
  have e0 : decide ((0 : Int) < (op.length : Int)) = true := decide_eq_true (by omega)
  have e0' : decide (0 < op.length) = true := decide_eq_true (by omega)
  have HL := Lib.hid ho
  clear hl ho hln hon
  go_wp2_with (fail)
  (try simp only [Exit.inBlock, Exit.then, dD_])
  (try go_ret2)
  rw [HPB.out]
  refine ⟨HB.out, fun r' h => ?_, fun s h => ?_⟩
  ·rw [← HA1.out] at h; cases h
  ·rw [← HA1.out] at h
   injection h with h
   rw [← h, if_pos (.inr HL.out)]
   rfl
theorem cQ_.calls (A0 : Option Addr) (c0 : Nat) (l0 : List S45) (r1 : List S32) (r2 : Int) (w : World) (hr0 : Kd.C k45 w A0 l0.length l0) (hc0 : l0.length ≤ c0) (hG : Glob w) (h : cQ_.f l0 = some (r1, r2)) :
 Calls Tryz.prog 5 #[.slice A0 l0.length c0] w fun e w' => ∃ v0_ : Value, e = .returned (.tuple #[v0_, .int .i64 r2]) ∧ Kd.S k32 32 w' w.heap.size (fun _ => True) v0_ r1 ∧ Below w.heap.size w w' := by
 unfold cQ_.f at h
 by_cases hf : El.fits l0 = true
 rotate_left
 ·rw [if_neg hf] at h
  cases h
 rw [if_pos hf] at h
 have h := Option.some.inj h
 unfold El.tree at h
 refine (cQ_.loop A0 c0 l0 _ w hr0 hG hf rfl).mono ?_
 rintro e w' ⟨b, he, hs⟩
 cases ha : El.all [] [] l0 with
 | error r =>
  rw [ha] at h
  obtain ⟨rfl, rfl⟩ := Prod.mk.inj h
  exact ⟨_, he r ha, Kd.S_nil _ _ _ _ _, b⟩
 | ok s =>
  rw [ha] at h
  have hs := hs s ha
  simp only at h
  by_cases hq : s.1 = [] ∨ s.2 ≠ []
  ·rw [if_pos hq] at h hs
   obtain ⟨rfl, rfl⟩ := Prod.mk.inj h
   exact ⟨_, hs, Kd.S_nil _ _ _ _ _, b⟩
  ·rw [if_neg hq] at h hs
   obtain ⟨rfl, rfl⟩ := Prod.mk.inj h
   obtain ⟨v, rfl, hv⟩ := hs
   exact ⟨_, rfl, hv, b⟩
def cR_.f (a0 : ByteArray) : Option ((List (S32)) × Int) := (cB_.f a0).bind fun bt114 => (if bt114.2 = 0 then ((cQ_.f bt114.1).bind fun bt118 => (some (bt118.1, bt118.2))) else (some (([] : List (S32)), bt114.2)))
theorem cR_.calls (a0 : ByteArray) (r1 : List (S32)) (r2 : Int) (w : World) (hG : Glob w) (h : cR_.f a0 = some (r1, r2)) :
 Calls Tryz.prog 7 #[.string a0] w fun e w' => ∃ v0_ : Value, e = .returned (.tuple #[v0_, .int .i64 r2]) ∧ Kd.S k32 32 w' w.heap.size (fun _ => True) v0_ r1 ∧ Below w.heap.size w w' := by
 have HG := aA_.mk hG
 clear hG
 have HB := aA_.mk (Below.refl w.heap.size w)
 have H : ((cB_.f a0).bind fun bt114 => (if bt114.2 = 0 then ((cQ_.f bt114.1).bind fun bt118 => (some (bt118.1, bt118.2))) else (some (([] : List (S32)), bt114.2)))) = some (r1, r2) := h
 clear h
 replace H := bi H
 obtain ⟨⟨t114, t115⟩, A20, H⟩ := H
 try dsimp only at H
 have A2 := aA_.mk A20
 clear A20
 by_cases c3 : t115 = 0
 rotate_left
 ·rw [if_neg c3] at H
  obtain ⟨c3b0, c3b1⟩ := eqF c3
  simp only [Option.some.injEq, Prod.mk.injEq] at H
  obtain ⟨rfl, rfl⟩ := H
  go_enter Tryz.func7, Tryz.ntmps7
  go_wp2_with (first | (refine gl (some 8) Tryz.func18 #[.string a0] ?_; (with_reducible refine (cB_.calls a0 t114 t115 _ (gS HG) A2.out).mono ?_); rintro e w8 ⟨v116, rfl, ho0, hb⟩; refine ⟨_, rfl, ?_⟩; have HO117 := aA_.mk (Kd.S_lower ho0 (cA_ bE)); replace HB := sB hb; (try clear hb); (try clear ho0)))
  go_ret2
  exact ⟨_, by first | rfl | (simp [bL_, bK_] <;> rfl) | (simp [*, bL_, bK_] <;> rfl), by first | exact Kd.S_nil _ _ _ _ _ | exact Kd.N_nil _ _ _ _ _ | exact Kd.V_nil _ _ _ _ _ | exact Kd.Q_nil _ _ _ _ _ | exact Kd.R_nil _ _ _ _ _, bE⟩
 rw [if_pos c3] at H
 obtain ⟨c3b0, c3b1⟩ := eqT c3
 clear c3
 replace H := bi H
 obtain ⟨⟨t118, t119⟩, A40, H⟩ := H
 try dsimp only at H
 have A4 := aA_.mk A40
 clear A40
 simp only [Option.some.injEq, Prod.mk.injEq] at H
 obtain ⟨rfl, rfl⟩ := H
 go_enter Tryz.func7, Tryz.ntmps7
 go_wp2_with (first | (refine gl (some 8) Tryz.func18 #[.string a0] ?_; (with_reducible refine (cB_.calls a0 t114 t115 _ (gS HG) A2.out).mono ?_); rintro e w5 ⟨v116, rfl, ho0, hb⟩; refine ⟨_, rfl, ?_⟩; have HO117 := aA_.mk (Kd.S_lower ho0 (cA_ bE)); replace HB := sB hb; (try clear hb); (try clear ho0); obtain ⟨Ao6, co6, eo6⟩ := Kd.S_slice HO117.out; subst eo6) | (refine gl (some 15) Tryz.func5 #[.slice Ao6 t114.length co6] ?_; (with_reducible refine (cQ_.calls _ _ t114 t118 t119 _ ?side1 ?side2 (gS HG) A4.out).mono ?_); (case side1 => repeat (first | exact (Kd.S_reads' HO117.out).2.2 | (with_reducible refine Kd.C_alloc ?_ _) | (with_reducible refine Kd.C_drewN ?_ _) | (with_reducible refine Kd.C_drew ?_))); (case side2 => exact (Kd.S_reads' HO117.out).2.1); rintro e w7 ⟨v120, rfl, ho0, hb⟩; refine ⟨_, rfl, ?_⟩; replace HO117 := aA_.mk (Kd.S_below (by (with_reducible repeat (first | apply Kd.S_alloc | apply Kd.S_drewN | apply Kd.S_drew)); exact HO117.out) hb); have HO121 := aA_.mk (Kd.S_lower ho0 (cA_ bE)); replace HB := sB hb; (try clear hb); (try clear ho0)))
 go_ret2
 exact ⟨_, by first | rfl | (simp [bL_, bK_] <;> rfl) | (simp [*, bL_, bK_] <;> rfl), by (with_reducible repeat (first | apply Kd.S_alloc | apply Kd.S_drewN | apply Kd.S_drew)); exact HO121.out, bE⟩
def bU_.f (k : Nat)  : Option (Bool) := (cR_.f (⟨#[60, 97, 62, 120, 60, 47, 97, 62]⟩ : ByteArray)).bind fun bt127 => (if bt127.2 = 0 then (if (bt127.1.length : Int) = 2 then (if 1 < (bt127.1.length : Int) then (if ((bD_ bt127.1 1).f2).toList = ([120] : List UInt8) then ((b3_.f k bt127.1 0).bind fun t132 => (some (t132.toList == ([120] : List UInt8)))) else (some false)) else (none)) else (some false)) else (some false))
theorem bU_.mono : ∀ k, LeO (bU_.f k ) (bU_.f (k + 1) ) := by
 intro  k
 unfold bU_.f
 have m0 := @b3_.mono
 exact mo
theorem bU_.calls (k : Nat)  (r : Bool) (w : World) (hG : Glob w) (h : bU_.f k  = some r) :
 Calls Tryz.prog 4 #[] w fun e w' => e = .returned (.bool r) ∧ Below w.heap.size w w' := by
 have HG := aA_.mk hG
 clear hG
 have HB := aA_.mk (Below.refl w.heap.size w)
 have H : ((cR_.f (⟨#[60, 97, 62, 120, 60, 47, 97, 62]⟩ : ByteArray)).bind fun bt127 => (if bt127.2 = 0 then (if (bt127.1.length : Int) = 2 then (if 1 < (bt127.1.length : Int) then (if ((bD_ bt127.1 1).f2).toList = ([120] : List UInt8) then ((b3_.f k bt127.1 0).bind fun t132 => (some (t132.toList == ([120] : List UInt8)))) else (some false)) else (none)) else (some false)) else (some false))) = some r := h
 clear h
 replace H := bi H
 obtain ⟨⟨t127, t128⟩, A10, H⟩ := H
 try dsimp only at H
 have A1 := aA_.mk A10
 clear A10
 by_cases c2 : t128 = 0
 rotate_left
 ·rw [if_neg c2] at H
  obtain ⟨c2b0, c2b1⟩ := eqF c2
  obtain rfl := Option.some.inj H
  go_enter Tryz.func4, Tryz.ntmps4
  go_wp2_with (first | (refine gl (some 4) Tryz.func7 #[.string (⟨#[60, 97, 62, 120, 60, 47, 97, 62]⟩ : ByteArray)] ?_; (with_reducible refine (cR_.calls (⟨#[60, 97, 62, 120, 60, 47, 97, 62]⟩ : ByteArray) t127 t128 _ (gS HG) A1.out).mono ?_); rintro e w14 ⟨v129, rfl, ho0, hb⟩; refine ⟨_, rfl, ?_⟩; have HO130 := aA_.mk (Kd.S_lower ho0 (cA_ bE)); replace HB := sB hb; (try clear hb); (try clear ho0)))
  go_ret
  exact ⟨eA, bE⟩
 rw [if_pos c2] at H
 obtain ⟨c2b0, c2b1⟩ := eqT c2
 clear c2
 by_cases c3 : (t127.length : Int) = 2
 rotate_left
 ·rw [if_neg c3] at H
  obtain ⟨c3b0, c3b1⟩ := eqF c3
  obtain rfl := Option.some.inj H
  go_enter Tryz.func4, Tryz.ntmps4
  go_wp2_with (first | (refine gl (some 4) Tryz.func7 #[.string (⟨#[60, 97, 62, 120, 60, 47, 97, 62]⟩ : ByteArray)] ?_; (with_reducible refine (cR_.calls (⟨#[60, 97, 62, 120, 60, 47, 97, 62]⟩ : ByteArray) t127 t128 _ (gS HG) A1.out).mono ?_); rintro e w12 ⟨v129, rfl, ho0, hb⟩; refine ⟨_, rfl, ?_⟩; have HO130 := aA_.mk (Kd.S_lower ho0 (cA_ bE)); replace HB := sB hb; (try clear hb); (try clear ho0); obtain ⟨Ao13, co13, eo13⟩ := Kd.S_slice HO130.out; subst eo13))
  go_ret
  exact ⟨eA, bE⟩
 rw [if_pos c3] at H
 obtain ⟨c3b0, c3b1⟩ := eqT c3
 clear c3
 obtain ⟨c4, H⟩ := gp H
 have c4b0 := dT c4
 have c4b1 : decide (1 < t127.length) = true := decide_eq_true (by omega)
 clear c4
 by_cases c5 : ((bD_ t127 1).f2).toList = ([120] : List UInt8)
 rotate_left
 ·rw [if_neg c5] at H
  obtain ⟨c5b0, c5b1⟩ := eqF c5
  obtain rfl := Option.some.inj H
  go_enter Tryz.func4, Tryz.ntmps4
  go_wp2_with (first | (refine gl (some 4) Tryz.func7 #[.string (⟨#[60, 97, 62, 120, 60, 47, 97, 62]⟩ : ByteArray)] ?_; (with_reducible refine (cR_.calls (⟨#[60, 97, 62, 120, 60, 47, 97, 62]⟩ : ByteArray) t127 t128 _ (gS HG) A1.out).mono ?_); rintro e w10 ⟨v129, rfl, ho0, hb⟩; refine ⟨_, rfl, ?_⟩; have HO130 := aA_.mk (Kd.S_lower ho0 (cA_ bE)); replace HB := sB hb; (try clear hb); (try clear ho0); obtain ⟨Ao11, co11, eo11⟩ := Kd.S_slice HO130.out; subst eo11; have p131 : 0 ≤ (1 : Int) := (by omega); have q131 : 1 < (t127.length : Int) := dA; obtain ⟨ad131, A131_3, c131_3, e131, hx131_0, hx131_1, hx131_2, hx131_3, hl131_3, hi131_3⟩ := dM_ (Kd.S_reads' HO130.out).2.2 1 p131 q131; cases e131; obtain ⟨ce131, hce131, hMe131, hcc131⟩ := Kd.S_get HO130.out z32 1 p131 (by first | exact q131 | exact dA | (have e_ := (Kd.S_reads' HO130.out).1; omega)); obtain ⟨ve131_3, rfl, ge131_3⟩ := k32_openM hMe131; have hv131_3 := hcc131 3 _ rfl; rw [dW_ _ _ 3 (by omega)] at hv131_3; replace hv131_3 := Option.some.inj (hv131_3.symm.trans hx131_3); rw [hv131_3] at ge131_3; have HL131_3 := aA_.mk (show Kd.R k53 53 _ _ _ _ ((bD_ t127 1).f3) from ge131_3); clear hv131_3 ge131_3; clear hcc131 hce131; (try simp only [show (1 : Int).toNat = 1 from rfl, Nat.reduceMul, Nat.reduceEqDiff, Go.Addr.add, ↓reduceIte] at hx131_0); (try simp only [show (1 : Int).toNat = 1 from rfl, Nat.reduceMul, Nat.reduceEqDiff, Go.Addr.add, ↓reduceIte] at hx131_1); (try simp only [show (1 : Int).toNat = 1 from rfl, Nat.reduceMul, Nat.reduceEqDiff, Go.Addr.add, ↓reduceIte] at hx131_2); (try simp only [show (1 : Int).toNat = 1 from rfl, Nat.reduceMul, Nat.reduceEqDiff, Go.Addr.add, ↓reduceIte] at hx131_3); have qi131 : (1 < t127.length) = True := eq_true (by omega); (try rw [show ((1 : Int)).toNat = 1 from rfl] at hx131_0); (try rw [show 1 * 4 = 4 from rfl] at hx131_0); (try rw [show ((1 : Int)).toNat = 1 from rfl] at hx131_1); (try rw [show 1 * 4 = 4 from rfl] at hx131_1); (try rw [show ((1 : Int)).toNat = 1 from rfl] at hx131_2); (try rw [show 1 * 4 = 4 from rfl] at hx131_2); (try rw [show ((1 : Int)).toNat = 1 from rfl] at hx131_3); (try rw [show 1 * 4 = 4 from rfl] at hx131_3); have HR131_3 := aA_.mk hi131_3; have HC131_3 := aA_.mk hl131_3; clear hi131_3 hl131_3; replace p131 := eq_true p131; replace q131 := eq_true q131))
  go_ret
  exact ⟨eA, bE⟩
 rw [if_pos c5] at H
 obtain ⟨c5b0, c5b1⟩ := eqT c5
 clear c5
 replace H := bi H
 obtain ⟨t132, A60, H⟩ := H
 try dsimp only at H
 have A6 := aA_.mk A60
 clear A60
 obtain rfl := Option.some.inj H
 go_enter Tryz.func4, Tryz.ntmps4
 go_wp2_with (first | (refine gl (some 4) Tryz.func7 #[.string (⟨#[60, 97, 62, 120, 60, 47, 97, 62]⟩ : ByteArray)] ?_; (with_reducible refine (cR_.calls (⟨#[60, 97, 62, 120, 60, 47, 97, 62]⟩ : ByteArray) t127 t128 _ (gS HG) A1.out).mono ?_); rintro e w7 ⟨v129, rfl, ho0, hb⟩; refine ⟨_, rfl, ?_⟩; have HO130 := aA_.mk (Kd.S_lower ho0 (cA_ bE)); replace HB := sB hb; (try clear hb); (try clear ho0); obtain ⟨Ao8, co8, eo8⟩ := Kd.S_slice HO130.out; subst eo8; have p131 : 0 ≤ (1 : Int) := (by omega); have q131 : 1 < (t127.length : Int) := dA; obtain ⟨ad131, A131_3, c131_3, e131, hx131_0, hx131_1, hx131_2, hx131_3, hl131_3, hi131_3⟩ := dM_ (Kd.S_reads' HO130.out).2.2 1 p131 q131; cases e131; obtain ⟨ce131, hce131, hMe131, hcc131⟩ := Kd.S_get HO130.out z32 1 p131 (by first | exact q131 | exact dA | (have e_ := (Kd.S_reads' HO130.out).1; omega)); obtain ⟨ve131_3, rfl, ge131_3⟩ := k32_openM hMe131; have hv131_3 := hcc131 3 _ rfl; rw [dW_ _ _ 3 (by omega)] at hv131_3; replace hv131_3 := Option.some.inj (hv131_3.symm.trans hx131_3); rw [hv131_3] at ge131_3; have HL131_3 := aA_.mk (show Kd.R k53 53 _ _ _ _ ((bD_ t127 1).f3) from ge131_3); clear hv131_3 ge131_3; clear hcc131 hce131; (try simp only [show (1 : Int).toNat = 1 from rfl, Nat.reduceMul, Nat.reduceEqDiff, Go.Addr.add, ↓reduceIte] at hx131_0); (try simp only [show (1 : Int).toNat = 1 from rfl, Nat.reduceMul, Nat.reduceEqDiff, Go.Addr.add, ↓reduceIte] at hx131_1); (try simp only [show (1 : Int).toNat = 1 from rfl, Nat.reduceMul, Nat.reduceEqDiff, Go.Addr.add, ↓reduceIte] at hx131_2); (try simp only [show (1 : Int).toNat = 1 from rfl, Nat.reduceMul, Nat.reduceEqDiff, Go.Addr.add, ↓reduceIte] at hx131_3); have qi131 : (1 < t127.length) = True := eq_true (by omega); (try rw [show ((1 : Int)).toNat = 1 from rfl] at hx131_0); (try rw [show 1 * 4 = 4 from rfl] at hx131_0); (try rw [show ((1 : Int)).toNat = 1 from rfl] at hx131_1); (try rw [show 1 * 4 = 4 from rfl] at hx131_1); (try rw [show ((1 : Int)).toNat = 1 from rfl] at hx131_2); (try rw [show 1 * 4 = 4 from rfl] at hx131_2); (try rw [show ((1 : Int)).toNat = 1 from rfl] at hx131_3); (try rw [show 1 * 4 = 4 from rfl] at hx131_3); have HR131_3 := aA_.mk hi131_3; have HC131_3 := aA_.mk hl131_3; clear hi131_3 hl131_3; replace p131 := eq_true p131; replace q131 := eq_true q131) | (go_at_call 14; (with_reducible refine (b3_.calls k _ _ t127 0 t132 _ ?side1 ?side2 (gS HG) A6.out).mono ?_); (case side1 => repeat (first | exact (Kd.S_reads' HO130.out).2.2 | (with_reducible refine Kd.C_alloc ?_ _) | (with_reducible refine Kd.C_drewN ?_ _) | (with_reducible refine Kd.C_drew ?_))); (case side2 => exact (Kd.S_reads' HO130.out).2.1); rintro e w9 ⟨rfl, hb⟩; replace HO130 := aA_.mk (Kd.S_below (by (with_reducible repeat (first | apply Kd.S_alloc | apply Kd.S_drewN | apply Kd.S_drew)); exact HO130.out) hb); replace HL131_3 := aA_.mk (Kd.R_below (by (with_reducible repeat (first | apply Kd.R_alloc | apply Kd.R_drewN | apply Kd.R_drew)); exact HL131_3.out) hb); replace HR131_3 := aA_.mk (Kd.C_below (by repeat (first | (with_reducible exact HR131_3.out) | (with_reducible refine Kd.C_alloc ?_ _) | (with_reducible refine Kd.C_drewN ?_ _) | (with_reducible refine Kd.C_drew ?_) | exact HR131_3.out)) hb); replace HB := sB hb; (try clear hb)))
 go_ret
 exact ⟨eA, bE⟩
def bS_.f (a0 : Int) : Option (Bool) := if a0 = 9 then (some true) else (if a0 = 10 then (some true) else (if a0 = 13 then (some true) else (some (a0 == 32))))
theorem bS_.calls (a0 : Int) (r : Bool) (w : World) (hG : Glob w) (h : bS_.f a0 = some r) :
 Calls Tryz.prog 43 #[.int .u8 a0] w fun e w' => e = .returned (.bool r) ∧ aS_ w w' := by
 have HG := aA_.mk hG
 clear hG
 have H : (if a0 = 9 then (some true) else (if a0 = 10 then (some true) else (if a0 = 13 then (some true) else (some (a0 == 32))))) = some r := h
 clear h
 by_cases c2 : a0 = 9
 ·rw [if_pos c2] at H
  obtain ⟨c2b0, c2b1⟩ := eqT c2
  clear c2
  obtain rfl := Option.some.inj H
  go_enter Tryz.func43, Tryz.ntmps43
  go_wp2
  go_ret
  exact ⟨by first | rfl | (simp; done) | (simp [*]; done), r3b1_⟩
 rw [if_neg c2] at H
 obtain ⟨c2b0, c2b1⟩ := eqF c2
 by_cases c3 : a0 = 10
 ·rw [if_pos c3] at H
  obtain ⟨c3b0, c3b1⟩ := eqT c3
  clear c3
  obtain rfl := Option.some.inj H
  go_enter Tryz.func43, Tryz.ntmps43
  go_wp2
  go_ret
  exact ⟨by first | rfl | (simp; done) | (simp [*]; done), r3b1_⟩
 rw [if_neg c3] at H
 obtain ⟨c3b0, c3b1⟩ := eqF c3
 by_cases c4 : a0 = 13
 rotate_left
 ·rw [if_neg c4] at H
  obtain ⟨c4b0, c4b1⟩ := eqF c4
  obtain rfl := Option.some.inj H
  go_enter Tryz.func43, Tryz.ntmps43
  go_wp2
  go_ret
  exact ⟨by first | rfl | (simp; done) | (simp [*]; done), r3b1_⟩
 rw [if_pos c4] at H
 obtain ⟨c4b0, c4b1⟩ := eqT c4
 clear c4
 obtain rfl := Option.some.inj H
 go_enter Tryz.func43, Tryz.ntmps43
 go_wp2
 go_ret
 exact ⟨by first | rfl | (simp; done) | (simp [*]; done), r3b1_⟩
mutual
def a6_.j1 : Nat → ByteArray → Option (ByteArray)
 | 0, _ => none
 | k + 1, x0 => a6_.l1 k x0
def a6_.l1 : Nat → ByteArray → Option (ByteArray)
 | 0, _ => none
 | k + 1, x0 => if (x0.size : Int) > 0 then (if 0 ≤ (wrap64 ((x0.size : Int) - 1)) then (if (wrap64 ((x0.size : Int) - 1)) < (x0.size : Int) then ((bS_.f (bt x0 (wrap64 ((x0.size : Int) - 1)))).bind fun t134 => (if t134 = true then (if (wrap64 ((x0.size : Int) - 1)) ≤ (x0.size : Int) then (a6_.l1 k (x0.extract 0 ((wrap64 ((x0.size : Int) - 1)) : Int).toNat)) else (none)) else (some x0))) else (none)) else (none)) else (some x0)
def a6_.l0 : Nat → ByteArray → Option (ByteArray)
 | 0, _ => none
 | k + 1, x0 => if (x0.size : Int) > 0 then (if 0 < (x0.size : Int) then ((bS_.f (bt x0 0)).bind fun t133 => (if t133 = true then (if 1 ≤ (x0.size : Int) then (a6_.l0 k (x0.extract 1 x0.size)) else (none)) else (a6_.j1 k x0))) else (none)) else (a6_.j1 k x0)
end
def a6_.f (k : Nat) (a0 : ByteArray) : Option (ByteArray) := a6_.l0 k a0
theorem a6_.mono_l : ∀ k, (∀ y0, LeO (a6_.j1 k y0) (a6_.j1 (k + 1) y0)) ∧ (∀ y0, LeO (a6_.l1 k y0) (a6_.l1 (k + 1) y0)) ∧ (∀ y0, LeO (a6_.l0 k y0) (a6_.l0 (k + 1) y0))
 | 0 => ⟨fun _ r h => by simp [a6_.j1] at h, fun _ r h => by simp [a6_.l1] at h, fun _ r h => by simp [a6_.l0] at h⟩
 | k + 1 => by
  obtain ⟨ih0, ih1, ih2⟩ := a6_.mono_l k
  refine ⟨?_, ?_, ?_⟩
  ·intro y0
   unfold a6_.j1
   exact mo
  ·intro y0
   unfold a6_.l1
   exact mo
  ·intro y0
   unfold a6_.l0
   exact mo
theorem a6_.calls (k : Nat) (a0 : ByteArray) (r : ByteArray) (w : World) (hG : Glob w) (h : a6_.f k a0 = some r) :
 Calls Tryz.prog 28 #[.string a0] w fun e w' => e = .returned (.string r) ∧ aS_ w w' := by
 have HG := aA_.mk hG
 clear hG
 have H : (a6_.l0 k a0) = some r := h
 clear h
 have HC2 := aA_.mk H
 clear H
 go_enter Tryz.func28, Tryz.ntmps28
 go_upto_block 0 with (fail)
 go_cut [0] (fun v0 wc => ∃ (kq : Nat) (x0_1 : ByteArray), v0 = .string x0_1 ∧ aA_ (a6_.j1 kq x0_1 = some r) ∧ aA_ (kq ≤ k) ∧ aS_ w wc)
 case first =>
  have H := HC2.out
  clear HC2
  have H' := aA_.mk H
  clear H
  go_wp2
  go_loopg [0] k (fun kq v0 w' => ∃ (x0_1 : ByteArray), v0 = .string x0_1 ∧ aA_ (a6_.l0 kq x0_1 = some r) ∧ aA_ (kq ≤ k) ∧ aS_ w w')
  case atStart => exact ⟨(a0), cA, H', ⟨Nat.le_refl _⟩, r3b1_⟩
  clear H'
  try clear c2
  try clear p2
  obtain ⟨x0_1, rfl, HA, HK1, ⟨m1, rfl⟩⟩ := hrel
  cases gk with
  | zero => exact absurd HA.out (by simp [a6_.l0])
  | succ k1 =>
   have H := HA.out
   clear HA
   simp only [a6_.l0] at H
   (try simp only [toList_lit] at H)
   by_cases c3 : (x0_1.size : Int) > 0
   rotate_left
   ·rw [if_neg c3] at H
    have c3b0 := dF c3
    have c3b1 : decide (0 < x0_1.size) = false := decide_eq_false (by omega)
    clear c3
    (first | rw [c3b0] | (simp only [c6_, dY_]; rw [c3b0]) | skip)
    have H' := aA_.mk H
    clear H
    go_wp2
    go_meet
    case rel => exact ⟨_, (x0_1), cA, H', ⟨by have := HK1.out; first | omega | exact Nat.le_refl _⟩, r3b1_⟩
   rw [if_pos c3] at H
   have c3b0 := dT c3
   have c3b1 : decide (0 < x0_1.size) = true := decide_eq_true (by omega)
   clear c3
   (first | rw [c3b0] | (simp only [c6_, dY_]; rw [c3b0]) | skip)
   obtain ⟨c4, H⟩ := gp H
   have c4b0 := dT c4
   have c4b1 : decide (0 < x0_1.size) = true := decide_eq_true (by omega)
   clear c4
   replace H := bi H
   obtain ⟨t133, A60, H⟩ := H
   try dsimp only at H
   have A6 := aA_.mk A60
   clear A60
   by_cases c7 : t133 = true
   rotate_left
   ·replace c7 := Bool.eq_false_iff.mpr c7
    subst c7
    replace H : (a6_.j1 k1 x0_1) = some r := by rw [if_neg nF] at H; exact H
    have H' := aA_.mk H
    clear H
    have p5 : 0 ≤ (0 : Int) := (by omega)
    have q5 : 0 < x0_1.size := (by have : (0 : Int) < (x0_1.size : Int) := dA; omega)
    have hx5 : ∀ h : 0 < x0_1.size, ((x0_1[0]'h).toNat : Int) = bt x0_1 0 := dP_ x0_1 0
    clear p5
    have qi5 : (0 < (x0_1.size : Int)) = True := eq_true (dA)
    replace q5 := eq_true q5
    go_wp2_with (first | (go_at_call 43; (with_reducible refine (bS_.calls (bt x0_1 0) false _ ?side1 A6.out).mono ?_); (case side1 => exact Glob.drawn HG.out (r3b1_)); rintro e w' ⟨rfl, ⟨nd, rfl⟩⟩))
    go_meet
    case rel => exact ⟨_, (x0_1), cA, H', ⟨by have := HK1.out; first | omega | exact Nat.le_refl _⟩, r3b1_⟩
   subst c7
   replace H : (if 1 ≤ (x0_1.size : Int) then (a6_.l0 k1 (x0_1.extract 1 x0_1.size)) else (none)) = some r := by rw [if_pos rfl] at H; exact H
   obtain ⟨c8, H⟩ := gp H
   have c8b0 := eq_true c8
   have c8b1 := dT c8
   clear c8
   have H' := aA_.mk H
   clear H
   have p5 : 0 ≤ (0 : Int) := (by omega)
   have q5 : 0 < x0_1.size := (by have : (0 : Int) < (x0_1.size : Int) := dA; omega)
   have hx5 : ∀ h : 0 < x0_1.size, ((x0_1[0]'h).toNat : Int) = bt x0_1 0 := dP_ x0_1 0
   clear p5
   have qi5 : (0 < (x0_1.size : Int)) = True := eq_true (dA)
   replace q5 := eq_true q5
   go_wp2_with (first | (go_at_call 43; (with_reducible refine (bS_.calls (bt x0_1 0) true _ ?side1 A6.out).mono ?_); (case side1 => exact Glob.drawn HG.out (r3b1_)); rintro e w' ⟨rfl, ⟨nd, rfl⟩⟩))
   go_roundg k1
   case measure => have := HK1.out; omega
   case rel => exact ⟨(x0_1.extract 1 x0_1.size), cA, H', ⟨by have := HK1.out; omega⟩, r3b1_⟩
 clear HC2
 try clear c2
 try clear p2
 try clear c3
 try clear c3b0
 try clear c3b1
 try clear c4
 try clear c4b0
 try clear c4b1
 try clear p5
 try clear q5
 try clear hx5
 try clear qi5
 try clear c7
 try clear c8
 try clear c8b0
 try clear c8b1
 try clear p2
 try clear p5
 try clear q5
 obtain ⟨kq, x0_1, rfl, HA, HJ1, ⟨mc1, rfl⟩⟩ := hcut
 cases kq with
 | zero => exact absurd HA.out (by simp [a6_.j1])
 | succ kj1 =>
  have H := HA.out
  clear HA
  simp only [a6_.j1] at H
  (try simp only [toList_lit] at H)
  have H' := aA_.mk H
  clear H
  go_wp2
  go_loopg [0] kj1 (fun kq v0 w' => ∃ (x0_2 : ByteArray), v0 = .string x0_2 ∧ aA_ (a6_.l1 kq x0_2 = some r) ∧ aA_ (kq ≤ kj1) ∧ aS_ w w')
  case atStart => exact ⟨(x0_1), cA, H', ⟨Nat.le_refl _⟩, r3b1_⟩
  clear H'
  try clear c1
  try clear c2
  try clear p2
  try clear c3
  try clear c3b0
  try clear c3b1
  try clear c4
  try clear c4b0
  try clear c4b1
  try clear p5
  try clear q5
  try clear hx5
  try clear qi5
  try clear c7
  try clear c8
  try clear c8b0
  try clear c8b1
  try clear p2
  try clear p5
  try clear q5
  obtain ⟨x0_2, rfl, HA, HK2, ⟨m2, rfl⟩⟩ := hrel
  cases gk with
  | zero => exact absurd HA.out (by simp [a6_.l1])
  | succ k2 =>
   have H := HA.out
   clear HA
   simp only [a6_.l1] at H
   (try simp only [toList_lit] at H)
   by_cases c9 : (x0_2.size : Int) > 0
   rotate_left
   ·rw [if_neg c9] at H
    have c9b0 := dF c9
    have c9b1 : decide (0 < x0_2.size) = false := decide_eq_false (by omega)
    clear c9
    obtain rfl := Option.some.inj H
    go_wp2
    go_ret
    exact ⟨by first | rfl | (simp; done) | (simp [*]; done), r3b1_⟩
   rw [if_pos c9] at H
   have c9b0 := dT c9
   have c9b1 : decide (0 < x0_2.size) = true := decide_eq_true (by omega)
   clear c9
   obtain ⟨ji10, hji10⟩ : ∃ j_ : Int, (wrap64 ((x0_2.size : Int) - 1)) = j_ := ⟨_, rfl⟩
   rw [hji10] at H
   have hji10w : (IntKind.i64.wrap ((x0_2.size : Int) - 1)) = ji10 := (c6_ _).trans hji10
   obtain ⟨c11, H⟩ := gp H
   have c11b0 := dT c11
   clear c11
   obtain ⟨c12, H⟩ := gp H
   have c12b0 := dT c12
   clear c12
   replace H := bi H
   obtain ⟨t134, A140, H⟩ := H
   try dsimp only at H
   have A14 := aA_.mk A140
   clear A140
   by_cases c15 : t134 = true
   rotate_left
   ·replace c15 := Bool.eq_false_iff.mpr c15
    subst c15
    replace H : (some x0_2) = some r := by rw [if_neg nF] at H; exact H
    obtain rfl := Option.some.inj H
    have p13 : 0 ≤ ((ji10) : Int) := dA
    have q13 : (ji10) < (x0_2.size : Int) := dA
    have hx13 := dP_ x0_2 (ji10)
    replace p13 := eq_true p13
    replace q13 := eq_true q13
    go_wp2_with (first | (go_at_call 43; (with_reducible refine (bS_.calls (bt x0_2 (ji10)) false _ ?side1 A14.out).mono ?_); (case side1 => exact Glob.drawn HG.out (r3b1_)); rintro e w' ⟨rfl, ⟨nd, rfl⟩⟩))
    go_ret
    exact ⟨by first | rfl | (simp; done) | (simp only [← hji10] <;> (first | rfl | simp)) | (simp [*]; done), r3b1_⟩
   subst c15
   replace H : (if (ji10) ≤ (x0_2.size : Int) then (a6_.l1 k2 (x0_2.extract 0 ((ji10) : Int).toNat)) else (none)) = some r := by rw [if_pos rfl] at H; exact H
   have c16b0 := eq_true (dA : 0 ≤ (ji10))
   obtain ⟨c17, H⟩ := gp H
   have c17b0 := eq_true c17
   have c17b1 := dT c17
   clear c17
   have H' := aA_.mk H
   clear H
   have p13 : 0 ≤ ((ji10) : Int) := dA
   have q13 : (ji10) < (x0_2.size : Int) := dA
   have hx13 := dP_ x0_2 (ji10)
   replace p13 := eq_true p13
   replace q13 := eq_true q13
   go_wp2_with (first | (go_at_call 43; (with_reducible refine (bS_.calls (bt x0_2 (ji10)) true _ ?side1 A14.out).mono ?_); (case side1 => exact Glob.drawn HG.out (r3b1_)); rintro e w' ⟨rfl, ⟨nd, rfl⟩⟩))
   go_roundg k2
   case measure => have := HJ1.out; have := HK2.out; omega
   case rel => exact ⟨(x0_2.extract 0 ((ji10) : Int).toNat), (by first | rfl | (simp; done) | (simp only [← hji10] <;> (first | rfl | simp)) | (simp [*]; done)), H', ⟨by have := HJ1.out; have := HK2.out; omega⟩, r3b1_⟩
end Go.Proofs.YtkoogebfdinbnaaGreat.Q
