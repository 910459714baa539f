/- Texts put together: what functions of the program compute, and plain words about them. -/
import Derived.Test.YtkoogebfdinbnaaGreatLawElementTellsUptoM1
import Derived.Test.YtkoogebfdinbnaaGreatLawElementTellsUptoM2
import Derived.Deep.RegionLaw
import Derived.Lib.Hide
import Derived.StillTailTactics
import Derived.Outline
import Derived.Test.YtkoogebfdinbnaaGreatLawElementTellsUptoM3
import Derived.Deep.Cut
namespace Go.Proofs.YtkoogebfdinbnaaGreat.Q
open Go.RowKit Go.Proofs.YtkoogebfdinbnaaGreatW.PrintWords Go.Proofs.YtkoogebfdinbnaaGreatW.PrintLast Go.Proofs.YtkoogebfdinbnaaGreatW.Own Go.Proofs.YtkoogebfdinbnaaGreatW.PrintMore
theorem r4a0_ {p_ : Prop} (h_ : p_ := by repeat (first | (with_reducible first | exact HI0.out | apply aD_.alloc | apply aD_.drewN | apply aD_.drew | apply aD_.set_0 | apply aD_.set_1 | refine aD_.far ?_ NB0_138.out _) | exact HI0.out)) : p_ := h_
theorem r4b1_ {p_ : Prop} (h_ : p_ := by repeat (first | (with_reducible first | exact HB.out | apply aH_ | apply aF_ | apply aI_ | refine aG_ ?_ (aD_.ge HI0.out) | refine aG_ ?_ GE138.out) | exact HB.out)) : p_ := h_
theorem r4c2_ {p_ : Prop} (h_ : p_ := by repeat (first | (with_reducible first | exact HI0.out | apply aD_.alloc | apply aD_.drewN | apply aD_.drew | apply aD_.set_0 | apply aD_.set_1) | exact HI0.out)) : p_ := h_
theorem r4d3_ {p_ : Prop} (h_ : p_ := by repeat (first | (with_reducible first | exact HK.out | apply aJ_.set_ | apply aL_ | apply aM_ | apply keep_alloc | refine aQ_ ?_ GW138.out _) | exact HK.out)) : p_ := h_
theorem r4e4_ {p_ : Prop} (h_ : p_ := by repeat (first | (with_reducible first | exact HB.out | apply aH_ | apply aF_ | apply aI_ | refine aG_ ?_ (aD_.ge HI0.out)) | exact HB.out)) : p_ := h_
theorem r4f5_ {p_ : Prop} (h_ : p_ := by repeat (first | (with_reducible first | exact HK.out | apply aJ_.set_ | apply aL_ | apply aM_ | apply keep_alloc) | exact HK.out)) : p_ := h_
theorem r4g6_ {p_ : Prop} (h_ : p_ := by repeat (first | exact aS_.refl _ | apply aS_.step)) : p_ := h_
attribute [local go_sem] d6_ d8_ max_two min_two dS_ dR_ d4_ d9_   -- for this text's walks alone
set_option linter.unusedVariables false
set_option linter.unusedSimpArgs false
set_option maxHeartbeats 20000000
set_option maxRecDepth 100000
def TAt (w : World) (B g N : Nat) (l : List El.Nd) (op : List Int) : Prop :=
 ∃ v1 v2, w.heap[g]? = some (.cells #[v1, v2] 48 (0, 0)) ∧ Kd.S k32 32 w B (fun k => k < N) v1 l ∧ Kd.R (Kd.int .i64) 3 w B (fun _ => True) v2 op ∧ B ≤ g ∧ 0 < B
theorem TAt.below {w w1 : World} {B g N : Nat} {l : List El.Nd} {op : List Int} (h : TAt w B g N l op) (hb : Below w.heap.size w w1) : TAt w1 B g N l op := by
 obtain ⟨v1, v2, h1, h2, h3, r⟩ := h
 exact ⟨v1, v2, b4_ h1 hb, Kd.S_below h2 hb, Kd.R_below h3 hb, r⟩
theorem TAt.now {w : World} {B g N : Nat} {l : List El.Nd} {op : List Int} (h : TAt w B g N l op) : TAt w B g w.heap.size l op := by
 obtain ⟨v1, v2, h1, h2, r⟩ := h
 exact ⟨v1, v2, h1, Kd.S_mono (Kd.S_bound h2) (fun k hk => hk.2.2.1), r⟩
theorem TAt.ge {w : World} {B g N : Nat} {l : List El.Nd} {op : List Int} (h : TAt w B g N l op) : B ≤ g ∧ g < w.heap.size ∧ 0 < B := by
 obtain ⟨v1, v2, h1, h2, h3, h4, h5⟩ := h
 exact ⟨h4, cT_ h1, h5⟩
def El.lastK (l : List El.Nd) (p : Int) : Int := match El.lastI l p with
 | some k => (k : Int)
 | none => -1
theorem lastI_take (l : List El.Nd) (p : Int) (i : Nat) (h : i < l.length) : El.lastI (l.take (i + 1)) p = if (bD_ l (i : Int)).f0 = p then some i else El.lastI (l.take i) p := by
 rw [List.take_succ_eq_append_getElem h, El.lastI_snoc, List.length_take, Nat.min_eq_left (Nat.le_of_lt h)]
 have : bD_ l (i : Int) = l[i] := by simp [bD_, List.getD, h]
 rw [this]
theorem dU_.calls (B g N : Nat) (l : List El.Nd) (op : List Int) (w : World) (h : TAt w B g N l op) (hop : op.length ≤ 100000) (hl : l.length ≤ 100000) (hne : op ≠ []) :
 Calls Tryz.prog 29 #[.pointer (some ⟨g, 0, none⟩)] w fun e w' => e = .returned (.int .i64 (El.lastK l (El.inner op))) ∧ aS_ w w' := by
 obtain ⟨v1, v2, h1, h2, h3, _⟩ := h
 obtain ⟨A1, c1, rfl⟩ := Kd.S_slice h2
 obtain ⟨A2, c2, rfl⟩ := Kd.R_slice h3
 have x0 := (aC_ h1 0).trans rfl
 have x1 := (aC_ h1 1).trans rfl
 have HN := aA_.mk (Kd.S_reads' h2).2.2
 have HC := (Kd.R_reads' h3).2.2
 have hu := Tryz.underlying48
 have hu2 := Tryz.underlying32
 have hlo : op.length ≠ 0 := fun h0 => hne (List.eq_nil_of_length_eq_zero h0)
 have ew : wrap64 ((op.length : Int) - 1) = (op.length : Int) - 1 := by unfold wrap64; omega
 obtain ⟨ad, e_, hx0⟩ := Kd.at_int HC ((op.length : Int) - 1) (by omega) (by omega)
 cases e_
 rw [last_at op hne] at hx0
 have ew' : IntKind.i64.wrap ((op.length : Int) - 1) = (op.length : Int) - 1 := by rw [c6_]; exact ew
 obtain ⟨p, hp⟩ : ∃ p, p = El.inner op := ⟨_, rfl⟩
 rw [← hp] at hx0 ⊢
 have hx1 : w.cell? (ad.add (op.length - 1)) = some (.int .i64 p) := by rw [show ((op.length : Int) - 1).toNat = op.length - 1 from by omega] at hx0; exact hx0
 have p1 := eq_true (show (0 : Int) ≤ (op.length : Int) - 1 by omega)
 have p2 := eq_true (show (op.length : Int) - 1 < (op.length : Int) by omega)
 have p3 := eq_true (show (1 : Int) ≤ (op.length : Int) by omega)
 have p4 := eq_true (show 1 ≤ op.length by omega)
 have el : wrap64 ((l.length : Int) - 1) = (l.length : Int) - 1 := by unfold wrap64; omega
 have HL := Lib.hid hl
 clear h1 h2 h3 HC hp hne hlo hl hop
 go_enter Tryz.func29, Tryz.ntmps29
 go_wp2
 go_loopg [3] l.length (fun g v3 w' => ∃ (i : Nat) (k : Int), i = g ∧ i ≤ l.length ∧ (i : Int) = k + 1 ∧ v3 = .int .i64 k ∧ aA_ (El.lastI (l.take i) p = El.lastI l p) ∧ aS_ w w')
 case atStart => exact ⟨l.length, (l.length : Int) - 1, rfl, Nat.le_refl _, by omega, by first | rfl | (rw [el]), ⟨by rw [List.take_length]⟩, aS_.refl _⟩
 clear el
 obtain ⟨i, k, rfl, hi, hik, rfl, HLA, ⟨nd, rfl⟩⟩ := hrel
 cases i with
 | zero =>
  have d0 : decide ((0 : Int) ≤ k) = false := decide_eq_false (by omega)
  have hk : k = -1 := by omega
  have HK := Lib.hid hk
  clear hk hik hi
  go_wp2_with (fail)
  go_quiet (fail)
  go_wp2
  go_ret
  have hl := HLA.out
  rw [List.take_zero] at hl
  exact ⟨by unfold El.lastK; rw [← hl, HK.out]; rfl, r4g6_⟩
 | succ j =>
  have hjl : j < l.length := by omega
  have hkj : k = (j : Int) := by omega
  subst hkj
  obtain ⟨an, A3, c3, e_, q0, q1, _⟩ := dM_ HN.out (j : Int) (by omega) (by omega)
  cases e_
  simp only [Int.toNat_natCast] at q0 q1
  have hlt := lastI_take l p j hjl
  obtain ⟨m, hm⟩ : ∃ m, m = (bD_ l (j : Int)).f0 := ⟨_, rfl⟩
  rw [← hm] at hlt q0
  have d0 : decide ((0 : Int) ≤ (j : Int)) = true := decide_eq_true (by omega)
  have n1 := eq_true (show (0 : Int) ≤ (j : Int) by omega)
  have n2 := eq_true (show (j : Int) < (l.length : Int) by omega)
  have n3 := eq_true hjl
  have ej : wrap64 ((j : Int) - 1) = (j : Int) - 1 := by have := HL.out; unfold wrap64; omega
  clear hm hik
  by_cases hmp : m = p
  ·rw [if_pos hmp] at hlt
   have b0 : (m != p) = false := bne_eq_false_iff_eq.mpr hmp
   have HLT := aA_.mk hlt
   clear hlt hmp
   go_wp2_with (fail)
   go_quiet (fail)
   go_wp2
   go_ret
   exact ⟨by unfold El.lastK; rw [← HLA.out, HLT.out]; rfl, r4g6_⟩
  rw [if_neg hmp] at hlt
  have b0 : (m != p) = true := bne_iff_ne.mpr hmp
  have HLT := aA_.mk hlt
  clear hlt hmp
  go_wp2_with (fail)
  go_quiet (fail)
  go_wp2
  go_roundg j
  case measure => omega
  case rel => exact ⟨j, (j : Int) - 1, rfl, by omega, by omega, by first | rfl | (rw [ej]), ⟨HLT.out.symm.trans HLA.out⟩, r4g6_⟩
def RTok (w wc : World) (B g : Nat) (l2 : List El.Nd) (op : List Int) (tk : Array Value) : Prop :=
 ∃ v1 v2, wc.heap[g]? = some (.cells #[v1, v2] 48 (0, 0)) ∧ Kd.S k32 32 wc B (fun _ => True) v1 l2 ∧ Kd.R (Kd.int .i64) 3 wc B (fun _ => True) v2 op ∧ Below B w wc ∧ wc.heap[w.heap.size]? = some (.cells tk 45 (0, 0))
theorem RTok.of {w w2 : World} {B g : Nat} {l2 : List El.Nd} {op : List Int} {tk : Array Value} {v1 v2 v3 : Value} (h1 : w2.heap[g]? = some (.cells #[v1, v2] 48 (0, 0))) (h2 : Kd.S k32 32 w2 B (fun _ => True) v3 l2) (h3 : Kd.R (Kd.int .i64) 3 w2 B (fun _ => True) v2 op) (h4 : Below B w w2) (h5 : w2.heap[w.heap.size]? = some (.cells tk 45 (0, 0))) (hB : B ≤ g) (hg : g < w.heap.size) : RTok w (w2.setCell ⟨g, 0, none⟩ v3) B g l2 op tk := by
 have P1 := c5_ h1 0 v3
 exact ⟨v3, v2, by simpa using P1, Kd.S_set h2 h1 (by decide) 0 v3, Kd.R_set h3 h1 (by decide) 0 v3, h4.setCell (p := ⟨g, 0, none⟩) hB v3, bT_ h5 (fun e => by have e : w.heap.size = g := e; omega) v3⟩
theorem rtok_begin_some_true (B g N : Nat) (l : List El.Nd) (op : List Int) (nm tx : ByteArray) (w : World) (h : TAt w B g N l op) (hop : op.length ≤ 100000) (hl : l.length ≤ 100000) (big : Bool) (hbig : big = decide (2000 ≤ l.length)) (at9 : List El.Att) (A9 : Option Addr) (c9 : Nat) (hc9 : Kd.C k53 w A9 at9.length at9) (hlen : at9.length ≤ 1000000) (hn : nm ≠ El.nul) (hop2 : op.length < 20) (hso : op ≠ []) (h0 : 0 ≤ El.inner op) (h1 : El.inner op < (l.length : Int)) :
 Calls Tryz.prog 17 #[.pointer (some ⟨g, 0, none⟩), .agg #[.int .i64 1, .string nm, .string tx, .slice A9 at9.length c9, .bool true]] w fun e w' => e = .returned (.int .i64 (bif big then 3 else 0)) ∧ TAt w' B g w'.heap.size (l ++ [⟨El.inner op, nm, El.nul, at9⟩]) op ∧ Below B w w' := by
 obtain ⟨W, hW⟩ : ∃ W, W = w.alloc (.cells #[.int .i64 1, .string nm, .string tx, .slice A9 at9.length c9, .bool true] 45) := ⟨_, rfl⟩
 have hX : W.heap[w.heap.size]? = some (.cells #[.int .i64 1, .string nm, .string tx, .slice A9 at9.length c9, .bool true] 45 (0, 0)) := by rw [hW]; exact heap_alloc_new w _
 have hBW : Below w.heap.size w W := by rw [hW]; exact aH_ (Below.refl _ _) _
 have HT := aA_.mk (h.below hBW)
 have HX := aA_.mk hX
 have HB := aA_.mk hBW
 have HW := Lib.hid hW
 have HGE := Lib.hid h.ge
 have hbt := HT.out
 obtain ⟨v1, v2, g1, g2, g3, _⟩ := hbt
 obtain ⟨A1, c1, rfl⟩ := Kd.S_slice g2
 obtain ⟨A2, c2, rfl⟩ := Kd.R_slice g3
 have x0 := (aC_ g1 0).trans rfl
 have x1 := (aC_ g1 1).trans rfl
 have y0 := (aC_ hX 0).trans rfl
 have y1 := (aC_ hX 1).trans rfl
 have y2 := (aC_ hX 2).trans rfl
 have y3 := (aC_ hX 3).trans rfl
 have y4 := (aC_ hX 4).trans rfl
 have hu := Tryz.underlying48
 have ht := Tryz.underlying45
 have hu2 := Tryz.underlying32
 have s1 := cY_ nm
 rw [decide_eq_false hn] at s1
 clear hn
 have z5 : decide ((20 : Int) ≤ (op.length : Int)) = false := decide_eq_false (by omega)
 have z6 : decide (20 ≤ op.length) = false := decide_eq_false (by omega)
 have hlo : op.length ≠ 0 := fun h0 => hso (List.eq_nil_of_length_eq_zero h0)
 have ew : wrap64 ((op.length : Int) - 1) = (op.length : Int) - 1 := by unfold wrap64; omega
 obtain ⟨ad, e_, hx0⟩ := Kd.at_int (Kd.R_reads' g3).2.2 ((op.length : Int) - 1) (by omega) (by omega)
 cases e_
 rw [last_at op hso] at hx0
 have ew' : IntKind.i64.wrap ((op.length : Int) - 1) = (op.length : Int) - 1 := by rw [c6_]; exact ew
 obtain ⟨p, hp⟩ : ∃ p, p = El.inner op := ⟨_, rfl⟩
 rw [← hp] at hx0 h0 h1
 have HP := Lib.hid hp
 have HSO := Lib.hid hso
 have hx1 : W.cell? (ad.add (op.length - 1)) = some (.int .i64 p) := by rw [show ((op.length : Int) - 1).toNat = op.length - 1 from by omega] at hx0; exact hx0
 have o1 := eq_true (show (0 : Int) ≤ (op.length : Int) - 1 by omega)
 have o2 := eq_true (show (op.length : Int) - 1 < (op.length : Int) by omega)
 have o3 := eq_true (show (1 : Int) ≤ (op.length : Int) by omega)
 have o4 := eq_true (show 1 ≤ op.length by omega)
 have o5 : decide ((0 : Int) < (op.length : Int)) = true := decide_eq_true (by omega)
 have o6 : decide (0 < op.length) = true := decide_eq_true (by omega)
 have dn : decide (p < 0) = false := decide_eq_false (by omega)
 rw [hW] at x0 x1 y0 y1 y2 y3 y4 hx0 hx1
 clear g1 g2 g3 h hX hBW hW hp hso
 go_enter Tryz.func17, Tryz.ntmps17
 go_wp2
 go_quiet (fail)
 obtain ⟨W2, hW2⟩ : ∃ W2, W2 = (w.alloc (.cells #[.int .i64 1, .string nm, .string tx, .slice A9 at9.length c9, .bool true] 45)).drewN nq := ⟨_, rfl⟩
 rw [← hW2]
 rw [← HW.out] at hW2
 replace HT := aA_.mk (show TAt W2 B g N l op from by rw [hW2]; exact HT.out.below (aF_ (Below.refl _ _) _))
 replace HX := aA_.mk (show W2.heap[w.heap.size]? = some (.cells #[.int .i64 1, .string nm, .string tx, .slice A9 at9.length c9, .bool true] 45 (0, 0)) from by rw [hW2]; exact HX.out)
 replace HB := aA_.mk (show Below w.heap.size w W2 from by rw [hW2]; exact aF_ HB.out _)
 clear hW2 x0 x1 y0 y1 y2 y3 y4 hx0 hx1 o1 o2 o3 o4 ew ew' HW
 clear W
 have hbt := HT.out
 obtain ⟨v1, v2, g1, g2, g3, _⟩ := hbt
 obtain ⟨A1, c1, rfl⟩ := Kd.S_slice g2
 obtain ⟨A2, c2, rfl⟩ := Kd.R_slice g3
 have x0 := (aC_ g1 0).trans rfl
 have x1 := (aC_ g1 1).trans rfl
 have y0 := (aC_ HX.out 0).trans rfl
 have y1 := (aC_ HX.out 1).trans rfl
 have y2 := (aC_ HX.out 2).trans rfl
 have y3 := (aC_ HX.out 3).trans rfl
 have y4 := (aC_ HX.out 4).trans rfl
 clear g1 g2 g3
 go_wp2
 obtain ⟨W3, hW3⟩ : ∃ W3, W3 = W2 := ⟨_, rfl⟩
 rw [← hW3]
 have hbt := HT.out.now
 rw [← hW3] at hbt HX HB
 clear hW3 x0 x1 y0 y1 y2 y3 y4
 obtain ⟨v1, v2, g1, g2, g3, g4, g5⟩ := hbt
 obtain ⟨A1, c1, rfl⟩ := Kd.S_slice g2
 obtain ⟨A2, c2, rfl⟩ := Kd.R_slice g3
 have x0 := (aC_ g1 0).trans rfl
 have x1 := (aC_ g1 1).trans rfl
 have z0 := aE_ g1 0
 have x0a := fun o => (aC_ (aV_ g1 o) 0).trans rfl
 have y0 := (aC_ HX.out 0).trans rfl
 have y1 := (aC_ HX.out 1).trans rfl
 have y2 := (aC_ HX.out 2).trans rfl
 have y3 := (aC_ HX.out 3).trans rfl
 have y4 := (aC_ HX.out 4).trans rfl
 have G1 := aA_.mk g1
 have G2 := aA_.mk g2
 have G3 := aA_.mk g3
 have HH := Lib.hid (And.intro g4 g5)
 have HBB := aA_.mk (HB.out.mono (Nat.le_of_lt (Nat.lt_of_le_of_lt HGE.out.1 HGE.out.2.1)))
 have hWB : B ≤ W3.heap.size := Nat.le_of_lt (Nat.lt_of_le_of_lt g4 (cT_ g1))
 have HC9 := aA_.mk (Kd.C_below hc9 HB.out)
 have HLEN := Lib.hid hlen
 have HBIG := Lib.hid hbig
 clear hlen hbig
 clear g1 g2 g3 g4 g5
 obtain ⟨l2, hl2⟩ : ∃ l2, l2 = l ++ [(⟨p, nm, (⟨#[]⟩ : ByteArray), at9⟩ : El.Nd)] := ⟨_, rfl⟩
 have hlen2 : l2.length = l.length + 1 := by rw [hl2]; simp
 have z1 : decide ((2000 : Int) < (l2.length : Int)) = big := by rw [HBIG.out]; exact decide_eq_decide.2 (by omega)
 have z2 : decide (2000 < l2.length) = big := by rw [HBIG.out]; exact decide_eq_decide.2 (by omega)
 have ew : wrap64 ((l2.length : Int) - 1) = (l.length : Int) := by unfold wrap64; omega
 have ew' : IntKind.i64.wrap ((l2.length : Int) - 1) = (l.length : Int) := by rw [c6_]; exact ew
 have HL2 := Lib.hid (And.intro hl2 hlen2)
 clear hl2 hlen2
 go_cut [] (fun wc => RTok w wc B g l2 op #[.int .i64 1, .string nm, .string tx, .slice A9 at9.length c9, .bool true])
 case first =>
  go_region_law (first | (refine Kd.R_append_rows_step k53 (w0 := W3) (W := W3.drew) W3.heap.size (by rfl) (.const (.slice none 0 0)) (.tmp 63) 30 53 _ 32 rfl Tryz.underlying30 cloneInfo rfl (by decide) (by decide) (.slice none 0 0) [] at9 A9 at9.length c9 (fun _ => True) (fun _ => False) rfl rfl (Kd.R_nil _ _ _ _ _) (Kd.C_drew HC9.out) (fun x cs h => by obtain rfl := k53_open h; exact k53_mkM _ _ _ x) (fun _ h => h.elim) (fun _ _ => trivial) (b5_ (Below.refl _ _)) (Nat.le_refl _) (by have := HLEN.out; simp only [List.length_nil]; omega) ?_; intro va w1 ra ba _ _; have ra : Kd.R k53 53 w1 W3.heap.size (fun _ => True) va at9 := ra; obtain ⟨Av, cv, rfl⟩ := Kd.R_slice ra; have K1 := aA_.mk (b4_ G1.out ba); have K2 := aA_.mk (Kd.S_below G2.out ba); have K3 := aA_.mk (Kd.R_below G3.out ba); have KX := aA_.mk (b4_ HX.out ba); have RA := aA_.mk (Kd.R_lower (Kd.R_mono (ok' := fun k => W3.heap.size ≤ k) (Kd.R_bound ra) (fun k hk => hk.2.1)) hWB); have HB1 := aA_.mk (HBB.out.trans (ba.mono hWB)); have HS1 := Lib.hid ba.size; have k0 := (aC_ K1.out 0).trans rfl; have kz := aE_ K1.out 0; have ka := fun o => (aC_ (aV_ K1.out o) 0).trans rfl; have k1 := (aC_ KX.out 1).trans rfl; have k3 := (aC_ KX.out 3).trans rfl; clear ra ba) | (refine Kd.S_append_step k32 (w0 := w) (W := w1) B (by rfl) (.tmp 58) (.tmp 66) 23 32 _ 64 rfl Tryz.underlying23 ndInfo rfl (by decide) (by decide) (.slice A1 l.length c1) l ⟨p, nm, (⟨#[]⟩ : ByteArray), at9⟩ [.int .i64 p, .string nm, .string ⟨#[]⟩, .slice Av at9.length cv] (fun _ => True) (fun k => W3.heap.size ≤ k ∧ some k ≠ (Value.slice A1 l.length c1).ownBlock) rfl rfl (k32_mkM _ _ _ ⟨p, nm, (⟨#[]⟩ : ByteArray), at9⟩ (node_apart RA.out K2.out)) (fun k hk => ⟨trivial, hk.2⟩) (fun _ _ => trivial) (Kd.S_mono K2.out (fun k hk => ⟨trivial, fun h => by have := h.1; have hk : k < W3.heap.size := hk; omega⟩)) HB1.out (by have := HS1.out; omega) (by omega) ?_; intro v1 w2 r1 b1 gg at1; rw [← HL2.out.1] at r1; obtain ⟨A3, c3, rfl⟩ := Kd.S_slice r1; have R1 := aA_.mk r1; have B1 := aA_.mk b1; have G4 := aA_.mk (b6_ K1.out gg (Kd.S_ne K2.out K1.out (by decide))); have G5 := aA_.mk (Kd.R_over' K3.out (Kd.S_typed K2.out) (by decide) gg); have X2 := aA_.mk (b6_ KX.out gg (Kd.S_ne K2.out KX.out (by decide))); clear r1 b1 gg at1; have zz2 := aE_ G4.out 0; have yy2 := (aC_ G4.out 0).trans rfl))
  all_goals
   (try go_wp2)
   go_meet
   case rel =>
    exact RTok.of G4.out R1.out G5.out B1.out X2.out HH.out.1 HGE.out.2.1
 obtain ⟨v1, v2, P1, P2, P3, P4, P5⟩ := hcut
 obtain ⟨A3, c3, rfl⟩ := Kd.S_slice P2
 obtain ⟨A5, c5, rfl⟩ := Kd.R_slice P3
 have Q1 := aA_.mk P1
 have Q2 := aA_.mk P2
 have Q3 := aA_.mk P3
 have Q4 := aA_.mk P4
 have hW5 : B ≤ wc.heap.size := Nat.le_of_lt (Nat.lt_of_le_of_lt HH.out.1 (cT_ P1))
 clear x0 x1 x0a z0 y0 y1 y2 y3 y4
 have y4 := (aC_ P5 4).trans rfl
 clear P1 P2 P3 P4 P5
 have x0 := (aC_ Q1.out 0).trans rfl
 have x1 := (aC_ Q1.out 1).trans rfl
 have zf := aE_ Q1.out 1
 have x1a := fun o => (aC_ (aV_ Q1.out o) 1).trans rfl
 cases big
 all_goals
  go_wp2
  go_ret
  have e2 : l2 = l ++ [⟨El.inner op, nm, El.nul, at9⟩] := HL2.out.1.trans (congrArg (fun q => l ++ [(⟨q, nm, (⟨#[]⟩ : ByteArray), at9⟩ : El.Nd)]) HP.out)
  rw [← e2]
  exact ⟨rfl, ⟨_, _, Q1.out, Kd.S_mono (Kd.S_bound Q2.out) (fun k hk => hk.2.2.1), Q3.out, HH.out⟩, Q4.out⟩
theorem rtok_begin_none_true (B g N : Nat) (l : List El.Nd) (op : List Int) (nm tx : ByteArray) (w : World) (h : TAt w B g N l op) (hop : op.length ≤ 100000) (hl : l.length ≤ 100000) (big : Bool) (hbig : big = decide (2000 ≤ l.length)) (at9 : List El.Att) (A9 : Option Addr) (c9 : Nat) (hc9 : Kd.C k53 w A9 at9.length at9) (hlen : at9.length ≤ 1000000) (hn : nm ≠ El.nul) (hno : op = []) (hroot : l.length = 0) :
 Calls Tryz.prog 17 #[.pointer (some ⟨g, 0, none⟩), .agg #[.int .i64 1, .string nm, .string tx, .slice A9 at9.length c9, .bool true]] w fun e w' => e = .returned (.int .i64 (bif big then 3 else 0)) ∧ TAt w' B g w'.heap.size (l ++ [⟨El.inner op, nm, El.nul, at9⟩]) op ∧ Below B w w' := by
 obtain ⟨W, hW⟩ : ∃ W, W = w.alloc (.cells #[.int .i64 1, .string nm, .string tx, .slice A9 at9.length c9, .bool true] 45) := ⟨_, rfl⟩
 have hX : W.heap[w.heap.size]? = some (.cells #[.int .i64 1, .string nm, .string tx, .slice A9 at9.length c9, .bool true] 45 (0, 0)) := by rw [hW]; exact heap_alloc_new w _
 have hBW : Below w.heap.size w W := by rw [hW]; exact aH_ (Below.refl _ _) _
 have HT := aA_.mk (h.below hBW)
 have HX := aA_.mk hX
 have HB := aA_.mk hBW
 have HW := Lib.hid hW
 have HGE := Lib.hid h.ge
 have hbt := HT.out
 obtain ⟨v1, v2, g1, g2, g3, _⟩ := hbt
 obtain ⟨A1, c1, rfl⟩ := Kd.S_slice g2
 obtain ⟨A2, c2, rfl⟩ := Kd.R_slice g3
 have x0 := (aC_ g1 0).trans rfl
 have x1 := (aC_ g1 1).trans rfl
 have y0 := (aC_ hX 0).trans rfl
 have y1 := (aC_ hX 1).trans rfl
 have y2 := (aC_ hX 2).trans rfl
 have y3 := (aC_ hX 3).trans rfl
 have y4 := (aC_ hX 4).trans rfl
 have hu := Tryz.underlying48
 have ht := Tryz.underlying45
 have hu2 := Tryz.underlying32
 have s1 := cY_ nm
 rw [decide_eq_false hn] at s1
 clear hn
 have d1 : decide ((0 : Int) < (l.length : Int)) = false := decide_eq_false (by omega)
 have d2 : decide (0 < l.length) = false := decide_eq_false (by omega)
 have HRT := Lib.hid hroot
 clear hroot
 subst hno
 rw [hW] at x0 x1 y0 y1 y2 y3 y4
 clear g1 g2 g3 h hX hBW hW
 go_enter Tryz.func17, Tryz.ntmps17
 go_wp2
 obtain ⟨W3, hW3⟩ : ∃ W3, W3 = W := ⟨_, rfl⟩
 rw [← HW.out, ← hW3]
 have hbt := HT.out.now
 rw [← hW3] at hbt HX HB
 clear hW3 x0 x1 y0 y1 y2 y3 y4
 obtain ⟨v1, v2, g1, g2, g3, g4, g5⟩ := hbt
 obtain ⟨A1, c1, rfl⟩ := Kd.S_slice g2
 obtain ⟨A2, c2, rfl⟩ := Kd.R_slice g3
 have x0 := (aC_ g1 0).trans rfl
 have x1 := (aC_ g1 1).trans rfl
 have z0 := aE_ g1 0
 have x0a := fun o => (aC_ (aV_ g1 o) 0).trans rfl
 have y0 := (aC_ HX.out 0).trans rfl
 have y1 := (aC_ HX.out 1).trans rfl
 have y2 := (aC_ HX.out 2).trans rfl
 have y3 := (aC_ HX.out 3).trans rfl
 have y4 := (aC_ HX.out 4).trans rfl
 have G1 := aA_.mk g1
 have G2 := aA_.mk g2
 have G3 := aA_.mk g3
 have HH := Lib.hid (And.intro g4 g5)
 have HBB := aA_.mk (HB.out.mono (Nat.le_of_lt (Nat.lt_of_le_of_lt HGE.out.1 HGE.out.2.1)))
 have hWB : B ≤ W3.heap.size := Nat.le_of_lt (Nat.lt_of_le_of_lt g4 (cT_ g1))
 have HC9 := aA_.mk (Kd.C_below hc9 HB.out)
 have HLEN := Lib.hid hlen
 have HBIG := Lib.hid hbig
 clear hlen hbig
 clear g1 g2 g3 g4 g5
 obtain ⟨l2, hl2⟩ : ∃ l2, l2 = l ++ [(⟨-1, nm, (⟨#[]⟩ : ByteArray), at9⟩ : El.Nd)] := ⟨_, rfl⟩
 have hlen2 : l2.length = l.length + 1 := by rw [hl2]; simp
 have z1 : decide ((2000 : Int) < (l2.length : Int)) = big := by rw [HBIG.out]; exact decide_eq_decide.2 (by omega)
 have z2 : decide (2000 < l2.length) = big := by rw [HBIG.out]; exact decide_eq_decide.2 (by omega)
 have ew : wrap64 ((l2.length : Int) - 1) = (l.length : Int) := by unfold wrap64; omega
 have ew' : IntKind.i64.wrap ((l2.length : Int) - 1) = (l.length : Int) := by rw [c6_]; exact ew
 have HL2 := Lib.hid (And.intro hl2 hlen2)
 clear hl2 hlen2
 go_cut [] (fun wc => RTok w wc B g l2 [] #[.int .i64 1, .string nm, .string tx, .slice A9 at9.length c9, .bool true])
 case first =>
  go_region_law (first | (refine Kd.R_append_rows_step k53 (w0 := W3) (W := W3.drew) W3.heap.size (by rfl) (.const (.slice none 0 0)) (.tmp 63) 30 53 _ 32 rfl Tryz.underlying30 cloneInfo rfl (by decide) (by decide) (.slice none 0 0) [] at9 A9 at9.length c9 (fun _ => True) (fun _ => False) rfl rfl (Kd.R_nil _ _ _ _ _) (Kd.C_drew HC9.out) (fun x cs h => by obtain rfl := k53_open h; exact k53_mkM _ _ _ x) (fun _ h => h.elim) (fun _ _ => trivial) (b5_ (Below.refl _ _)) (Nat.le_refl _) (by have := HLEN.out; simp only [List.length_nil]; omega) ?_; intro va w1 ra ba _ _; have ra : Kd.R k53 53 w1 W3.heap.size (fun _ => True) va at9 := ra; obtain ⟨Av, cv, rfl⟩ := Kd.R_slice ra; have K1 := aA_.mk (b4_ G1.out ba); have K2 := aA_.mk (Kd.S_below G2.out ba); have K3 := aA_.mk (Kd.R_below G3.out ba); have KX := aA_.mk (b4_ HX.out ba); have RA := aA_.mk (Kd.R_lower (Kd.R_mono (ok' := fun k => W3.heap.size ≤ k) (Kd.R_bound ra) (fun k hk => hk.2.1)) hWB); have HB1 := aA_.mk (HBB.out.trans (ba.mono hWB)); have HS1 := Lib.hid ba.size; have k0 := (aC_ K1.out 0).trans rfl; have kz := aE_ K1.out 0; have ka := fun o => (aC_ (aV_ K1.out o) 0).trans rfl; have k1 := (aC_ KX.out 1).trans rfl; have k3 := (aC_ KX.out 3).trans rfl; clear ra ba) | (refine Kd.S_append_step k32 (w0 := w) (W := w1) B (by rfl) (.tmp 58) (.tmp 66) 23 32 _ 64 rfl Tryz.underlying23 ndInfo rfl (by decide) (by decide) (.slice A1 l.length c1) l ⟨-1, nm, (⟨#[]⟩ : ByteArray), at9⟩ [.int .i64 (-1), .string nm, .string ⟨#[]⟩, .slice Av at9.length cv] (fun _ => True) (fun k => W3.heap.size ≤ k ∧ some k ≠ (Value.slice A1 l.length c1).ownBlock) rfl rfl (k32_mkM _ _ _ ⟨-1, nm, (⟨#[]⟩ : ByteArray), at9⟩ (node_apart RA.out K2.out)) (fun k hk => ⟨trivial, hk.2⟩) (fun _ _ => trivial) (Kd.S_mono K2.out (fun k hk => ⟨trivial, fun h => by have := h.1; have hk : k < W3.heap.size := hk; omega⟩)) HB1.out (by have := HS1.out; omega) (by omega) ?_; intro v1 w2 r1 b1 gg at1; rw [← HL2.out.1] at r1; obtain ⟨A3, c3, rfl⟩ := Kd.S_slice r1; have R1 := aA_.mk r1; have B1 := aA_.mk b1; have G4 := aA_.mk (b6_ K1.out gg (Kd.S_ne K2.out K1.out (by decide))); have G5 := aA_.mk (Kd.R_over' K3.out (Kd.S_typed K2.out) (by decide) gg); have X2 := aA_.mk (b6_ KX.out gg (Kd.S_ne K2.out KX.out (by decide))); clear r1 b1 gg at1; have zz2 := aE_ G4.out 0; have yy2 := (aC_ G4.out 0).trans rfl))
  all_goals
   (try go_wp2)
   go_meet
   case rel =>
    exact RTok.of G4.out R1.out G5.out B1.out X2.out HH.out.1 HGE.out.2.1
 obtain ⟨v1, v2, P1, P2, P3, P4, P5⟩ := hcut
 obtain ⟨A3, c3, rfl⟩ := Kd.S_slice P2
 obtain ⟨A5, c5, rfl⟩ := Kd.R_slice P3
 have Q1 := aA_.mk P1
 have Q2 := aA_.mk P2
 have Q3 := aA_.mk P3
 have Q4 := aA_.mk P4
 have hW5 : B ≤ wc.heap.size := Nat.le_of_lt (Nat.lt_of_le_of_lt HH.out.1 (cT_ P1))
 clear x0 x1 x0a z0 y0 y1 y2 y3 y4
 have y4 := (aC_ P5 4).trans rfl
 clear P1 P2 P3 P4 P5
 have x0 := (aC_ Q1.out 0).trans rfl
 have x1 := (aC_ Q1.out 1).trans rfl
 have zf := aE_ Q1.out 1
 have x1a := fun o => (aC_ (aV_ Q1.out o) 1).trans rfl
 cases big
 all_goals
  go_wp2
  go_ret
  have e2 : l2 = l ++ [⟨El.inner [], nm, El.nul, at9⟩] := HL2.out.1.trans (congrArg (fun q => l ++ [(⟨q, nm, (⟨#[]⟩ : ByteArray), at9⟩ : El.Nd)]) (rfl : (-1 : Int) = El.inner []))
  rw [← e2]
  exact ⟨rfl, ⟨_, _, Q1.out, Kd.S_mono (Kd.S_bound Q2.out) (fun k hk => hk.2.2.1), Q3.out, HH.out⟩, Q4.out⟩
theorem a7_.skip4_none (B g N : Nat) (l : List El.Nd) (op : List Int) (nm tx : ByteArray) (em : Bool) (w : World) (h : TAt w B g N l op) (hop : op.length ≤ 100000) (hl : l.length ≤ 100000) (va : Value) (hno : op = []) :
 Calls Tryz.prog 17 #[.pointer (some ⟨g, 0, none⟩), .agg #[.int .i64 4, .string nm, .string tx, va, .bool em]] w fun e w' => e = .returned (.int .i64 0) ∧ Below w.heap.size w w' := by
 obtain ⟨W, hW⟩ : ∃ W, W = w.alloc (.cells #[.int .i64 4, .string nm, .string tx, va, .bool em] 45) := ⟨_, rfl⟩
 have hX : W.heap[w.heap.size]? = some (.cells #[.int .i64 4, .string nm, .string tx, va, .bool em] 45 (0, 0)) := by rw [hW]; exact heap_alloc_new w _
 have hBW : Below w.heap.size w W := by rw [hW]; exact aH_ (Below.refl _ _) _
 have HT := aA_.mk (h.below hBW)
 have HX := aA_.mk hX
 have HB := aA_.mk hBW
 have HW := Lib.hid hW
 have HGE := Lib.hid h.ge
 have hbt := HT.out
 obtain ⟨v1, v2, g1, g2, g3, _⟩ := hbt
 obtain ⟨A1, c1, rfl⟩ := Kd.S_slice g2
 obtain ⟨A2, c2, rfl⟩ := Kd.R_slice g3
 have x0 := (aC_ g1 0).trans rfl
 have x1 := (aC_ g1 1).trans rfl
 have y0 := (aC_ hX 0).trans rfl
 have y1 := (aC_ hX 1).trans rfl
 have y2 := (aC_ hX 2).trans rfl
 have y3 := (aC_ hX 3).trans rfl
 have y4 := (aC_ hX 4).trans rfl
 have hu := Tryz.underlying48
 have ht := Tryz.underlying45
 have hu2 := Tryz.underlying32
 subst hno
 rw [hW] at x0 x1 y0 y1 y2 y3 y4
 clear g1 g2 g3 h hX hBW hW
 go_enter Tryz.func17, Tryz.ntmps17
 go_wp2
 go_ret
 exact ⟨rfl, by rw [← HW.out]; exact HB.out⟩
theorem a7_.skip4_some (B g N : Nat) (l : List El.Nd) (op : List Int) (nm tx : ByteArray) (em : Bool) (w : World) (h : TAt w B g N l op) (hop : op.length ≤ 100000) (hl : l.length ≤ 100000) (va : Value) (hso : op ≠ []) (h0 : 0 ≤ El.inner op) (h1 : El.inner op < (l.length : Int)) :
 Calls Tryz.prog 17 #[.pointer (some ⟨g, 0, none⟩), .agg #[.int .i64 4, .string nm, .string tx, va, .bool em]] w fun e w' => e = .returned (.int .i64 0) ∧ Below w.heap.size w w' := by
 obtain ⟨W, hW⟩ : ∃ W, W = w.alloc (.cells #[.int .i64 4, .string nm, .string tx, va, .bool em] 45) := ⟨_, rfl⟩
 have hX : W.heap[w.heap.size]? = some (.cells #[.int .i64 4, .string nm, .string tx, va, .bool em] 45 (0, 0)) := by rw [hW]; exact heap_alloc_new w _
 have hBW : Below w.heap.size w W := by rw [hW]; exact aH_ (Below.refl _ _) _
 have HT := aA_.mk (h.below hBW)
 have HX := aA_.mk hX
 have HB := aA_.mk hBW
 have HW := Lib.hid hW
 have HGE := Lib.hid h.ge
 have hbt := HT.out
 obtain ⟨v1, v2, g1, g2, g3, _⟩ := hbt
 obtain ⟨A1, c1, rfl⟩ := Kd.S_slice g2
 obtain ⟨A2, c2, rfl⟩ := Kd.R_slice g3
 have x0 := (aC_ g1 0).trans rfl
 have x1 := (aC_ g1 1).trans rfl
 have y0 := (aC_ hX 0).trans rfl
 have y1 := (aC_ hX 1).trans rfl
 have y2 := (aC_ hX 2).trans rfl
 have y3 := (aC_ hX 3).trans rfl
 have y4 := (aC_ hX 4).trans rfl
 have hu := Tryz.underlying48
 have ht := Tryz.underlying45
 have hu2 := Tryz.underlying32
 have hlo : op.length ≠ 0 := fun h0 => hso (List.eq_nil_of_length_eq_zero h0)
 have ew : wrap64 ((op.length : Int) - 1) = (op.length : Int) - 1 := by unfold wrap64; omega
 obtain ⟨ad, e_, hx0⟩ := Kd.at_int (Kd.R_reads' g3).2.2 ((op.length : Int) - 1) (by omega) (by omega)
 cases e_
 rw [last_at op hso] at hx0
 have ew' : IntKind.i64.wrap ((op.length : Int) - 1) = (op.length : Int) - 1 := by rw [c6_]; exact ew
 obtain ⟨p, hp⟩ : ∃ p, p = El.inner op := ⟨_, rfl⟩
 rw [← hp] at hx0 h0 h1
 have HP := Lib.hid hp
 have HSO := Lib.hid hso
 have hx1 : W.cell? (ad.add (op.length - 1)) = some (.int .i64 p) := by rw [show ((op.length : Int) - 1).toNat = op.length - 1 from by omega] at hx0; exact hx0
 have o1 := eq_true (show (0 : Int) ≤ (op.length : Int) - 1 by omega)
 have o2 := eq_true (show (op.length : Int) - 1 < (op.length : Int) by omega)
 have o3 := eq_true (show (1 : Int) ≤ (op.length : Int) by omega)
 have o4 := eq_true (show 1 ≤ op.length by omega)
 have o5 : decide ((0 : Int) < (op.length : Int)) = true := decide_eq_true (by omega)
 have o6 : decide (0 < op.length) = true := decide_eq_true (by omega)
 have dn : decide (p < 0) = false := decide_eq_false (by omega)
 rw [hW] at x0 x1 y0 y1 y2 y3 y4 hx0 hx1
 clear g1 g2 g3 h hX hBW hW hp hso
 go_enter Tryz.func17, Tryz.ntmps17
 go_wp2
 go_quiet (fail)
 obtain ⟨W2, hW2⟩ : ∃ W2, W2 = (w.alloc (.cells #[.int .i64 4, .string nm, .string tx, va, .bool em] 45)).drewN nq := ⟨_, rfl⟩
 rw [← hW2]
 rw [← HW.out] at hW2
 replace HT := aA_.mk (show TAt W2 B g N l op from by rw [hW2]; exact HT.out.below (aF_ (Below.refl _ _) _))
 replace HX := aA_.mk (show W2.heap[w.heap.size]? = some (.cells #[.int .i64 4, .string nm, .string tx, va, .bool em] 45 (0, 0)) from by rw [hW2]; exact HX.out)
 replace HB := aA_.mk (show Below w.heap.size w W2 from by rw [hW2]; exact aF_ HB.out _)
 clear hW2 x0 x1 y0 y1 y2 y3 y4 hx0 hx1 o1 o2 o3 o4 ew ew' HW
 clear W
 have hbt := HT.out
 obtain ⟨v1, v2, g1, g2, g3, _⟩ := hbt
 obtain ⟨A1, c1, rfl⟩ := Kd.S_slice g2
 obtain ⟨A2, c2, rfl⟩ := Kd.R_slice g3
 have x0 := (aC_ g1 0).trans rfl
 have x1 := (aC_ g1 1).trans rfl
 have y0 := (aC_ HX.out 0).trans rfl
 have y1 := (aC_ HX.out 1).trans rfl
 have y2 := (aC_ HX.out 2).trans rfl
 have y3 := (aC_ HX.out 3).trans rfl
 have y4 := (aC_ HX.out 4).trans rfl
 clear g1 g2 g3
 go_wp2
 go_ret
 exact ⟨rfl, HB.out⟩
theorem a7_.skip5_none (B g N : Nat) (l : List El.Nd) (op : List Int) (nm tx : ByteArray) (em : Bool) (w : World) (h : TAt w B g N l op) (hop : op.length ≤ 100000) (hl : l.length ≤ 100000) (va : Value) (hno : op = []) :
 Calls Tryz.prog 17 #[.pointer (some ⟨g, 0, none⟩), .agg #[.int .i64 5, .string nm, .string tx, va, .bool em]] w fun e w' => e = .returned (.int .i64 0) ∧ Below w.heap.size w w' := by
 obtain ⟨W, hW⟩ : ∃ W, W = w.alloc (.cells #[.int .i64 5, .string nm, .string tx, va, .bool em] 45) := ⟨_, rfl⟩
 have hX : W.heap[w.heap.size]? = some (.cells #[.int .i64 5, .string nm, .string tx, va, .bool em] 45 (0, 0)) := by rw [hW]; exact heap_alloc_new w _
 have hBW : Below w.heap.size w W := by rw [hW]; exact aH_ (Below.refl _ _) _
 have HT := aA_.mk (h.below hBW)
 have HX := aA_.mk hX
 have HB := aA_.mk hBW
 have HW := Lib.hid hW
 have HGE := Lib.hid h.ge
 have hbt := HT.out
 obtain ⟨v1, v2, g1, g2, g3, _⟩ := hbt
 obtain ⟨A1, c1, rfl⟩ := Kd.S_slice g2
 obtain ⟨A2, c2, rfl⟩ := Kd.R_slice g3
 have x0 := (aC_ g1 0).trans rfl
 have x1 := (aC_ g1 1).trans rfl
 have y0 := (aC_ hX 0).trans rfl
 have y1 := (aC_ hX 1).trans rfl
 have y2 := (aC_ hX 2).trans rfl
 have y3 := (aC_ hX 3).trans rfl
 have y4 := (aC_ hX 4).trans rfl
 have hu := Tryz.underlying48
 have ht := Tryz.underlying45
 have hu2 := Tryz.underlying32
 subst hno
 rw [hW] at x0 x1 y0 y1 y2 y3 y4
 clear g1 g2 g3 h hX hBW hW
 go_enter Tryz.func17, Tryz.ntmps17
 go_wp2
 go_ret
 exact ⟨rfl, by rw [← HW.out]; exact HB.out⟩
theorem a7_.skip5_some (B g N : Nat) (l : List El.Nd) (op : List Int) (nm tx : ByteArray) (em : Bool) (w : World) (h : TAt w B g N l op) (hop : op.length ≤ 100000) (hl : l.length ≤ 100000) (va : Value) (hso : op ≠ []) (h0 : 0 ≤ El.inner op) (h1 : El.inner op < (l.length : Int)) :
 Calls Tryz.prog 17 #[.pointer (some ⟨g, 0, none⟩), .agg #[.int .i64 5, .string nm, .string tx, va, .bool em]] w fun e w' => e = .returned (.int .i64 0) ∧ Below w.heap.size w w' := by
 obtain ⟨W, hW⟩ : ∃ W, W = w.alloc (.cells #[.int .i64 5, .string nm, .string tx, va, .bool em] 45) := ⟨_, rfl⟩
 have hX : W.heap[w.heap.size]? = some (.cells #[.int .i64 5, .string nm, .string tx, va, .bool em] 45 (0, 0)) := by rw [hW]; exact heap_alloc_new w _
 have hBW : Below w.heap.size w W := by rw [hW]; exact aH_ (Below.refl _ _) _
 have HT := aA_.mk (h.below hBW)
 have HX := aA_.mk hX
 have HB := aA_.mk hBW
 have HW := Lib.hid hW
 have HGE := Lib.hid h.ge
 have hbt := HT.out
 obtain ⟨v1, v2, g1, g2, g3, _⟩ := hbt
 obtain ⟨A1, c1, rfl⟩ := Kd.S_slice g2
 obtain ⟨A2, c2, rfl⟩ := Kd.R_slice g3
 have x0 := (aC_ g1 0).trans rfl
 have x1 := (aC_ g1 1).trans rfl
 have y0 := (aC_ hX 0).trans rfl
 have y1 := (aC_ hX 1).trans rfl
 have y2 := (aC_ hX 2).trans rfl
 have y3 := (aC_ hX 3).trans rfl
 have y4 := (aC_ hX 4).trans rfl
 have hu := Tryz.underlying48
 have ht := Tryz.underlying45
 have hu2 := Tryz.underlying32
 have hlo : op.length ≠ 0 := fun h0 => hso (List.eq_nil_of_length_eq_zero h0)
 have ew : wrap64 ((op.length : Int) - 1) = (op.length : Int) - 1 := by unfold wrap64; omega
 obtain ⟨ad, e_, hx0⟩ := Kd.at_int (Kd.R_reads' g3).2.2 ((op.length : Int) - 1) (by omega) (by omega)
 cases e_
 rw [last_at op hso] at hx0
 have ew' : IntKind.i64.wrap ((op.length : Int) - 1) = (op.length : Int) - 1 := by rw [c6_]; exact ew
 obtain ⟨p, hp⟩ : ∃ p, p = El.inner op := ⟨_, rfl⟩
 rw [← hp] at hx0 h0 h1
 have HP := Lib.hid hp
 have HSO := Lib.hid hso
 have hx1 : W.cell? (ad.add (op.length - 1)) = some (.int .i64 p) := by rw [show ((op.length : Int) - 1).toNat = op.length - 1 from by omega] at hx0; exact hx0
 have o1 := eq_true (show (0 : Int) ≤ (op.length : Int) - 1 by omega)
 have o2 := eq_true (show (op.length : Int) - 1 < (op.length : Int) by omega)
 have o3 := eq_true (show (1 : Int) ≤ (op.length : Int) by omega)
 have o4 := eq_true (show 1 ≤ op.length by omega)
 have o5 : decide ((0 : Int) < (op.length : Int)) = true := decide_eq_true (by omega)
 have o6 : decide (0 < op.length) = true := decide_eq_true (by omega)
 have dn : decide (p < 0) = false := decide_eq_false (by omega)
 rw [hW] at x0 x1 y0 y1 y2 y3 y4 hx0 hx1
 clear g1 g2 g3 h hX hBW hW hp hso
 go_enter Tryz.func17, Tryz.ntmps17
 go_wp2
 go_quiet (fail)
 obtain ⟨W2, hW2⟩ : ∃ W2, W2 = (w.alloc (.cells #[.int .i64 5, .string nm, .string tx, va, .bool em] 45)).drewN nq := ⟨_, rfl⟩
 rw [← hW2]
 rw [← HW.out] at hW2
 replace HT := aA_.mk (show TAt W2 B g N l op from by rw [hW2]; exact HT.out.below (aF_ (Below.refl _ _) _))
 replace HX := aA_.mk (show W2.heap[w.heap.size]? = some (.cells #[.int .i64 5, .string nm, .string tx, va, .bool em] 45 (0, 0)) from by rw [hW2]; exact HX.out)
 replace HB := aA_.mk (show Below w.heap.size w W2 from by rw [hW2]; exact aF_ HB.out _)
 clear hW2 x0 x1 y0 y1 y2 y3 y4 hx0 hx1 o1 o2 o3 o4 ew ew' HW
 clear W
 have hbt := HT.out
 obtain ⟨v1, v2, g1, g2, g3, _⟩ := hbt
 obtain ⟨A1, c1, rfl⟩ := Kd.S_slice g2
 obtain ⟨A2, c2, rfl⟩ := Kd.R_slice g3
 have x0 := (aC_ g1 0).trans rfl
 have x1 := (aC_ g1 1).trans rfl
 have y0 := (aC_ HX.out 0).trans rfl
 have y1 := (aC_ HX.out 1).trans rfl
 have y2 := (aC_ HX.out 2).trans rfl
 have y3 := (aC_ HX.out 3).trans rfl
 have y4 := (aC_ HX.out 4).trans rfl
 clear g1 g2 g3
 go_wp2
 go_ret
 exact ⟨rfl, HB.out⟩
theorem a7_.bad_none (B g N : Nat) (l : List El.Nd) (op : List Int) (nm tx : ByteArray) (em : Bool) (w : World) (h : TAt w B g N l op) (hop : op.length ≤ 100000) (hl : l.length ≤ 100000) (kd : Int) (hk : kd ≠ 1 ∧ kd ≠ 2 ∧ kd ≠ 3 ∧ kd ≠ 4 ∧ kd ≠ 5) (va : Value) (hno : op = []) :
 Calls Tryz.prog 17 #[.pointer (some ⟨g, 0, none⟩), .agg #[.int .i64 kd, .string nm, .string tx, va, .bool em]] w fun e w' => e = .returned (.int .i64 5) ∧ Below w.heap.size w w' := by
 obtain ⟨W, hW⟩ : ∃ W, W = w.alloc (.cells #[.int .i64 kd, .string nm, .string tx, va, .bool em] 45) := ⟨_, rfl⟩
 have hX : W.heap[w.heap.size]? = some (.cells #[.int .i64 kd, .string nm, .string tx, va, .bool em] 45 (0, 0)) := by rw [hW]; exact heap_alloc_new w _
 have hBW : Below w.heap.size w W := by rw [hW]; exact aH_ (Below.refl _ _) _
 have HT := aA_.mk (h.below hBW)
 have HX := aA_.mk hX
 have HB := aA_.mk hBW
 have HW := Lib.hid hW
 have HGE := Lib.hid h.ge
 have hbt := HT.out
 obtain ⟨v1, v2, g1, g2, g3, _⟩ := hbt
 obtain ⟨A1, c1, rfl⟩ := Kd.S_slice g2
 obtain ⟨A2, c2, rfl⟩ := Kd.R_slice g3
 have x0 := (aC_ g1 0).trans rfl
 have x1 := (aC_ g1 1).trans rfl
 have y0 := (aC_ hX 0).trans rfl
 have y1 := (aC_ hX 1).trans rfl
 have y2 := (aC_ hX 2).trans rfl
 have y3 := (aC_ hX 3).trans rfl
 have y4 := (aC_ hX 4).trans rfl
 have hu := Tryz.underlying48
 have ht := Tryz.underlying45
 have hu2 := Tryz.underlying32
 have k1 : (kd == 1) = false := beq_eq_false_iff_ne.mpr hk.1
 have k2 : (kd == 2) = false := beq_eq_false_iff_ne.mpr hk.2.1
 have k3 : (kd == 3) = false := beq_eq_false_iff_ne.mpr hk.2.2.1
 have k4 : (kd == 4) = false := beq_eq_false_iff_ne.mpr hk.2.2.2.1
 have k5 : (kd == 5) = false := beq_eq_false_iff_ne.mpr hk.2.2.2.2
 clear hk
 subst hno
 rw [hW] at x0 x1 y0 y1 y2 y3 y4
 clear g1 g2 g3 h hX hBW hW
 go_enter Tryz.func17, Tryz.ntmps17
 go_wp2
 go_ret
 exact ⟨rfl, by rw [← HW.out]; exact HB.out⟩
theorem a7_.bad_some (B g N : Nat) (l : List El.Nd) (op : List Int) (nm tx : ByteArray) (em : Bool) (w : World) (h : TAt w B g N l op) (hop : op.length ≤ 100000) (hl : l.length ≤ 100000) (kd : Int) (hk : kd ≠ 1 ∧ kd ≠ 2 ∧ kd ≠ 3 ∧ kd ≠ 4 ∧ kd ≠ 5) (va : Value) (hso : op ≠ []) (h0 : 0 ≤ El.inner op) (h1 : El.inner op < (l.length : Int)) :
 Calls Tryz.prog 17 #[.pointer (some ⟨g, 0, none⟩), .agg #[.int .i64 kd, .string nm, .string tx, va, .bool em]] w fun e w' => e = .returned (.int .i64 5) ∧ Below w.heap.size w w' := by
 obtain ⟨W, hW⟩ : ∃ W, W = w.alloc (.cells #[.int .i64 kd, .string nm, .string tx, va, .bool em] 45) := ⟨_, rfl⟩
 have hX : W.heap[w.heap.size]? = some (.cells #[.int .i64 kd, .string nm, .string tx, va, .bool em] 45 (0, 0)) := by rw [hW]; exact heap_alloc_new w _
 have hBW : Below w.heap.size w W := by rw [hW]; exact aH_ (Below.refl _ _) _
 have HT := aA_.mk (h.below hBW)
 have HX := aA_.mk hX
 have HB := aA_.mk hBW
 have HW := Lib.hid hW
 have HGE := Lib.hid h.ge
 have hbt := HT.out
 obtain ⟨v1, v2, g1, g2, g3, _⟩ := hbt
 obtain ⟨A1, c1, rfl⟩ := Kd.S_slice g2
 obtain ⟨A2, c2, rfl⟩ := Kd.R_slice g3
 have x0 := (aC_ g1 0).trans rfl
 have x1 := (aC_ g1 1).trans rfl
 have y0 := (aC_ hX 0).trans rfl
 have y1 := (aC_ hX 1).trans rfl
 have y2 := (aC_ hX 2).trans rfl
 have y3 := (aC_ hX 3).trans rfl
 have y4 := (aC_ hX 4).trans rfl
 have hu := Tryz.underlying48
 have ht := Tryz.underlying45
 have hu2 := Tryz.underlying32
 have k1 : (kd == 1) = false := beq_eq_false_iff_ne.mpr hk.1
 have k2 : (kd == 2) = false := beq_eq_false_iff_ne.mpr hk.2.1
 have k3 : (kd == 3) = false := beq_eq_false_iff_ne.mpr hk.2.2.1
 have k4 : (kd == 4) = false := beq_eq_false_iff_ne.mpr hk.2.2.2.1
 have k5 : (kd == 5) = false := beq_eq_false_iff_ne.mpr hk.2.2.2.2
 clear hk
 have hlo : op.length ≠ 0 := fun h0 => hso (List.eq_nil_of_length_eq_zero h0)
 have ew : wrap64 ((op.length : Int) - 1) = (op.length : Int) - 1 := by unfold wrap64; omega
 obtain ⟨ad, e_, hx0⟩ := Kd.at_int (Kd.R_reads' g3).2.2 ((op.length : Int) - 1) (by omega) (by omega)
 cases e_
 rw [last_at op hso] at hx0
 have ew' : IntKind.i64.wrap ((op.length : Int) - 1) = (op.length : Int) - 1 := by rw [c6_]; exact ew
 obtain ⟨p, hp⟩ : ∃ p, p = El.inner op := ⟨_, rfl⟩
 rw [← hp] at hx0 h0 h1
 have HP := Lib.hid hp
 have HSO := Lib.hid hso
 have hx1 : W.cell? (ad.add (op.length - 1)) = some (.int .i64 p) := by rw [show ((op.length : Int) - 1).toNat = op.length - 1 from by omega] at hx0; exact hx0
 have o1 := eq_true (show (0 : Int) ≤ (op.length : Int) - 1 by omega)
 have o2 := eq_true (show (op.length : Int) - 1 < (op.length : Int) by omega)
 have o3 := eq_true (show (1 : Int) ≤ (op.length : Int) by omega)
 have o4 := eq_true (show 1 ≤ op.length by omega)
 have o5 : decide ((0 : Int) < (op.length : Int)) = true := decide_eq_true (by omega)
 have o6 : decide (0 < op.length) = true := decide_eq_true (by omega)
 have dn : decide (p < 0) = false := decide_eq_false (by omega)
 rw [hW] at x0 x1 y0 y1 y2 y3 y4 hx0 hx1
 clear g1 g2 g3 h hX hBW hW hp hso
 go_enter Tryz.func17, Tryz.ntmps17
 go_wp2
 go_quiet (fail)
 obtain ⟨W2, hW2⟩ : ∃ W2, W2 = (w.alloc (.cells #[.int .i64 kd, .string nm, .string tx, va, .bool em] 45)).drewN nq := ⟨_, rfl⟩
 rw [← hW2]
 rw [← HW.out] at hW2
 replace HT := aA_.mk (show TAt W2 B g N l op from by rw [hW2]; exact HT.out.below (aF_ (Below.refl _ _) _))
 replace HX := aA_.mk (show W2.heap[w.heap.size]? = some (.cells #[.int .i64 kd, .string nm, .string tx, va, .bool em] 45 (0, 0)) from by rw [hW2]; exact HX.out)
 replace HB := aA_.mk (show Below w.heap.size w W2 from by rw [hW2]; exact aF_ HB.out _)
 clear hW2 x0 x1 y0 y1 y2 y3 y4 hx0 hx1 o1 o2 o3 o4 ew ew' HW
 clear W
 have hbt := HT.out
 obtain ⟨v1, v2, g1, g2, g3, _⟩ := hbt
 obtain ⟨A1, c1, rfl⟩ := Kd.S_slice g2
 obtain ⟨A2, c2, rfl⟩ := Kd.R_slice g3
 have x0 := (aC_ g1 0).trans rfl
 have x1 := (aC_ g1 1).trans rfl
 have y0 := (aC_ HX.out 0).trans rfl
 have y1 := (aC_ HX.out 1).trans rfl
 have y2 := (aC_ HX.out 2).trans rfl
 have y3 := (aC_ HX.out 3).trans rfl
 have y4 := (aC_ HX.out 4).trans rfl
 clear g1 g2 g3
 go_wp2
 go_ret
 exact ⟨rfl, HB.out⟩
theorem a7_.end_none (B g N : Nat) (l : List El.Nd) (op : List Int) (nm tx : ByteArray) (em : Bool) (w : World) (h : TAt w B g N l op) (hop : op.length ≤ 100000) (hl : l.length ≤ 100000) (va : Value) (hno : op = []) :
 Calls Tryz.prog 17 #[.pointer (some ⟨g, 0, none⟩), .agg #[.int .i64 2, .string nm, .string tx, va, .bool em]] w fun e w' => e = .returned (.int .i64 6) ∧ Below w.heap.size w w' := by
 obtain ⟨W, hW⟩ : ∃ W, W = w.alloc (.cells #[.int .i64 2, .string nm, .string tx, va, .bool em] 45) := ⟨_, rfl⟩
 have hX : W.heap[w.heap.size]? = some (.cells #[.int .i64 2, .string nm, .string tx, va, .bool em] 45 (0, 0)) := by rw [hW]; exact heap_alloc_new w _
 have hBW : Below w.heap.size w W := by rw [hW]; exact aH_ (Below.refl _ _) _
 have HT := aA_.mk (h.below hBW)
 have HX := aA_.mk hX
 have HB := aA_.mk hBW
 have HW := Lib.hid hW
 have HGE := Lib.hid h.ge
 have hbt := HT.out
 obtain ⟨v1, v2, g1, g2, g3, _⟩ := hbt
 obtain ⟨A1, c1, rfl⟩ := Kd.S_slice g2
 obtain ⟨A2, c2, rfl⟩ := Kd.R_slice g3
 have x0 := (aC_ g1 0).trans rfl
 have x1 := (aC_ g1 1).trans rfl
 have y0 := (aC_ hX 0).trans rfl
 have y1 := (aC_ hX 1).trans rfl
 have y2 := (aC_ hX 2).trans rfl
 have y3 := (aC_ hX 3).trans rfl
 have y4 := (aC_ hX 4).trans rfl
 have hu := Tryz.underlying48
 have ht := Tryz.underlying45
 have hu2 := Tryz.underlying32
 subst hno
 rw [hW] at x0 x1 y0 y1 y2 y3 y4
 clear g1 g2 g3 h hX hBW hW
 go_enter Tryz.func17, Tryz.ntmps17
 go_wp2
 go_quiet (fail)
 go_wp2
 go_ret
 exact ⟨rfl, by rw [← HW.out]; exact aF_ HB.out _⟩
theorem a7_.end_other (B g N : Nat) (l : List El.Nd) (op : List Int) (nm tx : ByteArray) (em : Bool) (w : World) (h : TAt w B g N l op) (hop : op.length ≤ 100000) (hl : l.length ≤ 100000) (va : Value) (hso : op ≠ []) (h0 : 0 ≤ El.inner op) (h1 : El.inner op < (l.length : Int)) (hne : ¬ (bD_ l (El.inner op)).f1 = nm) :
 Calls Tryz.prog 17 #[.pointer (some ⟨g, 0, none⟩), .agg #[.int .i64 2, .string nm, .string tx, va, .bool em]] w fun e w' => e = .returned (.int .i64 6) ∧ Below w.heap.size w w' := by
 obtain ⟨W, hW⟩ : ∃ W, W = w.alloc (.cells #[.int .i64 2, .string nm, .string tx, va, .bool em] 45) := ⟨_, rfl⟩
 have hX : W.heap[w.heap.size]? = some (.cells #[.int .i64 2, .string nm, .string tx, va, .bool em] 45 (0, 0)) := by rw [hW]; exact heap_alloc_new w _
 have hBW : Below w.heap.size w W := by rw [hW]; exact aH_ (Below.refl _ _) _
 have HT := aA_.mk (h.below hBW)
 have HX := aA_.mk hX
 have HB := aA_.mk hBW
 have HW := Lib.hid hW
 have HGE := Lib.hid h.ge
 have hbt := HT.out
 obtain ⟨v1, v2, g1, g2, g3, _⟩ := hbt
 obtain ⟨A1, c1, rfl⟩ := Kd.S_slice g2
 obtain ⟨A2, c2, rfl⟩ := Kd.R_slice g3
 have x0 := (aC_ g1 0).trans rfl
 have x1 := (aC_ g1 1).trans rfl
 have y0 := (aC_ hX 0).trans rfl
 have y1 := (aC_ hX 1).trans rfl
 have y2 := (aC_ hX 2).trans rfl
 have y3 := (aC_ hX 3).trans rfl
 have y4 := (aC_ hX 4).trans rfl
 have hu := Tryz.underlying48
 have ht := Tryz.underlying45
 have hu2 := Tryz.underlying32
 have hlo : op.length ≠ 0 := fun h0 => hso (List.eq_nil_of_length_eq_zero h0)
 have ew : wrap64 ((op.length : Int) - 1) = (op.length : Int) - 1 := by unfold wrap64; omega
 obtain ⟨ad, e_, hx0⟩ := Kd.at_int (Kd.R_reads' g3).2.2 ((op.length : Int) - 1) (by omega) (by omega)
 cases e_
 rw [last_at op hso] at hx0
 have ew' : IntKind.i64.wrap ((op.length : Int) - 1) = (op.length : Int) - 1 := by rw [c6_]; exact ew
 obtain ⟨p, hp⟩ : ∃ p, p = El.inner op := ⟨_, rfl⟩
 rw [← hp] at hx0 h0 h1
 have HP := Lib.hid hp
 have HSO := Lib.hid hso
 have hx1 : W.cell? (ad.add (op.length - 1)) = some (.int .i64 p) := by rw [show ((op.length : Int) - 1).toNat = op.length - 1 from by omega] at hx0; exact hx0
 have o1 := eq_true (show (0 : Int) ≤ (op.length : Int) - 1 by omega)
 have o2 := eq_true (show (op.length : Int) - 1 < (op.length : Int) by omega)
 have o3 := eq_true (show (1 : Int) ≤ (op.length : Int) by omega)
 have o4 := eq_true (show 1 ≤ op.length by omega)
 have o5 : decide ((0 : Int) < (op.length : Int)) = true := decide_eq_true (by omega)
 have o6 : decide (0 < op.length) = true := decide_eq_true (by omega)
 have dn : decide (p < 0) = false := decide_eq_false (by omega)
 rw [hW] at x0 x1 y0 y1 y2 y3 y4 hx0 hx1
 clear g1 g2 g3 h hX hBW hW hp hso
 go_enter Tryz.func17, Tryz.ntmps17
 go_wp2
 go_quiet (fail)
 obtain ⟨W2, hW2⟩ : ∃ W2, W2 = (w.alloc (.cells #[.int .i64 2, .string nm, .string tx, va, .bool em] 45)).drewN nq := ⟨_, rfl⟩
 rw [← hW2]
 rw [← HW.out] at hW2
 replace HT := aA_.mk (show TAt W2 B g N l op from by rw [hW2]; exact HT.out.below (aF_ (Below.refl _ _) _))
 replace HX := aA_.mk (show W2.heap[w.heap.size]? = some (.cells #[.int .i64 2, .string nm, .string tx, va, .bool em] 45 (0, 0)) from by rw [hW2]; exact HX.out)
 replace HB := aA_.mk (show Below w.heap.size w W2 from by rw [hW2]; exact aF_ HB.out _)
 clear hW2 x0 x1 y0 y1 y2 y3 y4 hx0 hx1 o1 o2 o3 o4 ew ew' HW
 clear W
 have hbt := HT.out
 obtain ⟨v1, v2, g1, g2, g3, _⟩ := hbt
 obtain ⟨A1, c1, rfl⟩ := Kd.S_slice g2
 obtain ⟨A2, c2, rfl⟩ := Kd.R_slice g3
 have x0 := (aC_ g1 0).trans rfl
 have x1 := (aC_ g1 1).trans rfl
 have y0 := (aC_ HX.out 0).trans rfl
 have y1 := (aC_ HX.out 1).trans rfl
 have y2 := (aC_ HX.out 2).trans rfl
 have y3 := (aC_ HX.out 3).trans rfl
 have y4 := (aC_ HX.out 4).trans rfl
 obtain ⟨an, A3, c3, e_, q0, q1, _⟩ := dM_ (Kd.S_reads' g2).2.2 p h0 h1
 cases e_
 have r1 := eq_true h0
 have r2 := eq_true h1
 have s1 : ((bD_ l p).f1.toList == nm.toList) = false := by
  rw [HP.out, Bool.eq_false_iff]; intro h; rw [beq_iff_eq, toList_data, toList_data] at h
  exact hne (ByteArray.ext (Array.toList_inj.1 h))
 clear g1 g2 g3 hne
 go_wp2
 go_quiet (fail)
 go_wp2
 go_ret
 exact ⟨rfl, aF_ HB.out _⟩
theorem a7_.end_yes (B g N : Nat) (l : List El.Nd) (op : List Int) (nm tx : ByteArray) (em : Bool) (w : World) (h : TAt w B g N l op) (hop : op.length ≤ 100000) (hl : l.length ≤ 100000) (va : Value) (hso : op ≠ []) (h0 : 0 ≤ El.inner op) (h1 : El.inner op < (l.length : Int)) (hl2 : l.length ≤ 2000) (hne : (bD_ l (El.inner op)).f1 = nm) :
 Calls Tryz.prog 17 #[.pointer (some ⟨g, 0, none⟩), .agg #[.int .i64 2, .string nm, .string tx, va, .bool em]] w fun e w' => e = .returned (.int .i64 0) ∧ TAt w' B g w'.heap.size l op.dropLast ∧ Below B w w' := by
 obtain ⟨W, hW⟩ : ∃ W, W = w.alloc (.cells #[.int .i64 2, .string nm, .string tx, va, .bool em] 45) := ⟨_, rfl⟩
 have hX : W.heap[w.heap.size]? = some (.cells #[.int .i64 2, .string nm, .string tx, va, .bool em] 45 (0, 0)) := by rw [hW]; exact heap_alloc_new w _
 have hBW : Below w.heap.size w W := by rw [hW]; exact aH_ (Below.refl _ _) _
 have HT := aA_.mk (h.below hBW)
 have HX := aA_.mk hX
 have HB := aA_.mk hBW
 have HW := Lib.hid hW
 have HGE := Lib.hid h.ge
 have hbt := HT.out
 obtain ⟨v1, v2, g1, g2, g3, _⟩ := hbt
 obtain ⟨A1, c1, rfl⟩ := Kd.S_slice g2
 obtain ⟨A2, c2, rfl⟩ := Kd.R_slice g3
 have x0 := (aC_ g1 0).trans rfl
 have x1 := (aC_ g1 1).trans rfl
 have y0 := (aC_ hX 0).trans rfl
 have y1 := (aC_ hX 1).trans rfl
 have y2 := (aC_ hX 2).trans rfl
 have y3 := (aC_ hX 3).trans rfl
 have y4 := (aC_ hX 4).trans rfl
 have hu := Tryz.underlying48
 have ht := Tryz.underlying45
 have hu2 := Tryz.underlying32
 have hlo : op.length ≠ 0 := fun h0 => hso (List.eq_nil_of_length_eq_zero h0)
 have ew : wrap64 ((op.length : Int) - 1) = (op.length : Int) - 1 := by unfold wrap64; omega
 obtain ⟨ad, e_, hx0⟩ := Kd.at_int (Kd.R_reads' g3).2.2 ((op.length : Int) - 1) (by omega) (by omega)
 cases e_
 rw [last_at op hso] at hx0
 have ew' : IntKind.i64.wrap ((op.length : Int) - 1) = (op.length : Int) - 1 := by rw [c6_]; exact ew
 obtain ⟨p, hp⟩ : ∃ p, p = El.inner op := ⟨_, rfl⟩
 rw [← hp] at hx0 h0 h1
 have HP := Lib.hid hp
 have HSO := Lib.hid hso
 have hx1 : W.cell? (ad.add (op.length - 1)) = some (.int .i64 p) := by rw [show ((op.length : Int) - 1).toNat = op.length - 1 from by omega] at hx0; exact hx0
 have o1 := eq_true (show (0 : Int) ≤ (op.length : Int) - 1 by omega)
 have o2 := eq_true (show (op.length : Int) - 1 < (op.length : Int) by omega)
 have o3 := eq_true (show (1 : Int) ≤ (op.length : Int) by omega)
 have o4 := eq_true (show 1 ≤ op.length by omega)
 have o5 : decide ((0 : Int) < (op.length : Int)) = true := decide_eq_true (by omega)
 have o6 : decide (0 < op.length) = true := decide_eq_true (by omega)
 have dn : decide (p < 0) = false := decide_eq_false (by omega)
 rw [hW] at x0 x1 y0 y1 y2 y3 y4 hx0 hx1
 clear g1 g2 g3 h hX hBW hW hp hso
 go_enter Tryz.func17, Tryz.ntmps17
 go_wp2
 go_quiet (fail)
 obtain ⟨W2, hW2⟩ : ∃ W2, W2 = (w.alloc (.cells #[.int .i64 2, .string nm, .string tx, va, .bool em] 45)).drewN nq := ⟨_, rfl⟩
 rw [← hW2]
 rw [← HW.out] at hW2
 replace HT := aA_.mk (show TAt W2 B g N l op from by rw [hW2]; exact HT.out.below (aF_ (Below.refl _ _) _))
 replace HX := aA_.mk (show W2.heap[w.heap.size]? = some (.cells #[.int .i64 2, .string nm, .string tx, va, .bool em] 45 (0, 0)) from by rw [hW2]; exact HX.out)
 replace HB := aA_.mk (show Below w.heap.size w W2 from by rw [hW2]; exact aF_ HB.out _)
 clear hW2 x0 x1 y0 y1 y2 y3 y4 hx0 hx1 o1 o2 o3 o4 ew ew' HW
 clear W
 have hbt := HT.out
 obtain ⟨v1, v2, g1, g2, g3, _⟩ := hbt
 obtain ⟨A1, c1, rfl⟩ := Kd.S_slice g2
 obtain ⟨A2, c2, rfl⟩ := Kd.R_slice g3
 have x0 := (aC_ g1 0).trans rfl
 have x1 := (aC_ g1 1).trans rfl
 have y0 := (aC_ HX.out 0).trans rfl
 have y1 := (aC_ HX.out 1).trans rfl
 have y2 := (aC_ HX.out 2).trans rfl
 have y3 := (aC_ HX.out 3).trans rfl
 have y4 := (aC_ HX.out 4).trans rfl
 obtain ⟨an, A3, c3, e_, q0, q1, _⟩ := dM_ (Kd.S_reads' g2).2.2 p h0 h1
 cases e_
 have r1 := eq_true h0
 have r2 := eq_true h1
 have s1 : ((bD_ l p).f1.toList == nm.toList) = true := by rw [HP.out, hne, beq_self_eq_true]
 clear g1 g2 g3 hne
 go_wp2
 go_quiet (fail)
 go_wp2
 obtain ⟨W3, hW3⟩ : ∃ W3, W3 = W2.drewN nq := ⟨_, rfl⟩
 rw [← hW3]
 have hbt := HT.out.below (aF_ (Below.refl _ _) nq)
 rw [← hW3] at hbt
 replace HB := aA_.mk (show Below w.heap.size w W3 from by rw [hW3]; exact aF_ HB.out _)
 clear hW3 x0 x1 y0 y1 y2 y3 y4 q0 q1
 obtain ⟨v1, v2, g1, g2, g3, g4, g5⟩ := hbt
 obtain ⟨A1, c1, rfl⟩ := Kd.S_slice g2
 obtain ⟨g2_, c2, rfl, _⟩ := Kd.R_form g3 (by omega)
 have hc2 := (Kd.R_reads' g3).2.1
 have x0 := (aC_ g1 0).trans rfl
 have x1 := (aC_ g1 1).trans rfl
 have f1 := aE_ g1 1
 have ew : wrap64 ((op.length : Int) - 1) = (op.length : Int) - 1 := by unfold wrap64; omega
 have ew' : IntKind.i64.wrap ((op.length : Int) - 1) = (op.length : Int) - 1 := by rw [c6_]; exact ew
 have r1 := eq_true (show (0 : Int) ≤ (op.length : Int) - 1 by omega)
 have r2 := eq_true (show (op.length : Int) - 1 ≤ (c2 : Int) by omega)
 have r3 := eq_true (show op.length - 1 ≤ c2 by omega)
 have r4 : ((op.length : Int) - 1).toNat = op.length - 1 := by omega
 have r5 := eq_true (show (1 : Int) ≤ (op.length : Int) by omega)
 have r6 := eq_true (show 1 ≤ op.length by omega)
 have hc0 := eq_false (show ¬ (c2 = 0) by omega)
 have hc0' : (c2 == 0) = false := beq_eq_false_iff_ne.mpr (by omega)
 have G1 := aA_.mk g1
 have G2 := aA_.mk g2
 have G3 := aA_.mk g3
 have HH := Lib.hid (And.intro g4 g5)
 have z1 : decide ((2000 : Int) < (l.length : Int)) = false := decide_eq_false (by omega)
 have z2 : decide (2000 < l.length) = false := decide_eq_false (by omega)
 clear g1 g2 g3 g4 g5 hl2 hl hop h0 h1 hlo
 go_still_tail 14, (by kernel_rfl)
 go_wp2
 go_ret
 have P1 := c5_ G1.out 1 (.slice (some ⟨g2_, 0, none⟩) (op.length - 1) c2)
 have P2 := Kd.S_set G2.out G1.out (by decide) 1 (.slice (some ⟨g2_, 0, none⟩) (op.length - 1) c2)
 have P3 := Kd.R_set (Kd.R_take (m := op.length - 1) G3.out (by omega)) G1.out (by decide) 1 (.slice (some ⟨g2_, 0, none⟩) (op.length - 1) c2)
 have PB := (HB.out.mono (Nat.le_of_lt (Nat.lt_of_le_of_lt HGE.out.1 HGE.out.2.1))).setCell (p := ⟨g, 1, none⟩) HH.out.1 (.slice (some ⟨g2_, 0, none⟩) (op.length - 1) c2)
 have RB : TAt (W3.setCell ⟨g, 1, none⟩ (.slice (some ⟨g2_, 0, none⟩) (op.length - 1) c2)) B g (W3.setCell ⟨g, 1, none⟩ (.slice (some ⟨g2_, 0, none⟩) (op.length - 1) c2)).heap.size l op.dropLast :=
  ⟨.slice A1 l.length c1, .slice (some ⟨g2_, 0, none⟩) (op.length - 1) c2, by simpa using P1, Kd.S_mono (Kd.S_bound P2) (fun k hk => hk.2.2.1), by rw [List.dropLast_eq_take]; exact P3, HH.out.1, HH.out.2⟩
 exact ⟨rfl, RB.below (b5_ (Below.refl _ _)), b5_ PB⟩
theorem rspace_told (c : UInt8) : bS_.f (c.toNat : Int) = some (Tk.space c) := Tk.bytes_all (by kernel_rfl) c
theorem rtrim_right : ∀ (n : Nat) (l : List UInt8), l.length = n → l.length ≤ 1000000000 → ∃ k r, a6_.l1 k (Tk.bs l) = some r ∧ r.toList.isEmpty = l.all Tk.space := by
 intro n
 induction n with
 | zero =>
  intro l h _
  obtain rfl := List.eq_nil_of_length_eq_zero h
  exact ⟨1, Tk.bs [], by rw [a6_.l1, if_neg (by rw [bV_]; simp)], by rw [toList_data]; rfl⟩
 | succ n ih =>
  intro l h hl
  have hne : l ≠ [] := fun he => by rw [he] at h; cases h
  have hs := bV_ l
  obtain ⟨m, c, rfl⟩ : ∃ m c, l = m ++ [c] := ⟨l.dropLast, l.getLast hne, (List.dropLast_concat_getLast hne).symm⟩
  rw [List.length_append, List.length_singleton] at h hs hl
  have hw : wrap64 (((Tk.bs (m ++ [c])).size : Int) - 1) = (m.length : Int) := by rw [hs]; unfold wrap64; omega
  have hb : bt (Tk.bs (m ++ [c])) (m.length : Int) = (c.toNat : Int) := by rw [bs_bt (m ++ [c]) m.length (by simp)]; simp
  by_cases hc : Tk.space c = true
  rotate_left
  ·refine ⟨1, Tk.bs (m ++ [c]), ?_, ?_⟩
   ·rw [a6_.l1, if_pos (by rw [hs]; omega), hw, if_pos (by omega), if_pos (by rw [hs]; omega), hb, rspace_told, Option.bind_some, if_neg hc]
   ·rw [toList_data, List.all_append]
    have : Tk.space c = false := Bool.eq_false_iff.2 hc
    simp [Tk.bs, this]
  obtain ⟨k, r, hk, hr⟩ := ih m (by omega) (by omega)
  refine ⟨k + 1, r, ?_, by rw [hr, List.all_append]; simp [hc]⟩
  rw [a6_.l1, if_pos (by rw [hs]; omega), hw, if_pos (by omega), if_pos (by rw [hs]; omega), hb, rspace_told, hc, Option.bind_some, if_pos rfl, if_pos (by rw [hs]; omega)]
  have e : (Tk.bs (m ++ [c])).extract 0 ((m.length : Int)).toNat = Tk.bs m := by
   apply bs_ext
   rw [Int.toNat_natCast]
   simp [Tk.bs, ByteArray.data_extract]
  rw [e]; exact hk
theorem rtrim_left : ∀ (l : List UInt8), l.length ≤ 1000000000 → ∃ k r, a6_.l0 k (Tk.bs l) = some r ∧ r.toList.isEmpty = l.all Tk.space := by
 intro l
 induction l with
 | nil =>
  intro _
  obtain ⟨k, r, hk, hr⟩ := rtrim_right 0 [] rfl (by simp)
  exact ⟨k + 2, r, by rw [a6_.l0, if_neg (by rw [bV_]; simp), a6_.j1]; exact hk, hr⟩
 | cons c l ih =>
  intro hl
  have hs := bV_ (c :: l)
  rw [List.length_cons] at hs hl
  have hb : bt (Tk.bs (c :: l)) 0 = (c.toNat : Int) := by have := bs_bt (c :: l) 0 (by simp); simpa using this
  by_cases hc : Tk.space c = true
  rotate_left
  ·obtain ⟨k, r, hk, hr⟩ := rtrim_right _ (c :: l) rfl (by rw [List.length_cons]; omega)
   refine ⟨k + 2, r, ?_, hr⟩
   rw [a6_.l0, if_pos (by rw [hs]; omega), if_pos (by rw [hs]; omega), hb, rspace_told, Option.bind_some, if_neg hc, a6_.j1]
   exact hk
  obtain ⟨k, r, hk, hr⟩ := ih (by omega)
  refine ⟨k + 1, r, ?_, by rw [hr, List.all_cons, hc, Bool.true_and]⟩
  rw [a6_.l0, if_pos (by rw [hs]; omega), if_pos (by rw [hs]; omega), hb, rspace_told, hc, Option.bind_some, if_pos rfl, if_pos (by rw [hs]; omega)]
  have e : (Tk.bs (c :: l)).extract 1 (Tk.bs (c :: l)).size = Tk.bs l := by
   apply bs_ext
   rw [hs]
   simp [Tk.bs, ByteArray.data_extract]
  rw [e]; exact hk
theorem rtrim_blank (s : ByteArray) (hs : s.size ≤ 1000000000) : ∃ k r, a6_.f k s = some r ∧ r.toList.isEmpty = El.blank s := by
 have e : s = Tk.bs s.data.toList := (bs_data s).symm
 have hz := bV_ s.data.toList
 rw [← e] at hz
 obtain ⟨k, r, hk, hr⟩ := rtrim_left s.data.toList (by omega)
 rw [← e] at hk
 exact ⟨k, r, hk, hr⟩
theorem a7_.text_out (B g N : Nat) (l : List El.Nd) (op : List Int) (nm tx : ByteArray) (em : Bool) (w : World) (h : TAt w B g N l op) (hop : op.length ≤ 100000) (hl : l.length ≤ 100000) (va : Value) (r : Int) (hG : Glob w) (hs : tx.size ≤ 1000000000) (hr : r = if El.blank tx = true then 0 else 6) (hno : op = []) :
 Calls Tryz.prog 17 #[.pointer (some ⟨g, 0, none⟩), .agg #[.int .i64 3, .string nm, .string tx, va, .bool em]] w fun e w' => e = .returned (.int .i64 r) ∧ Below w.heap.size w w' := by
 obtain ⟨W, hW⟩ : ∃ W, W = w.alloc (.cells #[.int .i64 3, .string nm, .string tx, va, .bool em] 45) := ⟨_, rfl⟩
 have hX : W.heap[w.heap.size]? = some (.cells #[.int .i64 3, .string nm, .string tx, va, .bool em] 45 (0, 0)) := by rw [hW]; exact heap_alloc_new w _
 have hBW : Below w.heap.size w W := by rw [hW]; exact aH_ (Below.refl _ _) _
 have HT := aA_.mk (h.below hBW)
 have HX := aA_.mk hX
 have HB := aA_.mk hBW
 have HW := Lib.hid hW
 have HGE := Lib.hid h.ge
 have hbt := HT.out
 obtain ⟨v1, v2, g1, g2, g3, _⟩ := hbt
 obtain ⟨A1, c1, rfl⟩ := Kd.S_slice g2
 obtain ⟨A2, c2, rfl⟩ := Kd.R_slice g3
 have x0 := (aC_ g1 0).trans rfl
 have x1 := (aC_ g1 1).trans rfl
 have y0 := (aC_ hX 0).trans rfl
 have y1 := (aC_ hX 1).trans rfl
 have y2 := (aC_ hX 2).trans rfl
 have y3 := (aC_ hX 3).trans rfl
 have y4 := (aC_ hX 4).trans rfl
 have hu := Tryz.underlying48
 have ht := Tryz.underlying45
 have hu2 := Tryz.underlying32
 obtain ⟨k, x, hk, hx⟩ := rtrim_blank tx hs
 have HK := aA_.mk hk
 have HG := aA_.mk (hG.step hBW)
 rw [hW] at HG
 have HR := Lib.hid hr
 obtain ⟨b, hb⟩ : ∃ b, b = El.blank tx := ⟨_, rfl⟩
 rw [← hb] at hx
 have HBL := Lib.hid hb
 clear hk hG hr hb
 subst hno
 rw [hW] at x0 x1 y0 y1 y2 y3 y4
 clear g1 g2 g3 h hX hBW hW
 go_enter Tryz.func17, Tryz.ntmps17
 cases b with
 | true =>
  go_wp2_with (first | (go_at_call 28; (with_reducible refine (a6_.calls k tx x _ HG.out HK.out).mono ?_); rintro e w2 ⟨rfl, ⟨nd2, rfl⟩⟩))
  go_ret
  exact ⟨by rw [HR.out, ← HBL.out, if_pos rfl]; rfl, by rw [← HW.out]; exact aF_ HB.out _⟩
 | false =>
  go_wp2_with (first | (go_at_call 28; (with_reducible refine (a6_.calls k tx x _ HG.out HK.out).mono ?_); rintro e w2 ⟨rfl, ⟨nd2, rfl⟩⟩))
  go_ret
  exact ⟨by rw [HR.out, ← HBL.out]; rfl, by rw [← HW.out]; exact aF_ HB.out _⟩
theorem a7_.text_same (B g N : Nat) (l : List El.Nd) (op : List Int) (nm tx : ByteArray) (em : Bool) (w : World) (h : TAt w B g N l op) (hop : op.length ≤ 100000) (hl : l.length ≤ 100000) (va : Value) (hso : op ≠ []) (h0 : 0 ≤ El.inner op) (h1 : El.inner op < (l.length : Int)) (hs : tx = El.nul) :
 Calls Tryz.prog 17 #[.pointer (some ⟨g, 0, none⟩), .agg #[.int .i64 3, .string nm, .string tx, va, .bool em]] w fun e w' => e = .returned (.int .i64 0) ∧ Below w.heap.size w w' := by
 obtain ⟨W, hW⟩ : ∃ W, W = w.alloc (.cells #[.int .i64 3, .string nm, .string tx, va, .bool em] 45) := ⟨_, rfl⟩
 have hX : W.heap[w.heap.size]? = some (.cells #[.int .i64 3, .string nm, .string tx, va, .bool em] 45 (0, 0)) := by rw [hW]; exact heap_alloc_new w _
 have hBW : Below w.heap.size w W := by rw [hW]; exact aH_ (Below.refl _ _) _
 have HT := aA_.mk (h.below hBW)
 have HX := aA_.mk hX
 have HB := aA_.mk hBW
 have HW := Lib.hid hW
 have HGE := Lib.hid h.ge
 have hbt := HT.out
 obtain ⟨v1, v2, g1, g2, g3, _⟩ := hbt
 obtain ⟨A1, c1, rfl⟩ := Kd.S_slice g2
 obtain ⟨A2, c2, rfl⟩ := Kd.R_slice g3
 have x0 := (aC_ g1 0).trans rfl
 have x1 := (aC_ g1 1).trans rfl
 have y0 := (aC_ hX 0).trans rfl
 have y1 := (aC_ hX 1).trans rfl
 have y2 := (aC_ hX 2).trans rfl
 have y3 := (aC_ hX 3).trans rfl
 have y4 := (aC_ hX 4).trans rfl
 have hu := Tryz.underlying48
 have ht := Tryz.underlying45
 have hu2 := Tryz.underlying32
 have s1 := cY_ tx
 rw [decide_eq_true hs] at s1
 clear hs
 have hlo : op.length ≠ 0 := fun h0 => hso (List.eq_nil_of_length_eq_zero h0)
 have ew : wrap64 ((op.length : Int) - 1) = (op.length : Int) - 1 := by unfold wrap64; omega
 obtain ⟨ad, e_, hx0⟩ := Kd.at_int (Kd.R_reads' g3).2.2 ((op.length : Int) - 1) (by omega) (by omega)
 cases e_
 rw [last_at op hso] at hx0
 have ew' : IntKind.i64.wrap ((op.length : Int) - 1) = (op.length : Int) - 1 := by rw [c6_]; exact ew
 obtain ⟨p, hp⟩ : ∃ p, p = El.inner op := ⟨_, rfl⟩
 rw [← hp] at hx0 h0 h1
 have HP := Lib.hid hp
 have HSO := Lib.hid hso
 have hx1 : W.cell? (ad.add (op.length - 1)) = some (.int .i64 p) := by rw [show ((op.length : Int) - 1).toNat = op.length - 1 from by omega] at hx0; exact hx0
 have o1 := eq_true (show (0 : Int) ≤ (op.length : Int) - 1 by omega)
 have o2 := eq_true (show (op.length : Int) - 1 < (op.length : Int) by omega)
 have o3 := eq_true (show (1 : Int) ≤ (op.length : Int) by omega)
 have o4 := eq_true (show 1 ≤ op.length by omega)
 have o5 : decide ((0 : Int) < (op.length : Int)) = true := decide_eq_true (by omega)
 have o6 : decide (0 < op.length) = true := decide_eq_true (by omega)
 have dn : decide (p < 0) = false := decide_eq_false (by omega)
 rw [hW] at x0 x1 y0 y1 y2 y3 y4 hx0 hx1
 clear g1 g2 g3 h hX hBW hW hp hso
 go_enter Tryz.func17, Tryz.ntmps17
 go_wp2
 go_quiet (fail)
 obtain ⟨W2, hW2⟩ : ∃ W2, W2 = (w.alloc (.cells #[.int .i64 3, .string nm, .string tx, va, .bool em] 45)).drewN nq := ⟨_, rfl⟩
 rw [← hW2]
 rw [← HW.out] at hW2
 replace HT := aA_.mk (show TAt W2 B g N l op from by rw [hW2]; exact HT.out.below (aF_ (Below.refl _ _) _))
 replace HX := aA_.mk (show W2.heap[w.heap.size]? = some (.cells #[.int .i64 3, .string nm, .string tx, va, .bool em] 45 (0, 0)) from by rw [hW2]; exact HX.out)
 replace HB := aA_.mk (show Below w.heap.size w W2 from by rw [hW2]; exact aF_ HB.out _)
 clear hW2 x0 x1 y0 y1 y2 y3 y4 hx0 hx1 o1 o2 o3 o4 ew ew' HW
 clear W
 have hbt := HT.out
 obtain ⟨v1, v2, g1, g2, g3, _⟩ := hbt
 obtain ⟨A1, c1, rfl⟩ := Kd.S_slice g2
 obtain ⟨A2, c2, rfl⟩ := Kd.R_slice g3
 have x0 := (aC_ g1 0).trans rfl
 have x1 := (aC_ g1 1).trans rfl
 have y0 := (aC_ HX.out 0).trans rfl
 have y1 := (aC_ HX.out 1).trans rfl
 have y2 := (aC_ HX.out 2).trans rfl
 have y3 := (aC_ HX.out 3).trans rfl
 have y4 := (aC_ HX.out 4).trans rfl
 clear g1 g2 g3
 obtain ⟨kk, hkk⟩ : ∃ kk, kk = El.lastK l (El.inner op) := ⟨_, rfl⟩
 have CL := aA_.mk (dU_.calls B g N l op W2 HT.out hop hl HSO.out)
 rw [← hkk] at CL
 have HKK := Lib.hid hkk
 clear hkk
 go_wp2_with (first | (go_at_call 29; (with_reducible refine (CL.out).mono ?_); rintro e w3 ⟨rfl, ⟨nd1, rfl⟩⟩))
 go_ret
 exact ⟨rfl, aF_ HB.out _⟩
theorem a7_.text_put (B g N : Nat) (l : List El.Nd) (op : List Int) (nm tx : ByteArray) (em : Bool) (w : World) (h : TAt w B g N l op) (hop : op.length ≤ 100000) (hl : l.length ≤ 100000) (va : Value) (big : Bool) (hbig : big = decide (2000 ≤ l.length)) (hso : op ≠ []) (h0 : 0 ≤ El.inner op) (h1 : El.inner op < (l.length : Int)) (hs : tx ≠ El.nul) (hnew : ∀ k, El.lastI l (El.inner op) = some k → ¬ (bD_ l (k : Int)).f1 = El.nul) :
 Calls Tryz.prog 17 #[.pointer (some ⟨g, 0, none⟩), .agg #[.int .i64 3, .string nm, .string tx, va, .bool em]] w fun e w' => e = .returned (.int .i64 (bif big then 3 else 0)) ∧ TAt w' B g w'.heap.size (l ++ [⟨El.inner op, El.nul, tx, []⟩]) op ∧ Below B w w' := by
 obtain ⟨W, hW⟩ : ∃ W, W = w.alloc (.cells #[.int .i64 3, .string nm, .string tx, va, .bool em] 45) := ⟨_, rfl⟩
 have hX : W.heap[w.heap.size]? = some (.cells #[.int .i64 3, .string nm, .string tx, va, .bool em] 45 (0, 0)) := by rw [hW]; exact heap_alloc_new w _
 have hBW : Below w.heap.size w W := by rw [hW]; exact aH_ (Below.refl _ _) _
 have HT := aA_.mk (h.below hBW)
 have HX := aA_.mk hX
 have HB := aA_.mk hBW
 have HW := Lib.hid hW
 have HGE := Lib.hid h.ge
 have hbt := HT.out
 obtain ⟨v1, v2, g1, g2, g3, _⟩ := hbt
 obtain ⟨A1, c1, rfl⟩ := Kd.S_slice g2
 obtain ⟨A2, c2, rfl⟩ := Kd.R_slice g3
 have x0 := (aC_ g1 0).trans rfl
 have x1 := (aC_ g1 1).trans rfl
 have y0 := (aC_ hX 0).trans rfl
 have y1 := (aC_ hX 1).trans rfl
 have y2 := (aC_ hX 2).trans rfl
 have y3 := (aC_ hX 3).trans rfl
 have y4 := (aC_ hX 4).trans rfl
 have hu := Tryz.underlying48
 have ht := Tryz.underlying45
 have hu2 := Tryz.underlying32
 have s1 := cY_ tx
 rw [decide_eq_false hs] at s1
 clear hs
 have hlo : op.length ≠ 0 := fun h0 => hso (List.eq_nil_of_length_eq_zero h0)
 have ew : wrap64 ((op.length : Int) - 1) = (op.length : Int) - 1 := by unfold wrap64; omega
 obtain ⟨ad, e_, hx0⟩ := Kd.at_int (Kd.R_reads' g3).2.2 ((op.length : Int) - 1) (by omega) (by omega)
 cases e_
 rw [last_at op hso] at hx0
 have ew' : IntKind.i64.wrap ((op.length : Int) - 1) = (op.length : Int) - 1 := by rw [c6_]; exact ew
 obtain ⟨p, hp⟩ : ∃ p, p = El.inner op := ⟨_, rfl⟩
 rw [← hp] at hx0 h0 h1
 have HP := Lib.hid hp
 have HSO := Lib.hid hso
 have hx1 : W.cell? (ad.add (op.length - 1)) = some (.int .i64 p) := by rw [show ((op.length : Int) - 1).toNat = op.length - 1 from by omega] at hx0; exact hx0
 have o1 := eq_true (show (0 : Int) ≤ (op.length : Int) - 1 by omega)
 have o2 := eq_true (show (op.length : Int) - 1 < (op.length : Int) by omega)
 have o3 := eq_true (show (1 : Int) ≤ (op.length : Int) by omega)
 have o4 := eq_true (show 1 ≤ op.length by omega)
 have o5 : decide ((0 : Int) < (op.length : Int)) = true := decide_eq_true (by omega)
 have o6 : decide (0 < op.length) = true := decide_eq_true (by omega)
 have dn : decide (p < 0) = false := decide_eq_false (by omega)
 rw [hW] at x0 x1 y0 y1 y2 y3 y4 hx0 hx1
 clear g1 g2 g3 h hX hBW hW hp hso
 go_enter Tryz.func17, Tryz.ntmps17
 go_wp2
 go_quiet (fail)
 obtain ⟨W2, hW2⟩ : ∃ W2, W2 = (w.alloc (.cells #[.int .i64 3, .string nm, .string tx, va, .bool em] 45)).drewN nq := ⟨_, rfl⟩
 rw [← hW2]
 rw [← HW.out] at hW2
 replace HT := aA_.mk (show TAt W2 B g N l op from by rw [hW2]; exact HT.out.below (aF_ (Below.refl _ _) _))
 replace HX := aA_.mk (show W2.heap[w.heap.size]? = some (.cells #[.int .i64 3, .string nm, .string tx, va, .bool em] 45 (0, 0)) from by rw [hW2]; exact HX.out)
 replace HB := aA_.mk (show Below w.heap.size w W2 from by rw [hW2]; exact aF_ HB.out _)
 clear hW2 x0 x1 y0 y1 y2 y3 y4 hx0 hx1 o1 o2 o3 o4 ew ew' HW
 clear W
 have hbt := HT.out
 obtain ⟨v1, v2, g1, g2, g3, _⟩ := hbt
 obtain ⟨A1, c1, rfl⟩ := Kd.S_slice g2
 obtain ⟨A2, c2, rfl⟩ := Kd.R_slice g3
 have x0 := (aC_ g1 0).trans rfl
 have x1 := (aC_ g1 1).trans rfl
 have y0 := (aC_ HX.out 0).trans rfl
 have y1 := (aC_ HX.out 1).trans rfl
 have y2 := (aC_ HX.out 2).trans rfl
 have y3 := (aC_ HX.out 3).trans rfl
 have y4 := (aC_ HX.out 4).trans rfl
 clear g1 g3
 obtain ⟨kk, hkk⟩ : ∃ kk, kk = El.lastK l (El.inner op) := ⟨_, rfl⟩
 have CL := aA_.mk (dU_.calls B g N l op W2 HT.out hop hl HSO.out)
 rw [← hkk] at CL
 have HKK := Lib.hid hkk
 clear hkk
 have HNEW := Lib.hid hnew
 clear hnew
 cases hk : El.lastI l (El.inner op) with
 | none =>
  have dk : decide ((0 : Int) ≤ kk) = false := by rw [HKK.out]; unfold El.lastK; rw [hk]; rfl
  clear hk g2 HNEW
  go_wp2_with (first | (go_at_call 29; (with_reducible refine (CL.out).mono ?_); rintro e w3 ⟨rfl, ⟨nd1, rfl⟩⟩))
  obtain ⟨W3, hW3⟩ : ∃ W3, W3 = W2.drewN nd1 := ⟨_, rfl⟩
  rw [← hW3]
  have hbt := (HT.out.below (aF_ (Below.refl _ _) nd1)).now
  rw [← hW3] at hbt
  replace HX := aA_.mk (show W3.heap[w.heap.size]? = some (.cells #[.int .i64 3, .string nm, .string tx, va, .bool em] 45 (0, 0)) from by rw [hW3]; exact HX.out)
  replace HB := aA_.mk (show Below w.heap.size w W3 from by rw [hW3]; exact aF_ HB.out _)
  clear hW3 CL
  clear x0 x1 y0 y1 y2 y3 y4
  obtain ⟨v1, v2, g1, g2, g3, g4, g5⟩ := hbt
  obtain ⟨A1, c1, rfl⟩ := Kd.S_slice g2
  obtain ⟨A2, c2, rfl⟩ := Kd.R_slice g3
  have x0 := (aC_ g1 0).trans rfl
  have x1 := (aC_ g1 1).trans rfl
  have z0 := aE_ g1 0
  have x0a := fun o => (aC_ (aV_ g1 o) 0).trans rfl
  have y0 := (aC_ HX.out 0).trans rfl
  have y1 := (aC_ HX.out 1).trans rfl
  have y2 := (aC_ HX.out 2).trans rfl
  have y3 := (aC_ HX.out 3).trans rfl
  have y4 := (aC_ HX.out 4).trans rfl
  have z1 : decide ((2000 : Int) < ((l ++ [(⟨p, (⟨#[]⟩ : ByteArray), tx, []⟩ : El.Nd)]).length : Int)) = big := by rw [hbig]; simp only [List.length_append, List.length_singleton]; exact decide_eq_decide.2 (by omega)
  have z2 : decide (2000 < l.length + 1) = big := by rw [hbig]; exact decide_eq_decide.2 (by omega)
  have z3 : decide ((2000 : Int) < (l.length : Int) + 1) = big := by rw [hbig]; exact decide_eq_decide.2 (by omega)
  have z4 : decide (2000 ≤ l.length) = big := by rw [hbig]
  have G1 := aA_.mk g1
  have G2 := aA_.mk g2
  have G3 := aA_.mk g3
  have HH := Lib.hid (And.intro g4 g5)
  have HBB := aA_.mk (HB.out.mono (Nat.le_of_lt (Nat.lt_of_le_of_lt HGE.out.1 HGE.out.2.1)))
  have hWB : B ≤ W3.heap.size := Nat.le_of_lt (Nat.lt_of_le_of_lt g4 (cT_ g1))
  clear g1 g2 g3 g4 g5 h0 h1 hlo
  clear hbig
  go_region_law (refine Kd.S_append_step k32 (w0 := w) (W := W3.drew) B (by rfl) (.tmp 167) (.tmp 172) 23 32 _ 64 rfl Tryz.underlying23 ndInfo rfl (by decide) (by decide) (.slice A1 l.length c1) l ⟨p, (⟨#[]⟩ : ByteArray), tx, []⟩ [.int .i64 p, .string ⟨#[]⟩, .string tx, .slice none 0 0] (fun _ => True) (fun _ => False) rfl rfl (k32_mkM _ _ _ ⟨p, (⟨#[]⟩ : ByteArray), tx, []⟩ (Kd.R_nil _ _ _ _ _)) (fun _ h => h.elim) (fun _ _ => trivial) (Kd.S_mono (Kd.S_drew G2.out) (fun k hk => ⟨trivial, fun h => h⟩)) (b5_ HBB.out) hWB (by omega) ?_; intro v1 w2 r1 b1 gg at1; obtain ⟨A3, c3, rfl⟩ := Kd.S_slice r1; have R1 := aA_.mk r1; have B1 := aA_.mk b1; have G4 := aA_.mk (b6_ (a0_ G1.out) gg (Kd.S_ne G2.out G1.out (by decide))); have G5 := aA_.mk (Kd.R_over' (Kd.R_drew G3.out) (Kd.S_typed (Kd.S_drew G2.out)) (by decide) gg); clear r1 b1 gg at1; have zz2 := aE_ G4.out 0; have yy2 := (aC_ G4.out 0).trans rfl)
  all_goals
   cases big
  all_goals
   go_wp2
   go_ret
   have P1 := c5_ G4.out 0 (.slice A3 (l ++ [(⟨p, (⟨#[]⟩ : ByteArray), tx, []⟩ : El.Nd)]).length c3)
   have P2 := Kd.S_set R1.out G4.out (by decide) 0 (.slice A3 (l ++ [(⟨p, (⟨#[]⟩ : ByteArray), tx, []⟩ : El.Nd)]).length c3)
   have P3 := Kd.R_set G5.out G4.out (by decide) 0 (.slice A3 (l ++ [(⟨p, (⟨#[]⟩ : ByteArray), tx, []⟩ : El.Nd)]).length c3)
   have P4 := B1.out.setCell (p := ⟨g, 0, none⟩) HH.out.1 (.slice A3 (l ++ [(⟨p, (⟨#[]⟩ : ByteArray), tx, []⟩ : El.Nd)]).length c3)
   have el : (l ++ [(⟨p, (⟨#[]⟩ : ByteArray), tx, []⟩ : El.Nd)]).length = l.length + 1 := by simp
   rw [el] at P1 P2 P3 P4
   rw [← HP.out]
   exact ⟨rfl, ⟨_, _, by simpa using P1, Kd.S_mono (Kd.S_bound P2) (fun k hk => hk.2.2.1), P3, HH.out⟩, P4⟩
 | some k =>
  have hkl := El.lastI_lt l _ k hk
  have ek : kk = (k : Int) := by rw [HKK.out]; unfold El.lastK; rw [hk]
  clear HKK
  subst ek
  obtain ⟨an, A3, c3, e_, q0, q1, _⟩ := dM_ (Kd.S_reads' g2).2.2 (k : Int) (by omega) (by omega)
  cases e_
  simp only [Int.toNat_natCast] at q0 q1
  have s2 := cY_ (bD_ l (k : Int)).f1
  rw [decide_eq_false (HNEW.out k hk)] at s2
  have n1 := eq_true (show (0 : Int) ≤ (k : Int) by omega)
  have n2 := eq_true (show (k : Int) < (l.length : Int) by omega)
  have n3 := eq_true (show k < l.length by omega)
  have dk : decide ((0 : Int) ≤ (k : Int)) = true := decide_eq_true (by omega)
  clear hk g2 HNEW
  go_wp2_with (first | (go_at_call 29; (with_reducible refine (CL.out).mono ?_); rintro e w3 ⟨rfl, ⟨nd1, rfl⟩⟩))
  obtain ⟨W3, hW3⟩ : ∃ W3, W3 = W2.drewN nd1 := ⟨_, rfl⟩
  rw [← hW3]
  have hbt := (HT.out.below (aF_ (Below.refl _ _) nd1)).now
  rw [← hW3] at hbt
  replace HX := aA_.mk (show W3.heap[w.heap.size]? = some (.cells #[.int .i64 3, .string nm, .string tx, va, .bool em] 45 (0, 0)) from by rw [hW3]; exact HX.out)
  replace HB := aA_.mk (show Below w.heap.size w W3 from by rw [hW3]; exact aF_ HB.out _)
  clear hW3 CL
  clear x0 x1 y0 y1 y2 y3 y4
  obtain ⟨v1, v2, g1, g2, g3, g4, g5⟩ := hbt
  obtain ⟨A1, c1, rfl⟩ := Kd.S_slice g2
  obtain ⟨A2, c2, rfl⟩ := Kd.R_slice g3
  have x0 := (aC_ g1 0).trans rfl
  have x1 := (aC_ g1 1).trans rfl
  have z0 := aE_ g1 0
  have x0a := fun o => (aC_ (aV_ g1 o) 0).trans rfl
  have y0 := (aC_ HX.out 0).trans rfl
  have y1 := (aC_ HX.out 1).trans rfl
  have y2 := (aC_ HX.out 2).trans rfl
  have y3 := (aC_ HX.out 3).trans rfl
  have y4 := (aC_ HX.out 4).trans rfl
  have z1 : decide ((2000 : Int) < ((l ++ [(⟨p, (⟨#[]⟩ : ByteArray), tx, []⟩ : El.Nd)]).length : Int)) = big := by rw [hbig]; simp only [List.length_append, List.length_singleton]; exact decide_eq_decide.2 (by omega)
  have z2 : decide (2000 < l.length + 1) = big := by rw [hbig]; exact decide_eq_decide.2 (by omega)
  have z3 : decide ((2000 : Int) < (l.length : Int) + 1) = big := by rw [hbig]; exact decide_eq_decide.2 (by omega)
  have z4 : decide (2000 ≤ l.length) = big := by rw [hbig]
  have G1 := aA_.mk g1
  have G2 := aA_.mk g2
  have G3 := aA_.mk g3
  have HH := Lib.hid (And.intro g4 g5)
  have HBB := aA_.mk (HB.out.mono (Nat.le_of_lt (Nat.lt_of_le_of_lt HGE.out.1 HGE.out.2.1)))
  have hWB : B ≤ W3.heap.size := Nat.le_of_lt (Nat.lt_of_le_of_lt g4 (cT_ g1))
  clear g1 g2 g3 g4 g5 h0 h1 hlo
  clear hbig
  go_region_law (refine Kd.S_append_step k32 (w0 := w) (W := W3.drew) B (by rfl) (.tmp 167) (.tmp 172) 23 32 _ 64 rfl Tryz.underlying23 ndInfo rfl (by decide) (by decide) (.slice A1 l.length c1) l ⟨p, (⟨#[]⟩ : ByteArray), tx, []⟩ [.int .i64 p, .string ⟨#[]⟩, .string tx, .slice none 0 0] (fun _ => True) (fun _ => False) rfl rfl (k32_mkM _ _ _ ⟨p, (⟨#[]⟩ : ByteArray), tx, []⟩ (Kd.R_nil _ _ _ _ _)) (fun _ h => h.elim) (fun _ _ => trivial) (Kd.S_mono (Kd.S_drew G2.out) (fun k hk => ⟨trivial, fun h => h⟩)) (b5_ HBB.out) hWB (by omega) ?_; intro v1 w2 r1 b1 gg at1; obtain ⟨A3, c3, rfl⟩ := Kd.S_slice r1; have R1 := aA_.mk r1; have B1 := aA_.mk b1; have G4 := aA_.mk (b6_ (a0_ G1.out) gg (Kd.S_ne G2.out G1.out (by decide))); have G5 := aA_.mk (Kd.R_over' (Kd.R_drew G3.out) (Kd.S_typed (Kd.S_drew G2.out)) (by decide) gg); clear r1 b1 gg at1; have zz2 := aE_ G4.out 0; have yy2 := (aC_ G4.out 0).trans rfl)
  all_goals
   cases big
  all_goals
   go_wp2
   go_ret
   have P1 := c5_ G4.out 0 (.slice A3 (l ++ [(⟨p, (⟨#[]⟩ : ByteArray), tx, []⟩ : El.Nd)]).length c3)
   have P2 := Kd.S_set R1.out G4.out (by decide) 0 (.slice A3 (l ++ [(⟨p, (⟨#[]⟩ : ByteArray), tx, []⟩ : El.Nd)]).length c3)
   have P3 := Kd.R_set G5.out G4.out (by decide) 0 (.slice A3 (l ++ [(⟨p, (⟨#[]⟩ : ByteArray), tx, []⟩ : El.Nd)]).length c3)
   have P4 := B1.out.setCell (p := ⟨g, 0, none⟩) HH.out.1 (.slice A3 (l ++ [(⟨p, (⟨#[]⟩ : ByteArray), tx, []⟩ : El.Nd)]).length c3)
   have el : (l ++ [(⟨p, (⟨#[]⟩ : ByteArray), tx, []⟩ : El.Nd)]).length = l.length + 1 := by simp
   rw [el] at P1 P2 P3 P4
   rw [← HP.out]
   exact ⟨rfl, ⟨_, _, by simpa using P1, Kd.S_mono (Kd.S_bound P2) (fun k hk => hk.2.2.1), P3, HH.out⟩, P4⟩
theorem a7_.text_add (B g N : Nat) (l : List El.Nd) (op : List Int) (nm tx : ByteArray) (em : Bool) (w : World) (h : TAt w B g N l op) (hop : op.length ≤ 100000) (hl : l.length ≤ 100000) (va : Value) (k : Nat) (hso : op ≠ []) (h0 : 0 ≤ El.inner op) (h1 : El.inner op < (l.length : Int)) (hs : tx ≠ El.nul) (hk : El.lastI l (El.inner op) = Option.some k) (hname : (bD_ l (k : Int)).f1 = El.nul) (hsz : (bD_ l (k : Int)).f2.size + tx.size ≤ 1000000000000) :
 Calls Tryz.prog 17 #[.pointer (some ⟨g, 0, none⟩), .agg #[.int .i64 3, .string nm, .string tx, va, .bool em]] w fun e w' => e = .returned (.int .i64 0) ∧ TAt w' B g w'.heap.size (l.set k { bD_ l (k : Int) with f2 := (bD_ l (k : Int)).f2 ++ tx }) op ∧ Below B w w' := by
 obtain ⟨W, hW⟩ : ∃ W, W = w.alloc (.cells #[.int .i64 3, .string nm, .string tx, va, .bool em] 45) := ⟨_, rfl⟩
 have hX : W.heap[w.heap.size]? = some (.cells #[.int .i64 3, .string nm, .string tx, va, .bool em] 45 (0, 0)) := by rw [hW]; exact heap_alloc_new w _
 have hBW : Below w.heap.size w W := by rw [hW]; exact aH_ (Below.refl _ _) _
 have HT := aA_.mk (h.below hBW)
 have HX := aA_.mk hX
 have HB := aA_.mk hBW
 have HW := Lib.hid hW
 have HGE := Lib.hid h.ge
 have hbt := HT.out
 obtain ⟨v1, v2, g1, g2, g3, _⟩ := hbt
 obtain ⟨A1, c1, rfl⟩ := Kd.S_slice g2
 obtain ⟨A2, c2, rfl⟩ := Kd.R_slice g3
 have x0 := (aC_ g1 0).trans rfl
 have x1 := (aC_ g1 1).trans rfl
 have y0 := (aC_ hX 0).trans rfl
 have y1 := (aC_ hX 1).trans rfl
 have y2 := (aC_ hX 2).trans rfl
 have y3 := (aC_ hX 3).trans rfl
 have y4 := (aC_ hX 4).trans rfl
 have hu := Tryz.underlying48
 have ht := Tryz.underlying45
 have hu2 := Tryz.underlying32
 have s1 := cY_ tx
 rw [decide_eq_false hs] at s1
 clear hs
 have hlo : op.length ≠ 0 := fun h0 => hso (List.eq_nil_of_length_eq_zero h0)
 have ew : wrap64 ((op.length : Int) - 1) = (op.length : Int) - 1 := by unfold wrap64; omega
 obtain ⟨ad, e_, hx0⟩ := Kd.at_int (Kd.R_reads' g3).2.2 ((op.length : Int) - 1) (by omega) (by omega)
 cases e_
 rw [last_at op hso] at hx0
 have ew' : IntKind.i64.wrap ((op.length : Int) - 1) = (op.length : Int) - 1 := by rw [c6_]; exact ew
 obtain ⟨p, hp⟩ : ∃ p, p = El.inner op := ⟨_, rfl⟩
 rw [← hp] at hx0 h0 h1
 have HP := Lib.hid hp
 have HSO := Lib.hid hso
 have hx1 : W.cell? (ad.add (op.length - 1)) = some (.int .i64 p) := by rw [show ((op.length : Int) - 1).toNat = op.length - 1 from by omega] at hx0; exact hx0
 have o1 := eq_true (show (0 : Int) ≤ (op.length : Int) - 1 by omega)
 have o2 := eq_true (show (op.length : Int) - 1 < (op.length : Int) by omega)
 have o3 := eq_true (show (1 : Int) ≤ (op.length : Int) by omega)
 have o4 := eq_true (show 1 ≤ op.length by omega)
 have o5 : decide ((0 : Int) < (op.length : Int)) = true := decide_eq_true (by omega)
 have o6 : decide (0 < op.length) = true := decide_eq_true (by omega)
 have dn : decide (p < 0) = false := decide_eq_false (by omega)
 rw [hW] at x0 x1 y0 y1 y2 y3 y4 hx0 hx1
 clear g1 g2 g3 h hX hBW hW hp hso
 go_enter Tryz.func17, Tryz.ntmps17
 go_wp2
 go_quiet (fail)
 obtain ⟨W2, hW2⟩ : ∃ W2, W2 = (w.alloc (.cells #[.int .i64 3, .string nm, .string tx, va, .bool em] 45)).drewN nq := ⟨_, rfl⟩
 rw [← hW2]
 rw [← HW.out] at hW2
 replace HT := aA_.mk (show TAt W2 B g N l op from by rw [hW2]; exact HT.out.below (aF_ (Below.refl _ _) _))
 replace HX := aA_.mk (show W2.heap[w.heap.size]? = some (.cells #[.int .i64 3, .string nm, .string tx, va, .bool em] 45 (0, 0)) from by rw [hW2]; exact HX.out)
 replace HB := aA_.mk (show Below w.heap.size w W2 from by rw [hW2]; exact aF_ HB.out _)
 clear hW2 x0 x1 y0 y1 y2 y3 y4 hx0 hx1 o1 o2 o3 o4 ew ew' HW
 clear W
 have hbt := HT.out
 obtain ⟨v1, v2, g1, g2, g3, _⟩ := hbt
 obtain ⟨A1, c1, rfl⟩ := Kd.S_slice g2
 obtain ⟨A2, c2, rfl⟩ := Kd.R_slice g3
 have x0 := (aC_ g1 0).trans rfl
 have x1 := (aC_ g1 1).trans rfl
 have y0 := (aC_ HX.out 0).trans rfl
 have y1 := (aC_ HX.out 1).trans rfl
 have y2 := (aC_ HX.out 2).trans rfl
 have y3 := (aC_ HX.out 3).trans rfl
 have y4 := (aC_ HX.out 4).trans rfl
 clear g1 g3
 obtain ⟨kk, hkk⟩ : ∃ kk, kk = El.lastK l (El.inner op) := ⟨_, rfl⟩
 have CL := aA_.mk (dU_.calls B g N l op W2 HT.out hop hl HSO.out)
 rw [← hkk] at CL
 have HKK := Lib.hid hkk
 clear hkk
 have hkl := El.lastI_lt l _ k hk
 have ek : kk = (k : Int) := by rw [HKK.out]; unfold El.lastK; rw [hk]
 clear HKK
 subst ek
 obtain ⟨an, A3, c3, e_, q0, q1, _⟩ := dM_ (Kd.S_reads' g2).2.2 (k : Int) (by omega) (by omega)
 cases e_
 simp only [Int.toNat_natCast] at q0 q1
 have s2 := cY_ (bD_ l (k : Int)).f1
 rw [decide_eq_true hname] at s2
 have n1 := eq_true (show (0 : Int) ≤ (k : Int) by omega)
 have n2 := eq_true (show (k : Int) < (l.length : Int) by omega)
 have n3 := eq_true (show k < l.length by omega)
 have dk : decide ((0 : Int) ≤ (k : Int)) = true := decide_eq_true (by omega)
 have HKN := Lib.hid (And.intro hk (And.intro hname hsz))
 clear hk g2 hname hsz
 go_wp2_with (first | (go_at_call 29; (with_reducible refine (CL.out).mono ?_); rintro e w3 ⟨rfl, ⟨nd1, rfl⟩⟩))
 obtain ⟨W3, hW3⟩ : ∃ W3, W3 = W2.drewN nd1 := ⟨_, rfl⟩
 rw [← hW3]
 have hbt := (HT.out.below (aF_ (Below.refl _ _) nd1)).now
 rw [← hW3] at hbt
 replace HX := aA_.mk (show W3.heap[w.heap.size]? = some (.cells #[.int .i64 3, .string nm, .string tx, va, .bool em] 45 (0, 0)) from by rw [hW3]; exact HX.out)
 replace HB := aA_.mk (show Below w.heap.size w W3 from by rw [hW3]; exact aF_ HB.out _)
 clear hW3 CL
 clear x0 x1 y0 y1 y2 y3 y4
 clear q0 q1 s2
 obtain ⟨v1, v2, g1, g2, g3, g4, g5⟩ := hbt
 obtain ⟨gn, c1, rfl, hgn1, hgn2, _⟩ := Kd.S_form g2 (by omega)
 obtain ⟨x, hx⟩ : ∃ x, x = bD_ l (k : Int) := ⟨_, rfl⟩
 have hsz := HKN.out.2.2
 rw [← hx] at hsz ⊢
 have x0 := (aC_ g1 0).trans rfl
 have y2 := (aC_ HX.out 2).trans rfl
 obtain ⟨oki, cc, hcl, hM, hcc, hfr, hoki, hH⟩ := Kd.S_elem g2 El.zn (k : Int) (by omega) (by omega)
 have hx' : l.getD ((k : Int)).toNat El.zn = x := hx.symm
 rw [hx'] at hM
 obtain ⟨v3, rfl, hv3⟩ := k32_openM hM
 have q2 : W3.cell? ⟨gn, k * 4 + 2, none⟩ = Option.some (.string x.f2) := hcc 2 _ rfl
 have qf : W3.frozen? ⟨gn, k * 4 + 2, none⟩ = false := hfr 2
 have z1 := eq_false (show ¬ 9223372036854775807 < x.f2.size + tx.size by omega)
 have z2 := eq_true (show x.f2.size + tx.size ≤ 9223372036854775807 by omega)
 have G1 := aA_.mk g1
 have G2 := aA_.mk g2
 have G3 := aA_.mk g3
 have HH := Lib.hid (And.intro g4 g5)
 have HX2 := Lib.hid (show x = bD_ l (k : Int) ∧ k < l.length ∧ B ≤ gn from ⟨hx, hkl, hgn1⟩)
 have HM := aA_.mk (And.intro hH hv3)
 have HBB := aA_.mk (HB.out.mono (Nat.le_of_lt (Nat.lt_of_le_of_lt HGE.out.1 HGE.out.2.1)))
 clear g1 g2 g3 g4 g5 hsz hx hx' hM hcc hfr hoki hH hv3 hkl hcl hgn1 hgn2 h0 h1 hlo
 go_still_tail 18, (by kernel_rfl)
 go_wp2
 go_ret
 have hkl := HX2.out.2.1
 obtain ⟨r1, r2⟩ := Kd.S_seg (okg := fun _ => False) (okp := oki) (Kd.H_mono (ok' := fun k => k < W3.heap.size ∧ ¬ False) HM.out.1 (fun k hk => ⟨hk, fun h => h⟩)) (by omega) (by omega) (seg := [.string (x.f2 ++ tx)]) (j := 2) (by show 2 + 1 ≤ 4; omega) (x' := { x with f2 := x.f2 ++ tx }) (k32_mkM _ _ _ { x with f2 := x.f2 ++ tx } HM.out.2) (fun k hk => .inl hk) (fun _ h => h.elim)
 have ec : W3.setCells gn (((k : Int)).toNat * k32.sz + 2) [.string (x.f2 ++ tx)] = W3.setCell ⟨gn, k * 4 + 2, none⟩ (.string (x.f2 ++ tx)) := rfl
 rw [ec] at r1 r2
 have hty := Kd.S_typed G2.out
 have P1 : (W3.setCell ⟨gn, k * 4 + 2, none⟩ (.string (x.f2 ++ tx))).heap[g]? = Option.some (.cells #[.slice (Option.some ⟨gn, 0, none⟩) l.length c1, v2] 48 (0, 0)) := b6_ G1.out r2 (Kd.S_ne G2.out G1.out (by decide))
 have P3 := Kd.R_over' (v := .slice (Option.some ⟨gn, 0, none⟩) l.length c1) G3.out hty (by decide) r2
 have PB := HBB.out.setCell (p := ⟨gn, k * 4 + 2, none⟩) HX2.out.2.2 (.string (x.f2 ++ tx))
 have RB : TAt (W3.setCell ⟨gn, k * 4 + 2, none⟩ (.string (x.f2 ++ tx))) B g (W3.setCell ⟨gn, k * 4 + 2, none⟩ (.string (x.f2 ++ tx))).heap.size (l.set k { x with f2 := x.f2 ++ tx }) op := ⟨_, v2, P1, Kd.S_mono (Kd.S_bound r1) (fun k hk => hk.2.2.1), P3, HH.out⟩
 have RBB := RB.below (b5_ (Below.refl _ _))
 exact ⟨rfl, by rw [← HX2.out.1]; exact RBB, b5_ PB⟩
theorem a7_.begin_bad_none (B g N : Nat) (l : List El.Nd) (op : List Int) (nm tx : ByteArray) (em : Bool) (w : World) (h : TAt w B g N l op) (hop : op.length ≤ 100000) (hl : l.length ≤ 100000) (va : Value) (r : Int) (hr : (if nm = El.nul then Option.some (5 : Int) else if op = [] ∧ l ≠ [] then Option.some 6 else if 20 ≤ op.length then Option.some 7 else none) = Option.some r) (hno : op = []) :
 Calls Tryz.prog 17 #[.pointer (some ⟨g, 0, none⟩), .agg #[.int .i64 1, .string nm, .string tx, va, .bool em]] w fun e w' => e = .returned (.int .i64 r) ∧ Below w.heap.size w w' := by
 obtain ⟨W, hW⟩ : ∃ W, W = w.alloc (.cells #[.int .i64 1, .string nm, .string tx, va, .bool em] 45) := ⟨_, rfl⟩
 have hX : W.heap[w.heap.size]? = some (.cells #[.int .i64 1, .string nm, .string tx, va, .bool em] 45 (0, 0)) := by rw [hW]; exact heap_alloc_new w _
 have hBW : Below w.heap.size w W := by rw [hW]; exact aH_ (Below.refl _ _) _
 have HT := aA_.mk (h.below hBW)
 have HX := aA_.mk hX
 have HB := aA_.mk hBW
 have HW := Lib.hid hW
 have HGE := Lib.hid h.ge
 have hbt := HT.out
 obtain ⟨v1, v2, g1, g2, g3, _⟩ := hbt
 obtain ⟨A1, c1, rfl⟩ := Kd.S_slice g2
 obtain ⟨A2, c2, rfl⟩ := Kd.R_slice g3
 have x0 := (aC_ g1 0).trans rfl
 have x1 := (aC_ g1 1).trans rfl
 have y0 := (aC_ hX 0).trans rfl
 have y1 := (aC_ hX 1).trans rfl
 have y2 := (aC_ hX 2).trans rfl
 have y3 := (aC_ hX 3).trans rfl
 have y4 := (aC_ hX 4).trans rfl
 have hu := Tryz.underlying48
 have ht := Tryz.underlying45
 have hu2 := Tryz.underlying32
 have s1 := cY_ nm
 subst hno
 rw [hW] at x0 x1 y0 y1 y2 y3 y4
 clear g1 g2 g3 h hX hBW hW
 go_enter Tryz.func17, Tryz.ntmps17
 by_cases c1_ : nm = El.nul
 ·rw [if_pos c1_] at hr
  obtain rfl := Option.some.inj hr
  rw [decide_eq_true c1_] at s1
  clear c1_ hr
  go_wp2
  go_ret
  exact ⟨rfl, by rw [← HW.out]; exact HB.out⟩
 rw [if_neg c1_] at hr
 rw [decide_eq_false c1_] at s1
 by_cases c2_ : ([] : List Int) = [] ∧ l ≠ []
 ·rw [if_pos c2_] at hr
  obtain rfl := Option.some.inj hr
  have hll : l.length ≠ 0 := fun h => c2_.2 (List.eq_nil_of_length_eq_zero h)
  have d1 : decide ((0 : Int) < (l.length : Int)) = true := decide_eq_true (by omega)
  have d2 : decide (0 < l.length) = true := decide_eq_true (by omega)
  clear c1_ c2_ hr hll
  go_wp2
  go_ret
  exact ⟨rfl, by rw [← HW.out]; exact HB.out⟩
 rw [if_neg c2_] at hr
 rw [if_neg (by simp)] at hr
 cases hr
theorem a7_.begin_bad_some (B g N : Nat) (l : List El.Nd) (op : List Int) (nm tx : ByteArray) (em : Bool) (w : World) (h : TAt w B g N l op) (hop : op.length ≤ 100000) (hl : l.length ≤ 100000) (va : Value) (r : Int) (hr : (if nm = El.nul then Option.some (5 : Int) else if op = [] ∧ l ≠ [] then Option.some 6 else if 20 ≤ op.length then Option.some 7 else none) = Option.some r) (hso : op ≠ []) (h0 : 0 ≤ El.inner op) (h1 : El.inner op < (l.length : Int)) :
 Calls Tryz.prog 17 #[.pointer (some ⟨g, 0, none⟩), .agg #[.int .i64 1, .string nm, .string tx, va, .bool em]] w fun e w' => e = .returned (.int .i64 r) ∧ Below w.heap.size w w' := by
 obtain ⟨W, hW⟩ : ∃ W, W = w.alloc (.cells #[.int .i64 1, .string nm, .string tx, va, .bool em] 45) := ⟨_, rfl⟩
 have hX : W.heap[w.heap.size]? = some (.cells #[.int .i64 1, .string nm, .string tx, va, .bool em] 45 (0, 0)) := by rw [hW]; exact heap_alloc_new w _
 have hBW : Below w.heap.size w W := by rw [hW]; exact aH_ (Below.refl _ _) _
 have HT := aA_.mk (h.below hBW)
 have HX := aA_.mk hX
 have HB := aA_.mk hBW
 have HW := Lib.hid hW
 have HGE := Lib.hid h.ge
 have hbt := HT.out
 obtain ⟨v1, v2, g1, g2, g3, _⟩ := hbt
 obtain ⟨A1, c1, rfl⟩ := Kd.S_slice g2
 obtain ⟨A2, c2, rfl⟩ := Kd.R_slice g3
 have x0 := (aC_ g1 0).trans rfl
 have x1 := (aC_ g1 1).trans rfl
 have y0 := (aC_ hX 0).trans rfl
 have y1 := (aC_ hX 1).trans rfl
 have y2 := (aC_ hX 2).trans rfl
 have y3 := (aC_ hX 3).trans rfl
 have y4 := (aC_ hX 4).trans rfl
 have hu := Tryz.underlying48
 have ht := Tryz.underlying45
 have hu2 := Tryz.underlying32
 have s1 := cY_ nm
 have hlo : op.length ≠ 0 := fun h0 => hso (List.eq_nil_of_length_eq_zero h0)
 have ew : wrap64 ((op.length : Int) - 1) = (op.length : Int) - 1 := by unfold wrap64; omega
 obtain ⟨ad, e_, hx0⟩ := Kd.at_int (Kd.R_reads' g3).2.2 ((op.length : Int) - 1) (by omega) (by omega)
 cases e_
 rw [last_at op hso] at hx0
 have ew' : IntKind.i64.wrap ((op.length : Int) - 1) = (op.length : Int) - 1 := by rw [c6_]; exact ew
 obtain ⟨p, hp⟩ : ∃ p, p = El.inner op := ⟨_, rfl⟩
 rw [← hp] at hx0 h0 h1
 have HP := Lib.hid hp
 have HSO := Lib.hid hso
 have hx1 : W.cell? (ad.add (op.length - 1)) = some (.int .i64 p) := by rw [show ((op.length : Int) - 1).toNat = op.length - 1 from by omega] at hx0; exact hx0
 have o1 := eq_true (show (0 : Int) ≤ (op.length : Int) - 1 by omega)
 have o2 := eq_true (show (op.length : Int) - 1 < (op.length : Int) by omega)
 have o3 := eq_true (show (1 : Int) ≤ (op.length : Int) by omega)
 have o4 := eq_true (show 1 ≤ op.length by omega)
 have o5 : decide ((0 : Int) < (op.length : Int)) = true := decide_eq_true (by omega)
 have o6 : decide (0 < op.length) = true := decide_eq_true (by omega)
 have dn : decide (p < 0) = false := decide_eq_false (by omega)
 rw [hW] at x0 x1 y0 y1 y2 y3 y4 hx0 hx1
 clear g1 g2 g3 h hX hBW hW hp hso
 go_enter Tryz.func17, Tryz.ntmps17
 go_wp2
 go_quiet (fail)
 obtain ⟨W2, hW2⟩ : ∃ W2, W2 = (w.alloc (.cells #[.int .i64 1, .string nm, .string tx, va, .bool em] 45)).drewN nq := ⟨_, rfl⟩
 rw [← hW2]
 rw [← HW.out] at hW2
 replace HT := aA_.mk (show TAt W2 B g N l op from by rw [hW2]; exact HT.out.below (aF_ (Below.refl _ _) _))
 replace HX := aA_.mk (show W2.heap[w.heap.size]? = some (.cells #[.int .i64 1, .string nm, .string tx, va, .bool em] 45 (0, 0)) from by rw [hW2]; exact HX.out)
 replace HB := aA_.mk (show Below w.heap.size w W2 from by rw [hW2]; exact aF_ HB.out _)
 clear hW2 x0 x1 y0 y1 y2 y3 y4 hx0 hx1 o1 o2 o3 o4 ew ew' HW
 clear W
 have hbt := HT.out
 obtain ⟨v1, v2, g1, g2, g3, _⟩ := hbt
 obtain ⟨A1, c1, rfl⟩ := Kd.S_slice g2
 obtain ⟨A2, c2, rfl⟩ := Kd.R_slice g3
 have x0 := (aC_ g1 0).trans rfl
 have x1 := (aC_ g1 1).trans rfl
 have y0 := (aC_ HX.out 0).trans rfl
 have y1 := (aC_ HX.out 1).trans rfl
 have y2 := (aC_ HX.out 2).trans rfl
 have y3 := (aC_ HX.out 3).trans rfl
 have y4 := (aC_ HX.out 4).trans rfl
 clear g1 g2 g3
 by_cases c1_ : nm = El.nul
 ·rw [if_pos c1_] at hr
  obtain rfl := Option.some.inj hr
  rw [decide_eq_true c1_] at s1
  clear c1_ hr
  go_wp2
  go_ret
  exact ⟨rfl, HB.out⟩
 rw [if_neg c1_] at hr
 rw [decide_eq_false c1_] at s1
 rw [if_neg (fun h => HSO.out h.1)] at hr
 by_cases c4_ : 20 ≤ op.length
 rotate_left
 ·rw [if_neg c4_] at hr
  cases hr
 rw [if_pos c4_] at hr
 obtain rfl := Option.some.inj hr
 have d1 : decide ((20 : Int) ≤ (op.length : Int)) = true := decide_eq_true (by omega)
 have d2 : decide (20 ≤ op.length) = true := decide_eq_true (by omega)
 clear c1_ hr c4_
 go_wp2
 go_ret
 exact ⟨rfl, HB.out⟩
theorem rtok_begin_some_false (B g N : Nat) (l : List El.Nd) (op : List Int) (nm tx : ByteArray) (w : World) (h : TAt w B g N l op) (hop : op.length ≤ 100000) (hl : l.length ≤ 100000) (big : Bool) (hbig : big = decide (2000 ≤ l.length)) (at9 : List El.Att) (A9 : Option Addr) (c9 : Nat) (hc9 : Kd.C k53 w A9 at9.length at9) (hlen : at9.length ≤ 1000000) (hn : nm ≠ El.nul) (hop2 : op.length < 20) (hso : op ≠ []) (h0 : 0 ≤ El.inner op) (h1 : El.inner op < (l.length : Int)) :
 Calls Tryz.prog 17 #[.pointer (some ⟨g, 0, none⟩), .agg #[.int .i64 1, .string nm, .string tx, .slice A9 at9.length c9, .bool false]] w fun e w' => e = .returned (.int .i64 (bif big then 3 else 0)) ∧ TAt w' B g w'.heap.size (l ++ [⟨El.inner op, nm, El.nul, at9⟩]) (op ++ [(l.length : Int)]) ∧ Below B w w' := by
 obtain ⟨W, hW⟩ : ∃ W, W = w.alloc (.cells #[.int .i64 1, .string nm, .string tx, .slice A9 at9.length c9, .bool false] 45) := ⟨_, rfl⟩
 have hX : W.heap[w.heap.size]? = some (.cells #[.int .i64 1, .string nm, .string tx, .slice A9 at9.length c9, .bool false] 45 (0, 0)) := by rw [hW]; exact heap_alloc_new w _
 have hBW : Below w.heap.size w W := by rw [hW]; exact aH_ (Below.refl _ _) _
 have HT := aA_.mk (h.below hBW)
 have HX := aA_.mk hX
 have HB := aA_.mk hBW
 have HW := Lib.hid hW
 have HGE := Lib.hid h.ge
 have hbt := HT.out
 obtain ⟨v1, v2, g1, g2, g3, _⟩ := hbt
 obtain ⟨A1, c1, rfl⟩ := Kd.S_slice g2
 obtain ⟨A2, c2, rfl⟩ := Kd.R_slice g3
 have x0 := (aC_ g1 0).trans rfl
 have x1 := (aC_ g1 1).trans rfl
 have y0 := (aC_ hX 0).trans rfl
 have y1 := (aC_ hX 1).trans rfl
 have y2 := (aC_ hX 2).trans rfl
 have y3 := (aC_ hX 3).trans rfl
 have y4 := (aC_ hX 4).trans rfl
 have hu := Tryz.underlying48
 have ht := Tryz.underlying45
 have hu2 := Tryz.underlying32
 have s1 := cY_ nm
 rw [decide_eq_false hn] at s1
 clear hn
 have z5 : decide ((20 : Int) ≤ (op.length : Int)) = false := decide_eq_false (by omega)
 have z6 : decide (20 ≤ op.length) = false := decide_eq_false (by omega)
 have hlo : op.length ≠ 0 := fun h0 => hso (List.eq_nil_of_length_eq_zero h0)
 have ew : wrap64 ((op.length : Int) - 1) = (op.length : Int) - 1 := by unfold wrap64; omega
 obtain ⟨ad, e_, hx0⟩ := Kd.at_int (Kd.R_reads' g3).2.2 ((op.length : Int) - 1) (by omega) (by omega)
 cases e_
 rw [last_at op hso] at hx0
 have ew' : IntKind.i64.wrap ((op.length : Int) - 1) = (op.length : Int) - 1 := by rw [c6_]; exact ew
 obtain ⟨p, hp⟩ : ∃ p, p = El.inner op := ⟨_, rfl⟩
 rw [← hp] at hx0 h0 h1
 have HP := Lib.hid hp
 have HSO := Lib.hid hso
 have hx1 : W.cell? (ad.add (op.length - 1)) = some (.int .i64 p) := by rw [show ((op.length : Int) - 1).toNat = op.length - 1 from by omega] at hx0; exact hx0
 have o1 := eq_true (show (0 : Int) ≤ (op.length : Int) - 1 by omega)
 have o2 := eq_true (show (op.length : Int) - 1 < (op.length : Int) by omega)
 have o3 := eq_true (show (1 : Int) ≤ (op.length : Int) by omega)
 have o4 := eq_true (show 1 ≤ op.length by omega)
 have o5 : decide ((0 : Int) < (op.length : Int)) = true := decide_eq_true (by omega)
 have o6 : decide (0 < op.length) = true := decide_eq_true (by omega)
 have dn : decide (p < 0) = false := decide_eq_false (by omega)
 rw [hW] at x0 x1 y0 y1 y2 y3 y4 hx0 hx1
 clear g1 g2 g3 h hX hBW hW hp hso
 go_enter Tryz.func17, Tryz.ntmps17
 go_wp2
 go_quiet (fail)
 obtain ⟨W2, hW2⟩ : ∃ W2, W2 = (w.alloc (.cells #[.int .i64 1, .string nm, .string tx, .slice A9 at9.length c9, .bool false] 45)).drewN nq := ⟨_, rfl⟩
 rw [← hW2]
 rw [← HW.out] at hW2
 replace HT := aA_.mk (show TAt W2 B g N l op from by rw [hW2]; exact HT.out.below (aF_ (Below.refl _ _) _))
 replace HX := aA_.mk (show W2.heap[w.heap.size]? = some (.cells #[.int .i64 1, .string nm, .string tx, .slice A9 at9.length c9, .bool false] 45 (0, 0)) from by rw [hW2]; exact HX.out)
 replace HB := aA_.mk (show Below w.heap.size w W2 from by rw [hW2]; exact aF_ HB.out _)
 clear hW2 x0 x1 y0 y1 y2 y3 y4 hx0 hx1 o1 o2 o3 o4 ew ew' HW
 clear W
 have hbt := HT.out
 obtain ⟨v1, v2, g1, g2, g3, _⟩ := hbt
 obtain ⟨A1, c1, rfl⟩ := Kd.S_slice g2
 obtain ⟨A2, c2, rfl⟩ := Kd.R_slice g3
 have x0 := (aC_ g1 0).trans rfl
 have x1 := (aC_ g1 1).trans rfl
 have y0 := (aC_ HX.out 0).trans rfl
 have y1 := (aC_ HX.out 1).trans rfl
 have y2 := (aC_ HX.out 2).trans rfl
 have y3 := (aC_ HX.out 3).trans rfl
 have y4 := (aC_ HX.out 4).trans rfl
 clear g1 g2 g3
 go_wp2
 obtain ⟨W3, hW3⟩ : ∃ W3, W3 = W2 := ⟨_, rfl⟩
 rw [← hW3]
 have hbt := HT.out.now
 rw [← hW3] at hbt HX HB
 clear hW3 x0 x1 y0 y1 y2 y3 y4
 obtain ⟨v1, v2, g1, g2, g3, g4, g5⟩ := hbt
 obtain ⟨A1, c1, rfl⟩ := Kd.S_slice g2
 obtain ⟨A2, c2, rfl⟩ := Kd.R_slice g3
 have x0 := (aC_ g1 0).trans rfl
 have x1 := (aC_ g1 1).trans rfl
 have z0 := aE_ g1 0
 have x0a := fun o => (aC_ (aV_ g1 o) 0).trans rfl
 have y0 := (aC_ HX.out 0).trans rfl
 have y1 := (aC_ HX.out 1).trans rfl
 have y2 := (aC_ HX.out 2).trans rfl
 have y3 := (aC_ HX.out 3).trans rfl
 have y4 := (aC_ HX.out 4).trans rfl
 have G1 := aA_.mk g1
 have G2 := aA_.mk g2
 have G3 := aA_.mk g3
 have HH := Lib.hid (And.intro g4 g5)
 have HBB := aA_.mk (HB.out.mono (Nat.le_of_lt (Nat.lt_of_le_of_lt HGE.out.1 HGE.out.2.1)))
 have hWB : B ≤ W3.heap.size := Nat.le_of_lt (Nat.lt_of_le_of_lt g4 (cT_ g1))
 have HC9 := aA_.mk (Kd.C_below hc9 HB.out)
 have HLEN := Lib.hid hlen
 have HBIG := Lib.hid hbig
 clear hlen hbig
 clear g1 g2 g3 g4 g5
 obtain ⟨l2, hl2⟩ : ∃ l2, l2 = l ++ [(⟨p, nm, (⟨#[]⟩ : ByteArray), at9⟩ : El.Nd)] := ⟨_, rfl⟩
 have hlen2 : l2.length = l.length + 1 := by rw [hl2]; simp
 have z1 : decide ((2000 : Int) < (l2.length : Int)) = big := by rw [HBIG.out]; exact decide_eq_decide.2 (by omega)
 have z2 : decide (2000 < l2.length) = big := by rw [HBIG.out]; exact decide_eq_decide.2 (by omega)
 have ew : wrap64 ((l2.length : Int) - 1) = (l.length : Int) := by unfold wrap64; omega
 have ew' : IntKind.i64.wrap ((l2.length : Int) - 1) = (l.length : Int) := by rw [c6_]; exact ew
 have HL2 := Lib.hid (And.intro hl2 hlen2)
 clear hl2 hlen2
 go_cut [] (fun wc => RTok w wc B g l2 op #[.int .i64 1, .string nm, .string tx, .slice A9 at9.length c9, .bool false])
 case first =>
  go_region_law (first | (refine Kd.R_append_rows_step k53 (w0 := W3) (W := W3.drew) W3.heap.size (by rfl) (.const (.slice none 0 0)) (.tmp 63) 30 53 _ 32 rfl Tryz.underlying30 cloneInfo rfl (by decide) (by decide) (.slice none 0 0) [] at9 A9 at9.length c9 (fun _ => True) (fun _ => False) rfl rfl (Kd.R_nil _ _ _ _ _) (Kd.C_drew HC9.out) (fun x cs h => by obtain rfl := k53_open h; exact k53_mkM _ _ _ x) (fun _ h => h.elim) (fun _ _ => trivial) (b5_ (Below.refl _ _)) (Nat.le_refl _) (by have := HLEN.out; simp only [List.length_nil]; omega) ?_; intro va w1 ra ba _ _; have ra : Kd.R k53 53 w1 W3.heap.size (fun _ => True) va at9 := ra; obtain ⟨Av, cv, rfl⟩ := Kd.R_slice ra; have K1 := aA_.mk (b4_ G1.out ba); have K2 := aA_.mk (Kd.S_below G2.out ba); have K3 := aA_.mk (Kd.R_below G3.out ba); have KX := aA_.mk (b4_ HX.out ba); have RA := aA_.mk (Kd.R_lower (Kd.R_mono (ok' := fun k => W3.heap.size ≤ k) (Kd.R_bound ra) (fun k hk => hk.2.1)) hWB); have HB1 := aA_.mk (HBB.out.trans (ba.mono hWB)); have HS1 := Lib.hid ba.size; have k0 := (aC_ K1.out 0).trans rfl; have kz := aE_ K1.out 0; have ka := fun o => (aC_ (aV_ K1.out o) 0).trans rfl; have k1 := (aC_ KX.out 1).trans rfl; have k3 := (aC_ KX.out 3).trans rfl; clear ra ba) | (refine Kd.S_append_step k32 (w0 := w) (W := w1) B (by rfl) (.tmp 58) (.tmp 66) 23 32 _ 64 rfl Tryz.underlying23 ndInfo rfl (by decide) (by decide) (.slice A1 l.length c1) l ⟨p, nm, (⟨#[]⟩ : ByteArray), at9⟩ [.int .i64 p, .string nm, .string ⟨#[]⟩, .slice Av at9.length cv] (fun _ => True) (fun k => W3.heap.size ≤ k ∧ some k ≠ (Value.slice A1 l.length c1).ownBlock) rfl rfl (k32_mkM _ _ _ ⟨p, nm, (⟨#[]⟩ : ByteArray), at9⟩ (node_apart RA.out K2.out)) (fun k hk => ⟨trivial, hk.2⟩) (fun _ _ => trivial) (Kd.S_mono K2.out (fun k hk => ⟨trivial, fun h => by have := h.1; have hk : k < W3.heap.size := hk; omega⟩)) HB1.out (by have := HS1.out; omega) (by omega) ?_; intro v1 w2 r1 b1 gg at1; rw [← HL2.out.1] at r1; obtain ⟨A3, c3, rfl⟩ := Kd.S_slice r1; have R1 := aA_.mk r1; have B1 := aA_.mk b1; have G4 := aA_.mk (b6_ K1.out gg (Kd.S_ne K2.out K1.out (by decide))); have G5 := aA_.mk (Kd.R_over' K3.out (Kd.S_typed K2.out) (by decide) gg); have X2 := aA_.mk (b6_ KX.out gg (Kd.S_ne K2.out KX.out (by decide))); clear r1 b1 gg at1; have zz2 := aE_ G4.out 0; have yy2 := (aC_ G4.out 0).trans rfl))
  all_goals
   (try go_wp2)
   go_meet
   case rel =>
    exact RTok.of G4.out R1.out G5.out B1.out X2.out HH.out.1 HGE.out.2.1
 obtain ⟨v1, v2, P1, P2, P3, P4, P5⟩ := hcut
 obtain ⟨A3, c3, rfl⟩ := Kd.S_slice P2
 obtain ⟨A5, c5, rfl⟩ := Kd.R_slice P3
 have Q1 := aA_.mk P1
 have Q2 := aA_.mk P2
 have Q3 := aA_.mk P3
 have Q4 := aA_.mk P4
 have hW5 : B ≤ wc.heap.size := Nat.le_of_lt (Nat.lt_of_le_of_lt HH.out.1 (cT_ P1))
 clear x0 x1 x0a z0 y0 y1 y2 y3 y4
 have y4 := (aC_ P5 4).trans rfl
 clear P1 P2 P3 P4 P5
 have x0 := (aC_ Q1.out 0).trans rfl
 have x1 := (aC_ Q1.out 1).trans rfl
 have zf := aE_ Q1.out 1
 have x1a := fun o => (aC_ (aV_ Q1.out o) 1).trans rfl
 go_wp2
 go_region_law (refine Kd.R_append_step (Kd.int .i64) (w0 := w) (W := wc.drew) B (by rfl) (.tmp 77) (.tmp 84) 35 3 _ 8 rfl Tryz.underlying35 intInfo rfl (by decide) (by decide) (.slice A5 op.length c5) op (l.length : Int) [.int .i64 (l.length : Int)] (fun _ => True) (fun _ => False) rfl rfl rfl (fun _ h => h.elim) (fun _ _ => trivial) (Kd.R_drew Q3.out) (b5_ Q4.out) hW5 (by omega) ?_; intro v3 w3 r1 b1 gg at1; obtain ⟨A4, c4, rfl⟩ := Kd.R_slice r1; have R1 := aA_.mk r1; have B3 := aA_.mk b1; have M1 := aA_.mk (b6_ (a0_ Q1.out) gg (Kd.R_ne (Kd.R_drew Q3.out) (a0_ Q1.out) (by decide))); have M2 := aA_.mk (Kd.S_over' (Kd.S_drew Q2.out) (Kd.R_typed (Kd.R_drew Q3.out)) (by decide) gg); clear r1 b1 gg at1; have zz := aE_ M1.out 1; have yy := (aC_ M1.out 1).trans rfl; have yy0 := (aC_ M1.out 0).trans rfl)
 all_goals
  cases big
 all_goals
  go_wp2
  go_ret
  have T1 := c5_ M1.out 1 (.slice A4 (op ++ [(l.length : Int)]).length c4)
  have T2 := Kd.S_set M2.out M1.out (by decide) 1 (.slice A4 (op ++ [(l.length : Int)]).length c4)
  have T3 := Kd.R_set R1.out M1.out (by decide) 1 (.slice A4 (op ++ [(l.length : Int)]).length c4)
  have T4 := B3.out.setCell (p := ⟨g, 1, none⟩) HH.out.1 (.slice A4 (op ++ [(l.length : Int)]).length c4)
  have el : (op ++ [(l.length : Int)]).length = op.length + 1 := by simp
  rw [el] at T1 T2 T3 T4
  have e2 : l2 = l ++ [⟨El.inner op, nm, El.nul, at9⟩] := HL2.out.1.trans (congrArg (fun q => l ++ [(⟨q, nm, (⟨#[]⟩ : ByteArray), at9⟩ : El.Nd)]) HP.out)
  rw [← e2]
  exact ⟨rfl, ⟨_, _, by simpa using T1, Kd.S_mono (Kd.S_bound T2) (fun k hk => hk.2.2.1), T3, HH.out⟩, T4⟩
theorem rtok_begin_none_false (B g N : Nat) (l : List El.Nd) (op : List Int) (nm tx : ByteArray) (w : World) (h : TAt w B g N l op) (hop : op.length ≤ 100000) (hl : l.length ≤ 100000) (big : Bool) (hbig : big = decide (2000 ≤ l.length)) (at9 : List El.Att) (A9 : Option Addr) (c9 : Nat) (hc9 : Kd.C k53 w A9 at9.length at9) (hlen : at9.length ≤ 1000000) (hn : nm ≠ El.nul) (hno : op = []) (hroot : l.length = 0) :
 Calls Tryz.prog 17 #[.pointer (some ⟨g, 0, none⟩), .agg #[.int .i64 1, .string nm, .string tx, .slice A9 at9.length c9, .bool false]] w fun e w' => e = .returned (.int .i64 (bif big then 3 else 0)) ∧ TAt w' B g w'.heap.size (l ++ [⟨El.inner op, nm, El.nul, at9⟩]) (op ++ [(l.length : Int)]) ∧ Below B w w' := by
 obtain ⟨W, hW⟩ : ∃ W, W = w.alloc (.cells #[.int .i64 1, .string nm, .string tx, .slice A9 at9.length c9, .bool false] 45) := ⟨_, rfl⟩
 have hX : W.heap[w.heap.size]? = some (.cells #[.int .i64 1, .string nm, .string tx, .slice A9 at9.length c9, .bool false] 45 (0, 0)) := by rw [hW]; exact heap_alloc_new w _
 have hBW : Below w.heap.size w W := by rw [hW]; exact aH_ (Below.refl _ _) _
 have HT := aA_.mk (h.below hBW)
 have HX := aA_.mk hX
 have HB := aA_.mk hBW
 have HW := Lib.hid hW
 have HGE := Lib.hid h.ge
 have hbt := HT.out
 obtain ⟨v1, v2, g1, g2, g3, _⟩ := hbt
 obtain ⟨A1, c1, rfl⟩ := Kd.S_slice g2
 obtain ⟨A2, c2, rfl⟩ := Kd.R_slice g3
 have x0 := (aC_ g1 0).trans rfl
 have x1 := (aC_ g1 1).trans rfl
 have y0 := (aC_ hX 0).trans rfl
 have y1 := (aC_ hX 1).trans rfl
 have y2 := (aC_ hX 2).trans rfl
 have y3 := (aC_ hX 3).trans rfl
 have y4 := (aC_ hX 4).trans rfl
 have hu := Tryz.underlying48
 have ht := Tryz.underlying45
 have hu2 := Tryz.underlying32
 have s1 := cY_ nm
 rw [decide_eq_false hn] at s1
 clear hn
 have d1 : decide ((0 : Int) < (l.length : Int)) = false := decide_eq_false (by omega)
 have d2 : decide (0 < l.length) = false := decide_eq_false (by omega)
 have HRT := Lib.hid hroot
 clear hroot
 subst hno
 rw [hW] at x0 x1 y0 y1 y2 y3 y4
 clear g1 g2 g3 h hX hBW hW
 go_enter Tryz.func17, Tryz.ntmps17
 go_wp2
 obtain ⟨W3, hW3⟩ : ∃ W3, W3 = W := ⟨_, rfl⟩
 rw [← HW.out, ← hW3]
 have hbt := HT.out.now
 rw [← hW3] at hbt HX HB
 clear hW3 x0 x1 y0 y1 y2 y3 y4
 obtain ⟨v1, v2, g1, g2, g3, g4, g5⟩ := hbt
 obtain ⟨A1, c1, rfl⟩ := Kd.S_slice g2
 obtain ⟨A2, c2, rfl⟩ := Kd.R_slice g3
 have x0 := (aC_ g1 0).trans rfl
 have x1 := (aC_ g1 1).trans rfl
 have z0 := aE_ g1 0
 have x0a := fun o => (aC_ (aV_ g1 o) 0).trans rfl
 have y0 := (aC_ HX.out 0).trans rfl
 have y1 := (aC_ HX.out 1).trans rfl
 have y2 := (aC_ HX.out 2).trans rfl
 have y3 := (aC_ HX.out 3).trans rfl
 have y4 := (aC_ HX.out 4).trans rfl
 have G1 := aA_.mk g1
 have G2 := aA_.mk g2
 have G3 := aA_.mk g3
 have HH := Lib.hid (And.intro g4 g5)
 have HBB := aA_.mk (HB.out.mono (Nat.le_of_lt (Nat.lt_of_le_of_lt HGE.out.1 HGE.out.2.1)))
 have hWB : B ≤ W3.heap.size := Nat.le_of_lt (Nat.lt_of_le_of_lt g4 (cT_ g1))
 have HC9 := aA_.mk (Kd.C_below hc9 HB.out)
 have HLEN := Lib.hid hlen
 have HBIG := Lib.hid hbig
 clear hlen hbig
 clear g1 g2 g3 g4 g5
 obtain ⟨l2, hl2⟩ : ∃ l2, l2 = l ++ [(⟨-1, nm, (⟨#[]⟩ : ByteArray), at9⟩ : El.Nd)] := ⟨_, rfl⟩
 have hlen2 : l2.length = l.length + 1 := by rw [hl2]; simp
 have z1 : decide ((2000 : Int) < (l2.length : Int)) = big := by rw [HBIG.out]; exact decide_eq_decide.2 (by omega)
 have z2 : decide (2000 < l2.length) = big := by rw [HBIG.out]; exact decide_eq_decide.2 (by omega)
 have ew : wrap64 ((l2.length : Int) - 1) = (l.length : Int) := by unfold wrap64; omega
 have ew' : IntKind.i64.wrap ((l2.length : Int) - 1) = (l.length : Int) := by rw [c6_]; exact ew
 have HL2 := Lib.hid (And.intro hl2 hlen2)
 clear hl2 hlen2
 go_cut [] (fun wc => RTok w wc B g l2 [] #[.int .i64 1, .string nm, .string tx, .slice A9 at9.length c9, .bool false])
 case first =>
  go_region_law (first | (refine Kd.R_append_rows_step k53 (w0 := W3) (W := W3.drew) W3.heap.size (by rfl) (.const (.slice none 0 0)) (.tmp 63) 30 53 _ 32 rfl Tryz.underlying30 cloneInfo rfl (by decide) (by decide) (.slice none 0 0) [] at9 A9 at9.length c9 (fun _ => True) (fun _ => False) rfl rfl (Kd.R_nil _ _ _ _ _) (Kd.C_drew HC9.out) (fun x cs h => by obtain rfl := k53_open h; exact k53_mkM _ _ _ x) (fun _ h => h.elim) (fun _ _ => trivial) (b5_ (Below.refl _ _)) (Nat.le_refl _) (by have := HLEN.out; simp only [List.length_nil]; omega) ?_; intro va w1 ra ba _ _; have ra : Kd.R k53 53 w1 W3.heap.size (fun _ => True) va at9 := ra; obtain ⟨Av, cv, rfl⟩ := Kd.R_slice ra; have K1 := aA_.mk (b4_ G1.out ba); have K2 := aA_.mk (Kd.S_below G2.out ba); have K3 := aA_.mk (Kd.R_below G3.out ba); have KX := aA_.mk (b4_ HX.out ba); have RA := aA_.mk (Kd.R_lower (Kd.R_mono (ok' := fun k => W3.heap.size ≤ k) (Kd.R_bound ra) (fun k hk => hk.2.1)) hWB); have HB1 := aA_.mk (HBB.out.trans (ba.mono hWB)); have HS1 := Lib.hid ba.size; have k0 := (aC_ K1.out 0).trans rfl; have kz := aE_ K1.out 0; have ka := fun o => (aC_ (aV_ K1.out o) 0).trans rfl; have k1 := (aC_ KX.out 1).trans rfl; have k3 := (aC_ KX.out 3).trans rfl; clear ra ba) | (refine Kd.S_append_step k32 (w0 := w) (W := w1) B (by rfl) (.tmp 58) (.tmp 66) 23 32 _ 64 rfl Tryz.underlying23 ndInfo rfl (by decide) (by decide) (.slice A1 l.length c1) l ⟨-1, nm, (⟨#[]⟩ : ByteArray), at9⟩ [.int .i64 (-1), .string nm, .string ⟨#[]⟩, .slice Av at9.length cv] (fun _ => True) (fun k => W3.heap.size ≤ k ∧ some k ≠ (Value.slice A1 l.length c1).ownBlock) rfl rfl (k32_mkM _ _ _ ⟨-1, nm, (⟨#[]⟩ : ByteArray), at9⟩ (node_apart RA.out K2.out)) (fun k hk => ⟨trivial, hk.2⟩) (fun _ _ => trivial) (Kd.S_mono K2.out (fun k hk => ⟨trivial, fun h => by have := h.1; have hk : k < W3.heap.size := hk; omega⟩)) HB1.out (by have := HS1.out; omega) (by omega) ?_; intro v1 w2 r1 b1 gg at1; rw [← HL2.out.1] at r1; obtain ⟨A3, c3, rfl⟩ := Kd.S_slice r1; have R1 := aA_.mk r1; have B1 := aA_.mk b1; have G4 := aA_.mk (b6_ K1.out gg (Kd.S_ne K2.out K1.out (by decide))); have G5 := aA_.mk (Kd.R_over' K3.out (Kd.S_typed K2.out) (by decide) gg); have X2 := aA_.mk (b6_ KX.out gg (Kd.S_ne K2.out KX.out (by decide))); clear r1 b1 gg at1; have zz2 := aE_ G4.out 0; have yy2 := (aC_ G4.out 0).trans rfl))
  all_goals
   (try go_wp2)
   go_meet
   case rel =>
    exact RTok.of G4.out R1.out G5.out B1.out X2.out HH.out.1 HGE.out.2.1
 obtain ⟨v1, v2, P1, P2, P3, P4, P5⟩ := hcut
 obtain ⟨A3, c3, rfl⟩ := Kd.S_slice P2
 obtain ⟨A5, c5, rfl⟩ := Kd.R_slice P3
 have Q1 := aA_.mk P1
 have Q2 := aA_.mk P2
 have Q3 := aA_.mk P3
 have Q4 := aA_.mk P4
 have hW5 : B ≤ wc.heap.size := Nat.le_of_lt (Nat.lt_of_le_of_lt HH.out.1 (cT_ P1))
 clear x0 x1 x0a z0 y0 y1 y2 y3 y4
 have y4 := (aC_ P5 4).trans rfl
 clear P1 P2 P3 P4 P5
 have x0 := (aC_ Q1.out 0).trans rfl
 have x1 := (aC_ Q1.out 1).trans rfl
 have zf := aE_ Q1.out 1
 have x1a := fun o => (aC_ (aV_ Q1.out o) 1).trans rfl
 go_wp2
 go_region_law (refine Kd.R_append_step (Kd.int .i64) (w0 := w) (W := wc.drew) B (by rfl) (.tmp 77) (.tmp 84) 35 3 _ 8 rfl Tryz.underlying35 intInfo rfl (by decide) (by decide) (.slice A5 ([] : List Int).length c5) [] (l.length : Int) [.int .i64 (l.length : Int)] (fun _ => True) (fun _ => False) rfl rfl rfl (fun _ h => h.elim) (fun _ _ => trivial) (Kd.R_drew Q3.out) (b5_ Q4.out) hW5 (by omega) ?_; intro v3 w3 r1 b1 gg at1; obtain ⟨A4, c4, rfl⟩ := Kd.R_slice r1; have R1 := aA_.mk r1; have B3 := aA_.mk b1; have M1 := aA_.mk (b6_ (a0_ Q1.out) gg (Kd.R_ne (Kd.R_drew Q3.out) (a0_ Q1.out) (by decide))); have M2 := aA_.mk (Kd.S_over' (Kd.S_drew Q2.out) (Kd.R_typed (Kd.R_drew Q3.out)) (by decide) gg); clear r1 b1 gg at1; have zz := aE_ M1.out 1; have yy := (aC_ M1.out 1).trans rfl; have yy0 := (aC_ M1.out 0).trans rfl)
 all_goals
  cases big
 all_goals
  go_wp2
  go_ret
  have T1 := c5_ M1.out 1 (.slice A4 (([] : List Int) ++ [(l.length : Int)]).length c4)
  have T2 := Kd.S_set M2.out M1.out (by decide) 1 (.slice A4 (([] : List Int) ++ [(l.length : Int)]).length c4)
  have T3 := Kd.R_set R1.out M1.out (by decide) 1 (.slice A4 (([] : List Int) ++ [(l.length : Int)]).length c4)
  have T4 := B3.out.setCell (p := ⟨g, 1, none⟩) HH.out.1 (.slice A4 (([] : List Int) ++ [(l.length : Int)]).length c4)
  have el : (([] : List Int) ++ [(l.length : Int)]).length = ([] : List Int).length + 1 := by simp
  rw [el] at T1 T2 T3 T4
  have e2 : l2 = l ++ [⟨El.inner [], nm, El.nul, at9⟩] := HL2.out.1.trans (congrArg (fun q => l ++ [(⟨q, nm, (⟨#[]⟩ : ByteArray), at9⟩ : El.Nd)]) (rfl : (-1 : Int) = El.inner []))
  rw [← e2]
  exact ⟨rfl, ⟨_, _, by simpa using T1, Kd.S_mono (Kd.S_bound T2) (fun k hk => hk.2.2.1), T3, HH.out⟩, T4⟩
def RRes (w w' : World) (e : Ending) (B g : Nat) (s : Except Int El.St) : Prop :=
 ∃ r : Int, e = .returned (.int .i64 r) ∧ Below B w w' ∧ ((s = .error r ∧ r ≠ 0) ∨ (r = 0 ∧ ∃ t, s = .ok t ∧ TAt w' B g w'.heap.size t.1 t.2))
theorem inner_nil {op : List Int} (h : op = []) : El.inner op < 0 := by subst h; decide
theorem dT_ {l : List El.Nd} {op : List Int} {T : Nat} (h : Inv l op T) (ho : op ≠ []) : 0 ≤ El.inner op ∧ El.inner op < (l.length : Int) := by
 refine inner_in h (fun hn => ?_)
 unfold El.inner at hn
 cases hx : op.getLast? with
 | none => exact ho (List.getLast?_eq_none_iff.1 hx)
 | some x =>
  rw [hx] at hn
  have := h.2.2.1 x (List.mem_of_getLast? hx)
  have hn : x < 0 := hn
  omega
theorem rtok_begin_all (B g N : Nat) (l : List El.Nd) (op : List Int) (T : Nat) (nm tx : ByteArray) (at9 : List El.Att) (em : Bool) (A3 : Option Addr) (c3 : Nat) (w : World) (h : TAt w B g N l op) (hI : Inv l op T) (hc3 : Kd.C k53 w A3 at9.length at9) (hlen : at9.length ≤ 1000000) :
 Calls Tryz.prog 17 #[.pointer (some ⟨g, 0, none⟩), .agg #[.int .i64 1, .string nm, .string tx, .slice A3 at9.length c3, .bool em]] w fun e w' => RRes w w' e B g (El.begin_ l op ⟨1, nm, tx, at9, em⟩) := by
 obtain ⟨hgB, hgl, hpos⟩ := h.ge
 have hBw : B ≤ w.heap.size := Nat.le_of_lt (Nat.lt_of_le_of_lt hgB hgl)
 obtain ⟨i1, i2, i3, i4⟩ := id hI
 have early : ∀ r : Int, (if nm = El.nul then Option.some (5 : Int) else if op = [] ∧ l ≠ [] then Option.some 6 else if 20 ≤ op.length then Option.some 7 else none) = Option.some r → r ≠ 0 → Calls Tryz.prog 17 #[.pointer (some ⟨g, 0, none⟩), .agg #[.int .i64 1, .string nm, .string tx, .slice A3 at9.length c3, .bool em]] w fun e w' => RRes w w' e B g (.error r) := by
  intro r hr hr0
  by_cases ho : op = []
  ·refine (a7_.begin_bad_none B g N l op nm tx em w h (by omega) (by omega) (.slice A3 at9.length c3) r hr ho).mono ?_
   rintro e w' ⟨rfl, b⟩
   exact ⟨r, rfl, b.mono hBw, .inl ⟨rfl, hr0⟩⟩
  ·obtain ⟨p0, p1⟩ := dT_ hI ho
   refine (a7_.begin_bad_some B g N l op nm tx em w h (by omega) (by omega) (.slice A3 at9.length c3) r hr ho p0 p1).mono ?_
   rintro e w' ⟨rfl, b⟩
   exact ⟨r, rfl, b.mono hBw, .inl ⟨rfl, hr0⟩⟩
 unfold El.begin_
 by_cases q1 : nm = El.nul
 ·rw [if_pos q1]
  exact early 5 (by rw [if_pos q1]) (by decide)
 rw [if_neg q1]
 by_cases q2 : op = [] ∧ l ≠ []
 ·rw [if_pos q2]
  exact early 6 (by rw [if_neg q1, if_pos q2]) (by decide)
 rw [if_neg q2]
 by_cases q4 : 20 ≤ op.length
 ·rw [if_pos q4]
  exact early 7 (by rw [if_neg q1, if_neg q2, if_pos q4]) (by decide)
 rw [if_neg q4]
 have fin : ∀ (op2 : List Int) (hop2 : op2 = if em = true then op else op ++ [(l.length : Int)]), (Calls Tryz.prog 17 #[.pointer (some ⟨g, 0, none⟩), .agg #[.int .i64 1, .string nm, .string tx, .slice A3 at9.length c3, .bool em]] w fun e w' => e = .returned (.int .i64 (bif decide (2000 ≤ l.length) then 3 else 0)) ∧ TAt w' B g w'.heap.size (l ++ [⟨El.inner op, nm, El.nul, at9⟩]) op2 ∧ Below B w w') → Calls Tryz.prog 17 #[.pointer (some ⟨g, 0, none⟩), .agg #[.int .i64 1, .string nm, .string tx, .slice A3 at9.length c3, .bool em]] w fun e w' => RRes w w' e B g (match El.put l op nm El.nul at9 with | none => .error 3 | some l' => .ok (l', if em = true then op else op ++ [(l.length : Int)])) := by
  intro op2 hop2 hc
  refine hc.mono ?_
  rintro e w' ⟨rfl, ht, b⟩
  unfold El.put
  by_cases q5 : l.length < 2000
  ·rw [if_pos q5, decide_eq_false (by omega)]
   exact ⟨0, rfl, b, .inr ⟨rfl, _, rfl, by rw [← hop2]; exact ht⟩⟩
  ·rw [if_neg q5, decide_eq_true (by omega)]
   exact ⟨3, rfl, b, .inl ⟨rfl, by decide⟩⟩
 cases em with
 | true =>
  refine fin op (by rw [if_pos rfl]) ?_
  by_cases ho : op = []
  ·exact rtok_begin_none_true B g N l op nm tx w h (by omega) (by omega) _ rfl at9 A3 c3 hc3 hlen q1 ho (Classical.byContradiction fun hn => q2 ⟨ho, fun he => hn (by rw [he]; rfl)⟩)
  ·obtain ⟨p0, p1⟩ := dT_ hI ho
   exact rtok_begin_some_true B g N l op nm tx w h (by omega) (by omega) _ rfl at9 A3 c3 hc3 hlen q1 (by omega) ho p0 p1
 | false =>
  refine fin (op ++ [(l.length : Int)]) (by rw [if_neg (by decide)]) ?_
  by_cases ho : op = []
  ·exact rtok_begin_none_false B g N l op nm tx w h (by omega) (by omega) _ rfl at9 A3 c3 hc3 hlen q1 ho (Classical.byContradiction fun hn => q2 ⟨ho, fun he => hn (by rw [he]; rfl)⟩)
  ·obtain ⟨p0, p1⟩ := dT_ hI ho
   exact rtok_begin_some_false B g N l op nm tx w h (by omega) (by omega) _ rfl at9 A3 c3 hc3 hlen q1 (by omega) ho p0 p1
theorem rtok_text_all (B g N : Nat) (l : List El.Nd) (op : List Int) (T : Nat) (nm tx : ByteArray) (va : Value) (em : Bool) (w : World) (h : TAt w B g N l op) (hG : Glob w) (hI : Inv l op T) (hT : T + tx.size ≤ 1000000000) :
 Calls Tryz.prog 17 #[.pointer (some ⟨g, 0, none⟩), .agg #[.int .i64 3, .string nm, .string tx, va, .bool em]] w fun e w' => RRes w w' e B g (El.text l op tx) := by
 obtain ⟨hgB, hgl, hpos⟩ := h.ge
 have hBw : B ≤ w.heap.size := Nat.le_of_lt (Nat.lt_of_le_of_lt hgB hgl)
 have i1 := hI.1
 have i2 := hI.2.1
 unfold El.text
 by_cases ho : op = []
 ·rw [if_pos (inner_nil ho)]
  refine (a7_.text_out B g N l op nm tx em w h (by omega) (by omega) va _ hG (by omega) rfl ho).mono ?_
  rintro e w' ⟨rfl, b⟩
  by_cases cb : El.blank tx = true
  ·rw [if_pos cb, if_pos cb]
   exact ⟨0, rfl, b.mono hBw, .inr ⟨rfl, _, rfl, (h.below b).now⟩⟩
  ·rw [if_neg cb, if_neg cb]
   exact ⟨6, rfl, b.mono hBw, .inl ⟨rfl, by decide⟩⟩
 obtain ⟨p0, p1⟩ := dT_ hI ho
 rw [if_neg (by omega)]
 by_cases q2 : tx = El.nul
 ·rw [if_pos q2]
  refine (a7_.text_same B g N l op nm tx em w h (by omega) (by omega) va ho p0 p1 q2).mono ?_
  rintro e w' ⟨rfl, b⟩
  exact ⟨0, rfl, b.mono hBw, .inr ⟨rfl, _, rfl, (h.below b).now⟩⟩
 rw [if_neg q2]
 have puts : (∀ k, El.lastI l (El.inner op) = some k → ¬ (bD_ l (k : Int)).f1 = El.nul) → Calls Tryz.prog 17 #[.pointer (some ⟨g, 0, none⟩), .agg #[.int .i64 3, .string nm, .string tx, va, .bool em]] w fun e w' => RRes w w' e B g (match El.put l op El.nul tx [] with | none => .error 3 | some l' => .ok (l', op)) := by
  intro hnew
  refine (a7_.text_put B g N l op nm tx em w h (by omega) (by omega) va _ rfl ho p0 p1 q2 hnew).mono ?_
  rintro e w' ⟨rfl, ht, b⟩
  unfold El.put
  by_cases q5 : l.length < 2000
  ·rw [if_pos q5, decide_eq_false (by omega)]
   exact ⟨0, rfl, b, .inr ⟨rfl, _, rfl, ht⟩⟩
  ·rw [if_neg q5, decide_eq_true (by omega)]
   exact ⟨3, rfl, b, .inl ⟨rfl, by decide⟩⟩
 cases hk : El.lastI l (El.inner op) with
 | none => exact puts (fun k h => by rw [hk] at h; cases h)
 | some k =>
  have hkl := El.lastI_lt l _ k hk
  by_cases c3 : (l.getD k El.zn).f1 = El.nul
  ·simp only [if_pos c3]
   have hm : (l.getD k El.zn) ∈ l := by rw [List.getD_eq_getElem?_getD, List.getElem?_eq_getElem hkl]; exact List.getElem_mem hkl
   have hz := hI.2.2.2 _ hm
   refine (a7_.text_add B g N l op nm tx em w h (by omega) (by omega) va k ho p0 p1 q2 hk c3 (by show (l.getD k El.zn).f2.size + _ ≤ _; omega)).mono ?_
   rintro e w' ⟨rfl, hb, b⟩
   exact ⟨0, rfl, b, .inr ⟨rfl, _, rfl, hb⟩⟩
  ·simp only [if_neg c3]
   exact puts (fun k' h => by rw [hk] at h; injection h with h; rw [← h]; exact c3)
theorem rtok_all (B g N : Nat) (l : List El.Nd) (op : List Int) (T : Nat) (t : El.Tok) (A3 : Option Addr) (c3 : Nat) (w : World) (h : TAt w B g N l op) (hG : Glob w) (hI : Inv l op T) (hT : T + t.f2.size ≤ 1000000000) (hc3 : Kd.C k53 w A3 t.f3.length t.f3) (hlen : t.f3.length ≤ 1000000) :
 Calls Tryz.prog 17 #[.pointer (some ⟨g, 0, none⟩), .agg #[.int .i64 t.f0, .string t.f1, .string t.f2, .slice A3 t.f3.length c3, .bool t.f4]] w fun e w' => RRes w w' e B g (El.take l op t) := by
 obtain ⟨hgB, hgl, hpos⟩ := h.ge
 have hBw : B ≤ w.heap.size := Nat.le_of_lt (Nat.lt_of_le_of_lt hgB hgl)
 have i1 := hI.1
 have i2 := hI.2.1
 have same : ∀ e w', (e = .returned (.int .i64 0) ∧ Below w.heap.size w w') → RRes w w' e B g (.ok (l, op)) := by
  rintro e w' ⟨rfl, b⟩
  exact ⟨0, rfl, b.mono hBw, .inr ⟨rfl, _, rfl, (h.below b).now⟩⟩
 have bad : ∀ (r : Int), r ≠ 0 → ∀ e w', (e = .returned (.int .i64 r) ∧ Below w.heap.size w w') → RRes w w' e B g (.error r) := by
  rintro r hr e w' ⟨rfl, b⟩
  exact ⟨r, rfl, b.mono hBw, .inl ⟨rfl, hr⟩⟩
 obtain ⟨kd, nm, tx, at9, em⟩ := t
 simp only at hT hc3 hlen ⊢
 unfold El.take
 simp only
 by_cases k4 : kd = 4
 ·subst k4
  rw [if_pos rfl]
  by_cases ho : op = []
  ·exact (a7_.skip4_none B g N l op nm tx em w h (by omega) (by omega) (.slice A3 at9.length c3) ho).mono same
  ·obtain ⟨p0, p1⟩ := dT_ hI ho
   exact (a7_.skip4_some B g N l op nm tx em w h (by omega) (by omega) (.slice A3 at9.length c3) ho p0 p1).mono same
 rw [if_neg k4]
 by_cases k5 : kd = 5
 ·subst k5
  rw [if_pos rfl]
  by_cases ho : op = []
  ·exact (a7_.skip5_none B g N l op nm tx em w h (by omega) (by omega) (.slice A3 at9.length c3) ho).mono same
  ·obtain ⟨p0, p1⟩ := dT_ hI ho
   exact (a7_.skip5_some B g N l op nm tx em w h (by omega) (by omega) (.slice A3 at9.length c3) ho p0 p1).mono same
 rw [if_neg k5]
 by_cases k1 : kd = 1
 ·subst k1
  rw [if_pos rfl]
  exact rtok_begin_all B g N l op T nm tx at9 em A3 c3 w h hI hc3 hlen
 rw [if_neg k1]
 by_cases k2 : kd = 2
 ·subst k2
  rw [if_pos rfl]
  unfold El.end_
  simp only
  by_cases ho : op = []
  ·rw [if_pos (inner_nil ho)]
   exact (a7_.end_none B g N l op nm tx em w h (by omega) (by omega) (.slice A3 at9.length c3) ho).mono (bad 6 (by decide))
  obtain ⟨p0, p1⟩ := dT_ hI ho
  rw [if_neg (by omega)]
  by_cases c2 : (l.getD (El.inner op).toNat El.zn).f1 = nm
  ·rw [if_pos c2]
   refine (a7_.end_yes B g N l op nm tx em w h (by omega) (by omega) (.slice A3 at9.length c3) ho p0 p1 i1 c2).mono ?_
   rintro e w' ⟨rfl, ht, b⟩
   exact ⟨0, rfl, b, .inr ⟨rfl, _, rfl, ht⟩⟩
  ·rw [if_neg c2]
   exact (a7_.end_other B g N l op nm tx em w h (by omega) (by omega) (.slice A3 at9.length c3) ho p0 p1 c2).mono (bad 6 (by decide))
 rw [if_neg k2]
 by_cases k3 : kd = 3
 ·subst k3
  rw [if_pos rfl]
  exact rtok_text_all B g N l op T nm tx (.slice A3 at9.length c3) em w h hG hI hT
 rw [if_neg k3]
 by_cases ho : op = []
 ·exact (a7_.bad_none B g N l op nm tx em w h (by omega) (by omega) kd ⟨k1, k2, k3, k4, k5⟩ (.slice A3 at9.length c3) ho).mono (bad 5 (by decide))
 ·obtain ⟨p0, p1⟩ := dT_ hI ho
  exact (a7_.bad_some B g N l op nm tx em w h (by omega) (by omega) kd ⟨k1, k2, k3, k4, k5⟩ (.slice A3 at9.length c3) ho p0 p1).mono (bad 5 (by decide))
def cG_.f (l0 : List S45) : Option (List S32 × Int) := if El.fits l0 = true then some (El.tree l0) else none
theorem cG_.loop (A0 : Option Addr) (c0 : Nat) (l0 : List S45) (ans : Except Int El.St) (w : World) (hr0 : Kd.C k45 w A0 l0.length l0) (hG : Glob w) (hfit : El.fits l0 = true) (hans : El.all [] [] l0 = ans) :
 Calls Tryz.prog 6 #[.slice A0 l0.length c0] w fun e w' => Below w.heap.size w w' ∧ (∀ r, ans = .error r → e = .returned (.tuple #[.slice none 0 0, .int .i64 r])) ∧ (∀ s, ans = .ok s → if s.1 = [] ∨ s.2 ≠ [] then e = .returned (.tuple #[.slice none 0 0, .int .i64 6]) else ∃ v0_ : Value, e = .returned (.tuple #[v0_, .int .i64 0]) ∧ Kd.S k32 32 w' w.heap.size (fun _ => True) v0_ s.1) := by
 unfold El.fits at hfit
 simp only [Bool.and_eq_true, decide_eq_true_eq, List.all_eq_true] at hfit
 obtain ⟨⟨hsum, hatt⟩, hlen⟩ := hfit
 have hpos := hG.lt
 obtain ⟨POST, hPOST⟩ : ∃ POST : Ending → World → Prop, POST = fun e w' => Below w.heap.size w w' ∧ (∀ r, ans = .error r → e = .returned (.tuple #[.slice none 0 0, .int .i64 r])) ∧ (∀ s, ans = .ok s → if s.1 = [] ∨ s.2 ≠ [] then e = .returned (.tuple #[.slice none 0 0, .int .i64 6]) else ∃ v0_ : Value, e = .returned (.tuple #[v0_, .int .i64 0]) ∧ Kd.S k32 32 w' w.heap.size (fun _ => True) v0_ s.1) := ⟨_, rfl⟩
 rw [← hPOST]
 have HPO := Lib.hid hPOST
 have HSUM := Lib.hid hsum
 have HATT := Lib.hid hatt
 have HANS := aA_.mk hans
 have HR := aA_.mk hr0
 have HG := aA_.mk hG
 have hu := Tryz.underlying48
 have ht := Tryz.underlying45
 clear hPOST hsum hatt hans hr0 hG
 go_enter Tryz.func6, Tryz.ntmps6
 go_wp2
 obtain ⟨W, hW⟩ : ∃ W, W = w.alloc (.cells #[.slice none 0 0, .slice none 0 0] 48) := ⟨_, rfl⟩
 obtain ⟨g, hg⟩ : ∃ g, g = w.heap.size := ⟨_, rfl⟩
 obtain ⟨B, hBe⟩ : ∃ B, B = w.heap.size := ⟨_, rfl⟩
 obtain ⟨wb, hwb⟩ : ∃ wb, wb = w := ⟨_, rfl⟩
 have hblk : W.heap[g]? = some (.cells #[.slice none 0 0, .slice none 0 0] 48 (0, 0)) := by
  rw [hW, hg]; exact heap_alloc_new _ _
 have hBW : Below B wb W := by
  rw [hW, hBe, hwb]
  exact aH_ (Below.refl _ _) _
 have H2 := aA_.mk (show TAt W B g W.heap.size [] [] from ⟨_, _, hblk, Kd.S_nil _ _ _ _ _, Kd.R_nil _ _ _ _ _, by omega, by omega⟩)
 have B2 := aA_.mk hBW
 have HGb := aA_.mk (show Glob wb from by rw [hwb]; exact HG.out)
 have HRb := aA_.mk (show Kd.C k45 wb A0 l0.length l0 from by rw [hwb]; exact HR.out)
 have HBE := Lib.hid (show B = wb.heap.size ∧ 0 < B from by rw [hBe, hwb]; exact ⟨rfl, hpos⟩)
 have HPB := Lib.hid (show POST = fun e w' => Below B wb w' ∧ (∀ r, ans = .error r → e = .returned (.tuple #[.slice none 0 0, .int .i64 r])) ∧ (∀ s, ans = .ok s → if s.1 = [] ∨ s.2 ≠ [] then e = .returned (.tuple #[.slice none 0 0, .int .i64 6]) else ∃ v0_ : Value, e = .returned (.tuple #[v0_, .int .i64 0]) ∧ Kd.S k32 32 w' B (fun _ => True) v0_ s.1) from by rw [hBe, hwb]; exact HPO.out)
 rw [← hW, ← hg]
 clear hblk hBW hW hg hBe hwb HPO HG HR hpos
 go_loopg [5] (l0.length + 1) (fun kq_ u5 w1 => ∃ (i : Nat) (l : List El.Nd) (op : List Int) (T : Nat), i ≤ l0.length ∧ i + kq_ = l0.length + 1 ∧ u5 = .int .i64 (i : Int) ∧ aA_ (El.all l op (l0.drop i) = ans) ∧ aA_ (Inv l op T) ∧ aA_ (T + ((l0.drop i).map fun t => t.f2.size).sum ≤ 1000000000) ∧ aA_ (TAt w1 B g w1.heap.size l op) ∧ aA_ (Below B wb w1))
 case atStart => exact ⟨0, [], [], 0, Nat.zero_le _, by omega, rfl, ⟨by rw [List.drop_zero]; exact HANS.out⟩, ⟨inv_nil⟩, ⟨by rw [List.drop_zero, Nat.zero_add]; exact HSUM.out⟩, H2, B2⟩
 clear H2 B2 HANS
 obtain ⟨i, l, op, T, hi, hgk, rfl, HA, HI, HT, H, HB⟩ := hrel
 obtain ⟨g1, rfl⟩ : ∃ g1, gk = g1 + 1 := ⟨gk - 1, by omega⟩
 have HG1 := aA_.mk (HGb.out.below HB.out HBE.out.2)
 by_cases hlt : i < l0.length
 ·have d1 : decide ((i : Int) < (l0.length : Int)) = true := decide_eq_true (by omega)
  have d1' : decide (i < l0.length) = true := decide_eq_true hlt
  have p1 := eq_true (show (0 : Int) ≤ (i : Int) by omega)
  have p2 := eq_true (show (i : Int) < (l0.length : Int) by omega)
  have p3 := eq_true hlt
  have hC := Kd.C_below (w1 := wr) HRb.out (by have := HB.out; rw [HBE.out.1] at this; exact this)
  obtain ⟨ad, A3, c3, e_, q0, q1, q2, q3, q4, q5, q6⟩ := at_T45 hC (i : Int) (by omega) (by omega)
  cases e_
  simp only [Int.toNat_natCast] at q0 q1 q2 q3 q4
  obtain ⟨tk, htk⟩ : ∃ tk, tk = rd_T45 l0 (i : Int) := ⟨_, rfl⟩
  rw [← htk] at q0 q1 q2 q3 q4 q6
  have hel : tk = l0[i] := by rw [htk, rd_tok l0 i hlt]
  have hdr : l0.drop i = tk :: l0.drop (i + 1) := by rw [List.drop_eq_getElem_cons hlt, hel]
  have hA := HA.out
  have hT := HT.out
  rw [hdr] at hA hT
  simp only [List.map_cons, List.sum_cons] at hT
  have CT := aA_.mk (rtok_all B g wr.heap.size l op T tk A3 c3 wr H.out HG1.out HI.out (by omega) q6 (HATT.out tk (by rw [hel]; exact List.getElem_mem hlt)))
  have HA1 := aA_.mk hA
  have HT1 := aA_.mk hT
  have ew : wrap64 ((i : Int) + 1) = ((i + 1 : Nat) : Int) := by unfold wrap64; omega
  have ew' : wrap64 ((i : Int) + 1) = (i : Int) + 1 := by unfold wrap64; omega
  clear hA hT hdr hel htk hC q5 q6 ew'
  go_wp2_with (go_at_call 17; (with_reducible refine CT.out.mono ?_))
  rintro e wn ⟨r, rfl, bn, hres⟩
  have B3 := aA_.mk (HB.out.trans bn)
  clear bn CT
  rcases hres with ⟨hs, hr⟩ | ⟨rfl, s, hs, hb⟩
  ·have b0 : (r == 0) = false := beq_eq_false_iff_ne.mpr hr
   have b1 : (r != 0) = true := bne_iff_ne.mpr hr
   have hA := HA1.out
   unfold El.all at hA
   rw [hs] at hA
   have HA2 := aA_.mk hA
   clear hs hr hA
   go_wp2_with (fail)
   (try go_ret2)
   rw [HPB.out]
   refine ⟨B3.out, fun r' h => ?_, fun s h => ?_⟩
   ·rw [← HA2.out] at h; injection h with h; subst h; rfl
   ·rw [← HA2.out] at h; cases h
  ·have hA := HA1.out
   unfold El.all at hA
   rw [hs] at hA
   have hI' := inv_take HI.out tk s hs
   have HA2 := aA_.mk (show El.all s.1 s.2 (l0.drop (i + 1)) = ans from hA)
   have HI2 := aA_.mk hI'
   have HT2 := aA_.mk (show T + tk.f2.size + ((l0.drop (i + 1)).map fun t => t.f2.size).sum ≤ 1000000000 from by have := HT1.out; omega)
   have H3 := aA_.mk hb
   clear hA hI' hs hb
   go_wp2_with (fail)
   go_roundg g1
   case measure => omega
   case rel => exact ⟨i + 1, s.1, s.2, T + tk.f2.size, by omega, by omega, by first | rfl | (rw [ew]) | (simp; done), HA2, HI2, HT2, H3, B3⟩
 have hil : i = l0.length := by omega
 have hA := HA.out
 rw [hil, List.drop_length] at hA
 have hA : .ok (l, op) = ans := hA
 have d1 : decide ((i : Int) < (l0.length : Int)) = false := decide_eq_false (by omega)
 have d1' : decide (i < l0.length) = false := decide_eq_false hlt
 have HA1 := aA_.mk hA
 have hb := H.out
 obtain ⟨v1, v2, h1, h2, h3, h4⟩ := hb
 obtain ⟨A1, c1, rfl⟩ := Kd.S_slice h2
 obtain ⟨A2, c2, rfl⟩ := Kd.R_slice h3
 have x0 := (aC_ h1 0).trans rfl
 have x1 := (aC_ h1 1).trans rfl
 have H2 := aA_.mk h2
 clear h1 h2 h3 h4 hA hil H
 by_cases hl : l = []
 ·have b0 : ((l.length : Int) == 0) = true := by rw [hl]; rfl
  have b0' : (l.length == 0) = true := by rw [hl]; rfl
  have HL := Lib.hid hl
  clear hl
  go_wp2_with (fail)
  (try go_ret2)
  rw [HPB.out]
  refine ⟨HB.out, fun r' h => ?_, fun s h => ?_⟩
  ·rw [← HA1.out] at h; cases h
  ·rw [← HA1.out] at h; injection h with h; rw [← h, if_pos (.inl HL.out)]; rfl
 have hln : l.length ≠ 0 := fun h => hl (List.eq_nil_of_length_eq_zero h)
 have b0 : ((l.length : Int) == 0) = false := beq_eq_false_iff_ne.mpr (by omega)
 have b0' : (l.length == 0) = false := beq_eq_false_iff_ne.mpr hln
 by_cases ho : op = []
 ·have e0 : decide ((0 : Int) < (op.length : Int)) = false := by rw [ho]; rfl
  have e0' : decide (0 < op.length) = false := by rw [ho]; rfl
  have HL := Lib.hid (And.intro hl ho)
  clear hl ho hln
  go_wp2_with (fail)
  (try go_ret2)
  rw [HPB.out]
  refine ⟨HB.out, fun r' h => ?_, fun s h => ?_⟩
  ·rw [← HA1.out] at h; cases h
  ·rw [← HA1.out] at h
   injection h with h
   rw [← h, if_neg (fun h => h.elim HL.out.1 (fun h2 => h2 HL.out.2))]
   exact ⟨_, rfl, Kd.S_mono H2.out (fun _ _ => trivial)⟩
 have hon : op.length ≠ 0 := fun h => ho (List.eq_nil_of_length_eq_zero h)
 have e0 : decide ((0 : Int) < (op.length : Int)) = true := decide_eq_true (by omega)
 have e0' : decide (0 < op.length) = true := decide_eq_true (by omega)
 have HL := Lib.hid ho
 clear hl ho hln hon
 go_wp2_with (fail)
 (try go_ret2)
 rw [HPB.out]
 refine ⟨HB.out, fun r' h => ?_, fun s h => ?_⟩
 ·rw [← HA1.out] at h; cases h
 ·rw [← HA1.out] at h
  injection h with h
  rw [← h, if_pos (.inr HL.out)]
  rfl
theorem cG_.calls (A0 : Option Addr) (c0 : Nat) (l0 : List S45) (r1 : List S32) (r2 : Int) (w : World) (hr0 : Kd.C k45 w A0 l0.length l0) (hc0 : l0.length ≤ c0) (hG : Glob w) (h : cG_.f l0 = some (r1, r2)) :
 Calls Tryz.prog 6 #[.slice A0 l0.length c0] w fun e w' => ∃ v0_ : Value, e = .returned (.tuple #[v0_, .int .i64 r2]) ∧ Kd.S k32 32 w' w.heap.size (fun _ => True) v0_ r1 ∧ Below w.heap.size w w' := by
 unfold cG_.f at h
 by_cases hf : El.fits l0 = true
 rotate_left
 ·rw [if_neg hf] at h
  cases h
 rw [if_pos hf] at h
 have h := Option.some.inj h
 unfold El.tree at h
 refine (cG_.loop A0 c0 l0 _ w hr0 hG hf rfl).mono ?_
 rintro e w' ⟨b, he, hs⟩
 cases ha : El.all [] [] l0 with
 | error r =>
  rw [ha] at h
  obtain ⟨rfl, rfl⟩ := Prod.mk.inj h
  exact ⟨_, he r ha, Kd.S_nil _ _ _ _ _, b⟩
 | ok s =>
  rw [ha] at h
  have hs := hs s ha
  simp only at h
  by_cases hq : s.1 = [] ∨ s.2 ≠ []
  ·rw [if_pos hq] at h hs
   obtain ⟨rfl, rfl⟩ := Prod.mk.inj h
   exact ⟨_, hs, Kd.S_nil _ _ _ _ _, b⟩
  ·rw [if_neg hq] at h hs
   obtain ⟨rfl, rfl⟩ := Prod.mk.inj h
   obtain ⟨v, rfl, hv⟩ := hs
   exact ⟨_, rfl, hv, b⟩
def c8_.f (a0 : Int) : Option (Bool) := (bS_.f a0).bind fun t135 => (if t135 = true then (some true) else (some (decide (a0 > 32))))
theorem c8_.calls (a0 : Int) (r : Bool) (w : World) (hG : Glob w) (h : c8_.f a0 = some r) :
 Calls Tryz.prog 53 #[.int .u8 a0] w fun e w' => e = .returned (.bool r) ∧ aS_ w w' := by
 have HG := aA_.mk hG
 clear hG
 have H : ((bS_.f a0).bind fun t135 => (if t135 = true then (some true) else (some (decide (a0 > 32))))) = some r := h
 clear h
 replace H := bi H
 obtain ⟨t135, A20, H⟩ := H
 try dsimp only at H
 have A2 := aA_.mk A20
 clear A20
 by_cases c3 : t135 = true
 ·subst c3
  replace H : (some true) = some r := by rw [if_pos rfl] at H; exact H
  obtain rfl := Option.some.inj H
  go_enter Tryz.func53, Tryz.ntmps53
  go_wp2_with (first | (refine gl (some 4) Tryz.func43 #[.int .u8 a0] ?_; (with_reducible refine (bS_.calls a0 true _ ?side1 A2.out).mono ?_); (case side1 => exact Glob.drawn HG.out (r4g6_)); rintro e w' ⟨rfl, ⟨nd, rfl⟩⟩; refine ⟨_, rfl, ?_⟩))
  go_ret
  exact ⟨by first | rfl | (simp; done) | (simp [*]; done), r4g6_⟩
 replace c3 := Bool.eq_false_iff.mpr c3
 subst c3
 replace H : (some (decide (a0 > 32))) = some r := by rw [if_neg nF] at H; exact H
 obtain rfl := Option.some.inj H
 go_enter Tryz.func53, Tryz.ntmps53
 go_wp2_with (first | (refine gl (some 4) Tryz.func43 #[.int .u8 a0] ?_; (with_reducible refine (bS_.calls a0 false _ ?side1 A2.out).mono ?_); (case side1 => exact Glob.drawn HG.out (r4g6_)); rintro e w' ⟨rfl, ⟨nd, rfl⟩⟩; refine ⟨_, rfl, ?_⟩))
 go_ret
 exact ⟨by first | rfl | (simp; done) | (simp [*]; done), r4g6_⟩
def bN_.l0 : Nat → ByteArray → Int → Option (Bool)
 | 0, _, _ => none
 | k + 1, x0, x3 => if x3 < (x0.size : Int) then (if 0 ≤ x3 then ((c8_.f (bt x0 x3)).bind fun t136 => (if t136 = true then (bN_.l0 k x0 (wrap64 (x3 + 1))) else (some false))) else (none)) else (some true)
def bN_.f (k : Nat) (a0 : ByteArray) : Option (Bool) := bN_.l0 k a0 0
theorem bN_.mono_l : ∀ k, (∀ y0 y1, LeO (bN_.l0 k y0 y1) (bN_.l0 (k + 1) y0 y1))
 | 0 => fun _ _ r h => by simp [bN_.l0] at h
 | k + 1 => by
  have ih0 := bN_.mono_l k
  ·intro y0 y1
   unfold bN_.l0
   exact mo
theorem bN_.mono : ∀ a0 k, LeO (bN_.f k a0) (bN_.f (k + 1) a0) := by
 intro a0 k
 have ih0 := bN_.mono_l k
 unfold bN_.f
 exact mo
theorem bN_.calls (k : Nat) (a0 : ByteArray) (r : Bool) (w : World) (hG : Glob w) (h : bN_.f k a0 = some r) :
 Calls Tryz.prog 34 #[.string a0] w fun e w' => e = .returned (.bool r) ∧ aS_ w w' := by
 have HG := aA_.mk hG
 clear hG
 have H : (bN_.l0 k a0 0) = some r := h
 clear h
 have H' := aA_.mk H
 clear H
 go_enter Tryz.func34, Tryz.ntmps34
 go_wp2
 go_loopg [3] k (fun kq v3 w' => ∃ (x3_1 : Int), v3 = .int .i64 x3_1 ∧ aA_ (bN_.l0 kq a0 x3_1 = some r) ∧ aA_ (kq ≤ k) ∧ aS_ w w')
 case atStart => exact ⟨(0), cA, H', ⟨Nat.le_refl _⟩, r4g6_⟩
 clear H'
 obtain ⟨x3_1, rfl, HA, HK1, ⟨m1, rfl⟩⟩ := hrel
 cases gk with
 | zero => exact absurd HA.out (by simp [bN_.l0])
 | succ k1 =>
  have H := HA.out
  clear HA
  simp only [bN_.l0] at H
  by_cases c2 : x3_1 < (a0.size : Int)
  rotate_left
  ·rw [if_neg c2] at H
   have c2b0 := dF c2
   clear c2
   obtain rfl := Option.some.inj H
   go_wp2
   go_ret
   exact ⟨by first | rfl | (simp; done) | (simp [*]; done), r4g6_⟩
  rw [if_pos c2] at H
  have c2b0 := dT c2
  clear c2
  obtain ⟨c3, H⟩ := gp H
  have c3b0 := dT c3
  clear c3
  replace H := bi H
  obtain ⟨t136, A50, H⟩ := H
  try dsimp only at H
  have A5 := aA_.mk A50
  clear A50
  by_cases c6 : t136 = true
  rotate_left
  ·replace c6 := Bool.eq_false_iff.mpr c6
   subst c6
   replace H : (some false) = some r := by rw [if_neg nF] at H; exact H
   obtain rfl := Option.some.inj H
   have p4 : 0 ≤ (x3_1 : Int) := dA
   have q4 : x3_1 < (a0.size : Int) := dA
   have hx4 := dP_ a0 x3_1
   replace p4 := eq_true p4
   replace q4 := eq_true q4
   go_wp2_with (first | (refine gl (some 13) Tryz.func53 #[.int .u8 (bt a0 x3_1)] ?_; (with_reducible refine (c8_.calls (bt a0 x3_1) false _ ?side1 A5.out).mono ?_); (case side1 => exact Glob.drawn HG.out (r4g6_)); rintro e w' ⟨rfl, ⟨nd, rfl⟩⟩; refine ⟨_, rfl, ?_⟩))
   go_ret
   exact ⟨by first | rfl | (simp; done) | (simp [*]; done), r4g6_⟩
  subst c6
  replace H : (bN_.l0 k1 a0 (wrap64 (x3_1 + 1))) = some r := by rw [if_pos rfl] at H; exact H
  have H' := aA_.mk H
  clear H
  have p4 : 0 ≤ (x3_1 : Int) := dA
  have q4 : x3_1 < (a0.size : Int) := dA
  have hx4 := dP_ a0 x3_1
  replace p4 := eq_true p4
  replace q4 := eq_true q4
  go_wp2_with (first | (refine gl (some 13) Tryz.func53 #[.int .u8 (bt a0 x3_1)] ?_; (with_reducible refine (c8_.calls (bt a0 x3_1) true _ ?side1 A5.out).mono ?_); (case side1 => exact Glob.drawn HG.out (r4g6_)); rintro e w' ⟨rfl, ⟨nd, rfl⟩⟩; refine ⟨_, rfl, ?_⟩))
  go_roundg k1
  case measure => have := HK1.out; omega
  case rel => exact ⟨(wrap64 (x3_1 + 1)), cA, H', ⟨by have := HK1.out; omega⟩, r4g6_⟩
def aK_.f (a0 : ByteArray) (a1 : ByteArray) (a2 : Int) : Option (Bool) := if (wrap64 (a2 + (a1.size : Int))) ≤ (a0.size : Int) then (if 0 ≤ a2 then (if a2 ≤ (wrap64 (a2 + (a1.size : Int))) then (some ((a0.extract (a2 : Int).toNat ((wrap64 (a2 + (a1.size : Int))) : Int).toNat).toList == a1.toList)) else (none)) else (none)) else (some false)
theorem aK_.calls (a0 : ByteArray) (a1 : ByteArray) (a2 : Int) (r : Bool) (w : World) (hG : Glob w) (h : aK_.f a0 a1 a2 = some r) :
 Calls Tryz.prog 54 #[.string a0, .string a1, .int .i64 a2] w fun e w' => e = .returned (.bool r) ∧ aS_ w w' := by
 have HG := aA_.mk hG
 clear hG
 have H : (if (wrap64 (a2 + (a1.size : Int))) ≤ (a0.size : Int) then (if 0 ≤ a2 then (if a2 ≤ (wrap64 (a2 + (a1.size : Int))) then (some ((a0.extract (a2 : Int).toNat ((wrap64 (a2 + (a1.size : Int))) : Int).toNat).toList == a1.toList)) else (none)) else (none)) else (some false)) = some r := h
 clear h
 by_cases c4 : (wrap64 (a2 + (a1.size : Int))) ≤ (a0.size : Int)
 rotate_left
 ·rw [if_neg c4] at H
  have c4b0 := dF c4
  clear c4
  obtain rfl := Option.some.inj H
  go_enter Tryz.func54, Tryz.ntmps54
  go_wp2
  go_ret
  exact ⟨by first | rfl | (simp; done) | (simp [*]; done), r4g6_⟩
 rw [if_pos c4] at H
 have c4b0 := dT c4
 clear c4
 obtain ⟨c5, H⟩ := gp H
 have c5b0 := eq_true c5
 have c5b1 := dT c5
 clear c5
 obtain ⟨c6, H⟩ := gp H
 have c6b0 := eq_true c6
 have c6b1 := dT c6
 have c7b0 := eq_true (dA : (wrap64 (a2 + (a1.size : Int))) ≤ (a0.size : Int))
 obtain rfl := Option.some.inj H
 go_enter Tryz.func54, Tryz.ntmps54
 go_wp2
 go_ret
 exact ⟨by first | rfl | (simp; done) | (simp [*]; done), r4g6_⟩
def aW_.l0 : Nat → ByteArray → ByteArray → Int → Option (Int)
 | 0, _, _, _ => none
 | k + 1, x0, x1, x7 => if (wrap64 (x7 + (x1.size : Int))) ≤ (x0.size : Int) then (if 0 ≤ x7 then (if x7 ≤ (wrap64 (x7 + (x1.size : Int))) then (if (x0.extract (x7 : Int).toNat ((wrap64 (x7 + (x1.size : Int))) : Int).toNat).toList = x1.toList then (some x7) else (aW_.l0 k x0 x1 (wrap64 (x7 + 1)))) else (none)) else (none)) else (some (-1))
def aW_.f (k : Nat) (a0 : ByteArray) (a1 : ByteArray) (a2 : Int) : Option (Int) := aW_.l0 k a0 a1 a2
theorem aW_.mono_l : ∀ k, (∀ y0 y1 y2, LeO (aW_.l0 k y0 y1 y2) (aW_.l0 (k + 1) y0 y1 y2))
 | 0 => fun _ _ _ r h => by simp [aW_.l0] at h
 | k + 1 => by
  have ih0 := aW_.mono_l k
  ·intro y0 y1 y2
   unfold aW_.l0
   exact mo
theorem aW_.mono : ∀ a0 a1 a2 k, LeO (aW_.f k a0 a1 a2) (aW_.f (k + 1) a0 a1 a2) := by
 intro a0 a1 a2 k
 have ih0 := aW_.mono_l k
 unfold aW_.f
 exact mo
theorem aW_.calls (k : Nat) (a0 : ByteArray) (a1 : ByteArray) (a2 : Int) (r : Int) (w : World) (hG : Glob w) (h : aW_.f k a0 a1 a2 = some r) :
 Calls Tryz.prog 59 #[.string a0, .string a1, .int .i64 a2] w fun e w' => e = .returned (.int .i64 r) ∧ aS_ w w' := by
 have HG := aA_.mk hG
 clear hG
 have H : (aW_.l0 k a0 a1 a2) = some r := h
 clear h
 have H' := aA_.mk H
 clear H
 go_enter Tryz.func59, Tryz.ntmps59
 go_wp2
 go_loopg [7] k (fun kq v7 w' => ∃ (x7_1 : Int), v7 = .int .i64 x7_1 ∧ aA_ (aW_.l0 kq a0 a1 x7_1 = some r) ∧ aA_ (kq ≤ k) ∧ aS_ w w')
 case atStart => exact ⟨(a2), cA, H', ⟨Nat.le_refl _⟩, r4g6_⟩
 clear H'
 try clear p2
 obtain ⟨x7_1, rfl, HA, HK1, ⟨m1, rfl⟩⟩ := hrel
 cases gk with
 | zero => exact absurd HA.out (by simp [aW_.l0])
 | succ k1 =>
  have H := HA.out
  clear HA
  simp only [aW_.l0] at H
  by_cases c4 : (wrap64 (x7_1 + (a1.size : Int))) ≤ (a0.size : Int)
  rotate_left
  ·rw [if_neg c4] at H
   have c4b0 := dF c4
   clear c4
   obtain rfl := Option.some.inj H
   go_wp2
   go_ret
   exact ⟨by first | rfl | (simp; done) | (simp [*]; done), r4g6_⟩
  rw [if_pos c4] at H
  have c4b0 := dT c4
  clear c4
  obtain ⟨c5, H⟩ := gp H
  have c5b0 := eq_true c5
  have c5b1 := dT c5
  clear c5
  obtain ⟨c6, H⟩ := gp H
  have c6b0 := eq_true c6
  have c6b1 := dT c6
  have c7b0 := eq_true (dA : (wrap64 (x7_1 + (a1.size : Int))) ≤ (a0.size : Int))
  by_cases c8 : (a0.extract (x7_1 : Int).toNat ((wrap64 (x7_1 + (a1.size : Int))) : Int).toNat).toList = a1.toList
  ·rw [if_pos c8] at H
   obtain ⟨c8b0, c8b1⟩ := eqT c8
   clear c8
   obtain rfl := Option.some.inj H
   go_wp2
   go_ret
   exact ⟨by first | rfl | (simp; done) | (simp [*]; done), r4g6_⟩
  rw [if_neg c8] at H
  obtain ⟨c8b0, c8b1⟩ := eqF c8
  have H' := aA_.mk H
  clear H
  go_wp2
  go_roundg k1
  case measure => have := HK1.out; omega
  case rel => exact ⟨(wrap64 (x7_1 + 1)), cA, H', ⟨by have := HK1.out; omega⟩, r4g6_⟩
def aD_ (w0 W : World) (g : Nat) (f0 : ByteArray) (f1 : Int) : Prop := W.heap[g]? = some (.cells #[.string f0, .int .i64 f1] 77 (0, 0)) ∧ w0.heap.size ≤ g
theorem aD_.grown {w0 W : World} {g : Nat} {f0 : ByteArray} {f1 : Int} {W1 : World} {row : Option Nat} (h : aD_ w0 W g f0 f1) (hw : W.grownBy W1 row) (hne : some g ≠ row) : aD_ w0 W1 g f0 f1 := by
 obtain ⟨hb, hg⟩ := h
 exact ⟨b6_ hb hw hne, hg⟩
theorem aD_.below {w0 W : World} {g : Nat} {f0 : ByteArray} {f1 : Int} {W1 : World} (h : aD_ w0 W g f0 f1) (hw : Below W.heap.size W W1) : aD_ w0 W1 g f0 f1 := h.grown (grown_of_below hw none) (by simp)
theorem aD_.alloc {w0 W : World} {g : Nat} {f0 : ByteArray} {f1 : Int} (h : aD_ w0 W g f0 f1) (o : Obj) : aD_ w0 (W.alloc o) g f0 f1 := h.below (aH_ (Below.refl _ _) o)
theorem aD_.drewN {w0 W : World} {g : Nat} {f0 : ByteArray} {f1 : Int} (h : aD_ w0 W g f0 f1) (m : Nat) : aD_ w0 (W.drewN m) g f0 f1 := h
theorem aD_.drew {w0 W : World} {g : Nat} {f0 : ByteArray} {f1 : Int} (h : aD_ w0 W g f0 f1) : aD_ w0 W.drew g f0 f1 := h
theorem aD_.apart {w0 W : World} {g : Nat} {f0 : ByteArray} {f1 : Int} {α : Type} {d : Kd α} {e : Nat} {base : Nat} {ok : Nat → Prop} {v : Value} {xs : List α} (h : aD_ w0 W g f0 f1) (ho : d.R e W base ok v xs) (ht : ∀ q, q ∈ e :: d.E → q ≠ 77) : d.R e W base (fun k => ok k ∧ k ≠ g) v xs := by
 obtain ⟨hb, hg⟩ := h
 exact Kd.R_types ho hb ht
theorem aD_.own_ne {w0 W : World} {g : Nat} {f0 : ByteArray} {f1 : Int} {α : Type} {d : Kd α} {e : Nat} {base : Nat} {ok : Nat → Prop} {v : Value} {xs : List α} (h : aD_ w0 W g f0 f1) (ho : d.R e W base ok v xs) (ht : e ≠ 77) : some g ≠ v.ownBlock := by
 obtain ⟨hb, hg⟩ := h
 exact Kd.R_ne ho hb ht
theorem aD_.lt {w0 W : World} {g : Nat} {f0 : ByteArray} {f1 : Int} (h : aD_ w0 W g f0 f1) : g < W.heap.size := by
 obtain ⟨hb, hg⟩ := h
 exact cT_ hb
theorem aD_.ge {w0 W : World} {g : Nat} {f0 : ByteArray} {f1 : Int} (h : aD_ w0 W g f0 f1) : w0.heap.size ≤ g := by
 obtain ⟨hb, hg⟩ := h
 exact hg
theorem aD_.far {w0 W : World} {g : Nat} {f0 : ByteArray} {f1 : Int} {p : Addr} (h : aD_ w0 W g f0 f1) (hne : g ≠ p.block) (u : Value) : aD_ w0 (W.setCell p u) g f0 f1 := by
 obtain ⟨hb, hg⟩ := h
 exact ⟨bT_ hb hne u, hg⟩
theorem a9_ {W : World} {g : Nat} {f0 : ByteArray} {f1 : Int} (h : W.heap[g]? = some (.cells #[.string f0, .int .i64 f1] 77 (0, 0))) : W.cell? ⟨g, 0, none⟩ = some (.string f0) := (aC_ h 0).trans rfl
theorem bA_ {W : World} {g : Nat} {f0 : ByteArray} {f1 : Int} (h : W.heap[g]? = some (.cells #[.string f0, .int .i64 f1] 77 (0, 0))) : W.cell? ⟨g, 1, none⟩ = some (.int .i64 f1) := (aC_ h 1).trans rfl
theorem aD_.set_1 {w0 W : World} {g : Nat} {f0 : ByteArray} {f1 : Int} (h : aD_ w0 W g f0 f1) (x : Int) : aD_ w0 (W.setCell ⟨g, 1, none⟩ (.int .i64 x)) g f0 x := by
 obtain ⟨hb, hg⟩ := h
 exact ⟨by simpa using c5_ hb 1 (.int .i64 x), hg⟩
def a2_.f (k : Nat) (s0_0 : ByteArray) (s0_1 : Int) (a1 : Int) (a2 : ByteArray) : Option (ByteArray × Bool × ByteArray × Int) := (aW_.f k s0_0 a2 a1).bind fun t137 => (if t137 < 0 then (some ((⟨#[]⟩ : ByteArray), false, s0_0, s0_1)) else (if 0 ≤ a1 then (if a1 ≤ t137 then (if t137 ≤ (s0_0.size : Int) then (some (s0_0.extract (a1 : Int).toNat (t137 : Int).toNat, true, s0_0, wrap64 (t137 + (a2.size : Int)))) else (none)) else (none)) else (none)))
theorem a2_.mono : ∀ a0 a1 a2 a3 k, LeO (a2_.f k a0 a1 a2 a3) (a2_.f (k + 1) a0 a1 a2 a3) := by
 intro a0 a1 a2 a3 k
 unfold a2_.f
 have m0 := @aW_.mono
 exact mo
theorem a2_.start_ {P : Program} {n : Nat} {vs_ : Array Value} {Q : Ending → World → Prop} {wI : World} (h : ∀ w, w = wI → Calls P n vs_ w Q) : Calls P n vs_ wI Q := h wI rfl
theorem a2_.calls (k : Nat) (g : Nat) (s0_0 : ByteArray) (s0_1 : Int) (a1 : Int) (a2 : ByteArray) (r1 : ByteArray) (r2 : Bool) (r3 : ByteArray) (r4 : Int) (w0 wI : World) (hI : aD_ w0 wI g s0_0 s0_1) (hB : Below w0.heap.size w0 wI) (hG : Glob w0) (h : a2_.f k s0_0 s0_1 a1 a2 = some (r1, r2, r3, r4)) :
 Calls Tryz.prog 56 #[.pointer (some ⟨g, 0, none⟩), .int .i64 a1, .string a2] wI fun e w' => e = .returned (.tuple #[.string r1, .bool r2]) ∧ aD_ w0 w' g r3 r4 ∧ Below w0.heap.size w0 w' ∧ aJ_ wI w' g none := by
 refine a2_.start_ (fun w hw_ => ?_)
 rw [← hw_] at hI hB
 have HG := aA_.mk hG
 clear hG
 have HI0 := aA_.mk hI
 have HK : aA_ (aJ_ wI w g none) := aA_.mk (by rw [hw_]; exact aJ_.refl wI g none)
 clear hw_
 have HL := aA_.mk hB.size
 clear hI
 have HW0 := aA_.mk hB.size
 have HB := aA_.mk hB
 clear hB
 have H : ((aW_.f k s0_0 a2 a1).bind fun t137 => (if t137 < 0 then (some ((⟨#[]⟩ : ByteArray), false, s0_0, s0_1)) else (if 0 ≤ a1 then (if a1 ≤ t137 then (if t137 ≤ (s0_0.size : Int) then (some (s0_0.extract (a1 : Int).toNat (t137 : Int).toNat, true, s0_0, wrap64 (t137 + (a2.size : Int)))) else (none)) else (none)) else (none)))) = some (r1, r2, r3, r4) := h
 clear h
 replace H := bi H
 obtain ⟨t137, A40, H⟩ := H
 try dsimp only at H
 have A4 := aA_.mk A40
 clear A40
 by_cases c5 : t137 < 0
 ·rw [if_pos c5] at H
  have c5b0 := dT c5
  clear c5
  simp only [Option.some.injEq, Prod.mk.injEq] at H
  obtain ⟨rfl, rfl, rfl, rfl⟩ := H
  obtain ⟨HGz6, hgz6⟩ := HI0.out
  have hcz6_0 := a9_ HGz6
  have hcz6_1 := bA_ HGz6
  have hfz6_0 := aE_ HGz6 0
  have hfz6_1 := aE_ HGz6 1
  clear HGz6 hgz6
  go_enter Tryz.func56, Tryz.ntmps56
  go_wp2_with (first | (refine gl (some 15) Tryz.func59 #[.string s0_0, .string a2, .int .i64 a1] ?_; (with_reducible refine (aW_.calls k s0_0 a2 a1 t137 _ ?side1 A4.out).mono ?_); (case side1 => exact Glob.step HG.out (r4e4_)); rintro e w' ⟨rfl, ⟨nd, rfl⟩⟩; refine ⟨_, rfl, ?_⟩))
  go_ret2
  exact ⟨eA, r4c2_, r4e4_, r4f5_⟩
 rw [if_neg c5] at H
 have c5b0 := dF c5
 clear c5
 obtain ⟨c7, H⟩ := gp H
 have c7b0 := eq_true c7
 have c7b1 := dT c7
 clear c7
 obtain ⟨c8, H⟩ := gp H
 have c8b0 := eq_true c8
 have c8b1 := dT c8
 clear c8
 obtain ⟨c9, H⟩ := gp H
 have c9b0 := eq_true c9
 have c9b1 := dT c9
 clear c9
 simp only [Option.some.injEq, Prod.mk.injEq] at H
 obtain ⟨rfl, rfl, rfl, rfl⟩ := H
 obtain ⟨HGz10, hgz10⟩ := HI0.out
 have hcz10_0 := a9_ HGz10
 have hcz10_1 := bA_ HGz10
 have hfz10_0 := aE_ HGz10 0
 have hfz10_1 := aE_ HGz10 1
 clear HGz10 hgz10
 go_enter Tryz.func56, Tryz.ntmps56
 go_wp2_with (first | (refine gl (some 15) Tryz.func59 #[.string s0_0, .string a2, .int .i64 a1] ?_; (with_reducible refine (aW_.calls k s0_0 a2 a1 t137 _ ?side1 A4.out).mono ?_); (case side1 => exact Glob.step HG.out (r4e4_)); rintro e w' ⟨rfl, ⟨nd, rfl⟩⟩; refine ⟨_, rfl, ?_⟩; (try ((try simp only [World.drewN_drewN]); (first | generalize hq_ : World.drewN w _ = w | (rw [cD_ w]; generalize hq_ : World.drewN w _ = w)); have n0_ : aA_ (aD_ w0 w g s0_0 s0_1) := ⟨by rw [← hq_]; exact (r4c2_)⟩; have n1_ : aA_ (aJ_ wI w g none) := ⟨by rw [← hq_]; exact (r4f5_)⟩; have n2_ : aA_ (Below w0.heap.size w0 w) := ⟨by rw [← hq_]; exact (r4e4_)⟩; clear HI0 HK HB hq_; have HI0 := n0_; have HK := n1_; have HB := n2_; clear n0_ n1_ n2_; (try (obtain ⟨HGq_, hgq_⟩ := HI0.out; (try have hcq_0 := a9_ HGq_); (try have hcq_1 := bA_ HGq_); (try have hfq_0 := aE_ HGq_ 0); (try have hfq_1 := aE_ HGq_ 1); clear HGq_ hgq_))))))
 go_ret2
 exact ⟨eA, r4c2_, r4e4_, r4f5_⟩
def a4_.f (k : Nat) (s0_0 : ByteArray) (s0_1 : Int) : Option (Int × ByteArray × ByteArray × (List (S53)) × Bool × Bool × ByteArray × Int) := (a2_.f k s0_0 s0_1 (wrap64 (s0_1 + 4)) (⟨#[45, 45, 62]⟩ : ByteArray)).bind fun bt139 => (if bt139.2.1 = true then ((aW_.f k bt139.1 (⟨#[45, 45]⟩ : ByteArray) 0).bind fun t143 => (if t143 < 0 then (if (bt139.1.size : Int) = 0 then (some (4, (⟨#[]⟩ : ByteArray), bt139.1, ([] : List (S53)), false, true, bt139.2.2.1, bt139.2.2.2)) else (if 0 ≤ (wrap64 ((bt139.1.size : Int) - 1)) then (if (wrap64 ((bt139.1.size : Int) - 1)) < (bt139.1.size : Int) then (some (4, (⟨#[]⟩ : ByteArray), bt139.1, ([] : List (S53)), false, ((bt bt139.1 (wrap64 ((bt139.1.size : Int) - 1))) != 45), bt139.2.2.1, bt139.2.2.2)) else (none)) else (none))) else (some (4, (⟨#[]⟩ : ByteArray), bt139.1, ([] : List (S53)), false, false, bt139.2.2.1, bt139.2.2.2)))) else (some (4, (⟨#[]⟩ : ByteArray), bt139.1, ([] : List (S53)), false, false, bt139.2.2.1, bt139.2.2.2)))
theorem a4_.mono : ∀ a0 a1 k, LeO (a4_.f k a0 a1) (a4_.f (k + 1) a0 a1) := by
 intro a0 a1 k
 unfold a4_.f
 have m0 := @aW_.mono
 have m1 := @a2_.mono
 exact mo
def a4_.T2 : Bool × List (List Nat × List Nat) := (true, [([], []), ([0], [0]), ([], []), ([2], [2]), ([3], [3]), ([4, 3, 3], [3, 4]), ([5, 3], [3, 5]), ([3, 6], [3, 6]), ([7, 5], [7]), ([8], [8]), ([9, 8], [8, 9]), ([10, 8], [8, 10]), ([11, 8, 8], [8, 11]), ([12], [12]), ([12], [12]), ([14, 12], [12, 14]), ([15, 12], [12, 15]), ([13, 16, 12], [12, 13, 16]), ([17, 12], [12, 17]), ([12, 18, 8], [8, 12, 18]), ([8, 19], [8, 19]), ([1, 12, 0, 1], [1]), ([20, 21, 0, 1, 2, 3, 4, 5, 6, 7, 8, 9, 10, 11, 12, 13, 14, 15, 16, 17, 18, 19, 20, 21], [20])])
def a4_.B2 : List Nat := [0, 1, 0, 4, 12, 28, 60, 124, 252, 508, 1020, 2044, 4092, 8188, 8188, 24572, 57340, 131068, 262140, 524284, 1048572, 8191, 4194303]
theorem a4_.tab2 : rtab .any (opsOf Tryz.f55 2) = a4_.T2 := by kernel_rfl
theorem a4_.bits2 : waitsOk a4_.T2.2 a4_.B2 = true := by kernel_rfl
theorem a4_.calls (k : Nat) (g : Nat) (s0_0 : ByteArray) (s0_1 : Int) (r1 : Int) (r2 : ByteArray) (r3 : ByteArray) (r4 : List (S53)) (r5 : Bool) (r6 : Bool) (r7 : ByteArray) (r8 : Int) (w0 w : World) (hI : aD_ w0 w g s0_0 s0_1) (hB : Below w0.heap.size w0 w) (hG : Glob w0) (h : a4_.f k s0_0 s0_1 = some (r1, r2, r3, r4, r5, r6, r7, r8)) :
 Calls Tryz.prog 55 #[.pointer (some ⟨g, 0, none⟩)] w fun e w' => ∃ v3_ : Value, e = .returned (.tuple #[.agg #[.int .i64 r1, .string r2, .string r3, v3_, .bool r5], .bool r6]) ∧ Kd.R k53 53 w' w.heap.size (fun _ => True) v3_ r4 ∧ aD_ w0 w' g r7 r8 ∧ Below w0.heap.size w0 w' ∧ aJ_ w w' g none := by
 have hu45 := Tryz.underlying45
 have HG := aA_.mk hG
 clear hG
 have HI0 := aA_.mk hI
 have HK := aA_.mk (aJ_.refl w g none)
 have HL := aA_.mk hB.size
 clear hI
 have HW0 := aA_.mk hB.size
 have HB := aA_.mk hB
 clear hB
 have H : ((a2_.f k s0_0 s0_1 (wrap64 (s0_1 + 4)) (⟨#[45, 45, 62]⟩ : ByteArray)).bind fun bt139 => (if bt139.2.1 = true then ((aW_.f k bt139.1 (⟨#[45, 45]⟩ : ByteArray) 0).bind fun t143 => (if t143 < 0 then (if (bt139.1.size : Int) = 0 then (some (4, (⟨#[]⟩ : ByteArray), bt139.1, ([] : List (S53)), false, true, bt139.2.2.1, bt139.2.2.2)) else (if 0 ≤ (wrap64 ((bt139.1.size : Int) - 1)) then (if (wrap64 ((bt139.1.size : Int) - 1)) < (bt139.1.size : Int) then (some (4, (⟨#[]⟩ : ByteArray), bt139.1, ([] : List (S53)), false, ((bt bt139.1 (wrap64 ((bt139.1.size : Int) - 1))) != 45), bt139.2.2.1, bt139.2.2.2)) else (none)) else (none))) else (some (4, (⟨#[]⟩ : ByteArray), bt139.1, ([] : List (S53)), false, false, bt139.2.2.1, bt139.2.2.2)))) else (some (4, (⟨#[]⟩ : ByteArray), bt139.1, ([] : List (S53)), false, false, bt139.2.2.1, bt139.2.2.2)))) = some (r1, r2, r3, r4, r5, r6, r7, r8) := h
 clear h
 replace H := bi H
 obtain ⟨⟨t139, t140, t141, t142⟩, A20, H⟩ := H
 try dsimp only at H
 have A2 := aA_.mk A20
 clear A20
 by_cases c3 : t140 = true
 rotate_left
 ·replace c3 := Bool.eq_false_iff.mpr c3
  subst c3
  replace H : (some (4, (⟨#[]⟩ : ByteArray), t139, ([] : List (S53)), false, false, t141, t142)) = some (r1, r2, r3, r4, r5, r6, r7, r8) := by rw [if_neg nF] at H; exact H
  simp only [Option.some.injEq, Prod.mk.injEq] at H
  obtain ⟨rfl, rfl, rfl, rfl, rfl, rfl, rfl, rfl⟩ := H
  go_enter Tryz.func55, Tryz.ntmps55
  try go_wp2_with (first | ((with_reducible refine cV_ (N := 2) rfl ?_); (try (refine dN_ (by rfl) ?_; dsimp only)); refine be 2 #[.int .i64 0, .string (⟨#[]⟩ : ByteArray), .string (⟨#[]⟩ : ByteArray), .slice none 0 0, .bool false] 45 ?_; intro gb138 hg w38 hbox hb; replace HB := aA_.mk (bG_ (r4e4_) hb); have BK138 := aA_.mk (hbox); have GW138 := aA_.mk ((by rw [hg]; exact (bF_ (w := w) (g := g) (row := none) (r4f5_)) : w.heap.size ≤ gb138)); have GE138 := aA_.mk ((Nat.le_trans HW0.out (by rw [hg]; exact (bF_ (w := w) (g := g) (row := none) (r4f5_)) : w.heap.size ≤ gb138) : w0.heap.size ≤ gb138)); replace HK := aA_.mk (aJ_.trans (r4f5_) (aJ_.of_below hb g none) (.inl rfl)); have NB0_138 := aA_.mk ((by rw [hg]; exact Nat.ne_of_lt (aD_.lt (show aD_ w0 _ g s0_0 s0_1 from r4c2_)) : g ≠ gb138)); have NB138_0 := aA_.mk ((by rw [hg]; exact Nat.ne_of_gt (aD_.lt (show aD_ w0 _ g s0_0 s0_1 from r4c2_)) : gb138 ≠ g)); replace HI0 := aA_.mk (aD_.below (r4c2_) hb); clear hb hbox hg; obtain ⟨HGz39, hgz39⟩ := HI0.out; have hcz39_0 := a9_ HGz39; have hcz39_1 := bA_ HGz39; have hfz39_0 := aE_ HGz39 0; have hfz39_1 := aE_ HGz39 1; clear HGz39 hgz39) | (refine gl (some 13) Tryz.func56 #[.pointer (some ⟨g, 0, none⟩), .int .i64 (wrap64 (s0_1 + 4)), .string (⟨#[45, 45, 62]⟩ : ByteArray)] ?_; (with_reducible refine (a2_.calls k g s0_0 s0_1 (wrap64 (s0_1 + 4)) (⟨#[45, 45, 62]⟩ : ByteArray) t139 false t141 t142 w0 _ ?side1 ?side2 ?side3 A2.out).mono ?_); (case side1 => exact r4a0_); (case side2 => exact r4b1_); (case side3 => exact HG.out); rintro e w40 ⟨rfl, hi, hb, hk⟩; refine ⟨_, rfl, ?_⟩; replace BK138 := aA_.mk (aJ_.blk hk (g' := gb138) (o := .cells #[.int .i64 0, .string (⟨#[]⟩ : ByteArray), .string (⟨#[]⟩ : ByteArray), .slice none 0 0, .bool false] 45 (0, 0)) (bK BK138) NB138_0.out (by simp)); replace HK := aA_.mk (aJ_.trans (r4d3_) hk (.inl rfl)); replace HB := aA_.mk (hb); replace HI0 := aA_.mk (hi); (try clear hb); (try clear hk); (try clear hi)))
  replace BK138 := aA_.mk (a0_ BK138.out)
  replace HI0 := aA_.mk (aD_.drew HI0.out)
  replace HK := aA_.mk (aM_ HK.out)
  replace HB := aA_.mk (aI_ HB.out)
  refine start_ (n := 23) (S := fun w' => True) (ds := []) #[false, false, false, false, false, false, false, false, false, false, false, false, false, false, false, false, false, false, false, false, false, false, false] (by kernel_rfl) rfl rfl trivial (fun hHeld => ?_); refine cZ_ a4_.tab2 a4_.bits2 (fun HT_ HW_ => ?_)
  generalize w40.drew = w41 at BK138 HI0 HK HB hHeld ⊢
  refine pz 0 (some 16) HT_ ?_
  refine pz 1 (some 17) HT_ ?_
  refine pz 2 (some 18) HT_ ?_
  refine pz 3 (some 19) HT_ ?_
  refine pu 4 (some 20) HT_ ?_
  refine pu 5 (some 21) HT_ ?_
  refine pu 6 (some 22) HT_ ?_
  refine pz 7 (some 23) HT_ ?_
  refine pz 8 (some 24) HT_ ?_
  refine pu 9 (some 25) HT_ ?_
  refine pu 10 (some 26) HT_ ?_
  refine pu 11 (some 27) HT_ ?_
  refine pu 12 (some 28) HT_ ?_
  refine pu 13 (some 29) HT_ ?_
  refine pu 14 (some 30) HT_ ?_
  refine pu 15 (some 31) HT_ ?_
  refine pu 16 (some 32) HT_ ?_
  refine pu 17 (some 33) HT_ ?_
  refine pu 18 (some 34) HT_ ?_
  refine pu 19 (some 35) HT_ ?_
  refine pz 20 (some 36) HT_ ?_
  refine on 21 (none) HT_ (fun K hK => ?_)
  have hs42 : w41.cell? ⟨gb138, 0, none⟩ = some (.int .i64 0) := (aC_ BK138.out 0).trans rfl
  have hfs42 := aE_ BK138.out 0
  have hs43 : w41.cell? ⟨gb138, 1, none⟩ = some (.string (⟨#[]⟩ : ByteArray)) := (aC_ BK138.out 1).trans rfl
  have hfs43 := aE_ BK138.out 1
  have hs44 : w41.cell? ⟨gb138, 2, none⟩ = some (.string (⟨#[]⟩ : ByteArray)) := (aC_ BK138.out 2).trans rfl
  have hfs44 := aE_ BK138.out 2
  have hs45 : w41.cell? ⟨gb138, 3, none⟩ = some (.slice none 0 0) := (aC_ BK138.out 3).trans rfl
  have hfs45 := aE_ BK138.out 3
  have hs46 : w41.cell? ⟨gb138, 4, none⟩ = some (.bool false) := (aC_ BK138.out 4).trans rfl
  have hfs46 := aE_ BK138.out 4
  refine skip_ (w1 := ?_) (by rfl) rfl ?_ ?_
  rotate_left
  ·go_simp
   rfl
  refine hK.out _ _ trivial (fun hHeld => ?_)
  clear hK K
  refine pz 22 (some 3) HT_ ?_
  refine done_ (dO_ HT_.out (by kernel_rfl)) ?_
  try go_wp2
  refine bodyPost_ret (b8_ rfl _ _ gb138 45 #[.int .i64 4, .string (⟨#[]⟩ : ByteArray), .string t139, .slice none 0 0, .bool false] (0, 0) _ rfl (bP BK138) Tryz.underlying45 rfl (by kernel_rfl)) rfl ?_
  exact ⟨_, by first | rfl | (simp [bL_, bK_] <;> rfl) | (simp [*, bL_, bK_] <;> rfl), by first | exact Kd.R_nil _ _ _ _ _ | exact Kd.N_nil _ _ _ _ _ | exact Kd.V_nil _ _ _ _ _ | exact Kd.Q_nil _ _ _ _ _ | exact Kd.S_nil _ _ _ _ _, r4a0_, r4b1_, r4d3_⟩
 subst c3
 replace H : ((aW_.f k t139 (⟨#[45, 45]⟩ : ByteArray) 0).bind fun t143 => (if t143 < 0 then (if (t139.size : Int) = 0 then (some (4, (⟨#[]⟩ : ByteArray), t139, ([] : List (S53)), false, true, t141, t142)) else (if 0 ≤ (wrap64 ((t139.size : Int) - 1)) then (if (wrap64 ((t139.size : Int) - 1)) < (t139.size : Int) then (some (4, (⟨#[]⟩ : ByteArray), t139, ([] : List (S53)), false, ((bt t139 (wrap64 ((t139.size : Int) - 1))) != 45), t141, t142)) else (none)) else (none))) else (some (4, (⟨#[]⟩ : ByteArray), t139, ([] : List (S53)), false, false, t141, t142)))) = some (r1, r2, r3, r4, r5, r6, r7, r8) := by rw [if_pos rfl] at H; exact H
 replace H := bi H
 obtain ⟨t143, A40, H⟩ := H
 try dsimp only at H
 have A4 := aA_.mk A40
 clear A40
 by_cases c5 : t143 < 0
 rotate_left
 ·rw [if_neg c5] at H
  have c5b0 := dF c5
  clear c5
  simp only [Option.some.injEq, Prod.mk.injEq] at H
  obtain ⟨rfl, rfl, rfl, rfl, rfl, rfl, rfl, rfl⟩ := H
  go_enter Tryz.func55, Tryz.ntmps55
  try go_wp2_with (first | ((with_reducible refine cV_ (N := 2) rfl ?_); (try (refine dN_ (by rfl) ?_; dsimp only)); refine be 2 #[.int .i64 0, .string (⟨#[]⟩ : ByteArray), .string (⟨#[]⟩ : ByteArray), .slice none 0 0, .bool false] 45 ?_; intro gb138 hg w29 hbox hb; replace HB := aA_.mk (bG_ (r4e4_) hb); have BK138 := aA_.mk (hbox); have GW138 := aA_.mk ((by rw [hg]; exact (bF_ (w := w) (g := g) (row := none) (r4f5_)) : w.heap.size ≤ gb138)); have GE138 := aA_.mk ((Nat.le_trans HW0.out (by rw [hg]; exact (bF_ (w := w) (g := g) (row := none) (r4f5_)) : w.heap.size ≤ gb138) : w0.heap.size ≤ gb138)); replace HK := aA_.mk (aJ_.trans (r4f5_) (aJ_.of_below hb g none) (.inl rfl)); have NB0_138 := aA_.mk ((by rw [hg]; exact Nat.ne_of_lt (aD_.lt (show aD_ w0 _ g s0_0 s0_1 from r4c2_)) : g ≠ gb138)); have NB138_0 := aA_.mk ((by rw [hg]; exact Nat.ne_of_gt (aD_.lt (show aD_ w0 _ g s0_0 s0_1 from r4c2_)) : gb138 ≠ g)); replace HI0 := aA_.mk (aD_.below (r4c2_) hb); clear hb hbox hg; obtain ⟨HGz30, hgz30⟩ := HI0.out; have hcz30_0 := a9_ HGz30; have hcz30_1 := bA_ HGz30; have hfz30_0 := aE_ HGz30 0; have hfz30_1 := aE_ HGz30 1; clear HGz30 hgz30) | (refine gl (some 13) Tryz.func56 #[.pointer (some ⟨g, 0, none⟩), .int .i64 (wrap64 (s0_1 + 4)), .string (⟨#[45, 45, 62]⟩ : ByteArray)] ?_; (with_reducible refine (a2_.calls k g s0_0 s0_1 (wrap64 (s0_1 + 4)) (⟨#[45, 45, 62]⟩ : ByteArray) t139 true t141 t142 w0 _ ?side1 ?side2 ?side3 A2.out).mono ?_); (case side1 => exact r4a0_); (case side2 => exact r4b1_); (case side3 => exact HG.out); rintro e w31 ⟨rfl, hi, hb, hk⟩; refine ⟨_, rfl, ?_⟩; replace BK138 := aA_.mk (aJ_.blk hk (g' := gb138) (o := .cells #[.int .i64 0, .string (⟨#[]⟩ : ByteArray), .string (⟨#[]⟩ : ByteArray), .slice none 0 0, .bool false] 45 (0, 0)) (bK BK138) NB138_0.out (by simp)); replace HK := aA_.mk (aJ_.trans (r4d3_) hk (.inl rfl)); replace HB := aA_.mk (hb); replace HI0 := aA_.mk (hi); (try clear hb); (try clear hk); (try clear hi)))
  replace BK138 := aA_.mk (a0_ BK138.out)
  replace HI0 := aA_.mk (aD_.drew HI0.out)
  replace HK := aA_.mk (aM_ HK.out)
  replace HB := aA_.mk (aI_ HB.out)
  refine start_ (n := 23) (S := fun w' => True) (ds := []) #[false, false, false, false, false, false, false, false, false, false, false, false, false, false, false, false, false, false, false, false, false, false, false] (by kernel_rfl) rfl rfl trivial (fun hHeld => ?_); refine cZ_ a4_.tab2 a4_.bits2 (fun HT_ HW_ => ?_)
  generalize w31.drew = w32 at BK138 HI0 HK HB hHeld ⊢
  refine pz 0 (some 16) HT_ ?_
  refine pz 1 (some 17) HT_ ?_
  refine pz 2 (some 18) HT_ ?_
  refine pz 3 (some 19) HT_ ?_
  refine pz 4 (some 20) HT_ ?_
  refine on 5 (some 21) HT_ (fun K hK => ?_)
  refine goes_ Tryz.func59 (by kernel_rfl) rfl #[.string t139, .string (⟨#[45, 45]⟩ : ByteArray), .int .i64 0] (by rfl) rfl rfl mA ?_
  with_reducible refine (aW_.calls k t139 (⟨#[45, 45]⟩ : ByteArray) 0 t143 _ ?side1 A4.out).mono ?_
  (case side1 => exact Glob.step HG.out (r4b1_))
  rintro e w' ⟨rfl, ⟨nd, rfl⟩⟩
  refine ⟨_, rfl, ?_⟩
  refine hK.out _ _ trivial (fun hHeld => ?_)
  clear hK K
  refine nz (some 21) ?_
  refine pz 6 (some 22) HT_ ?_
  refine pz 7 (some 23) HT_ ?_
  refine pz 8 (some 24) HT_ ?_
  refine pu 9 (some 25) HT_ ?_
  refine pu 10 (some 26) HT_ ?_
  refine pu 11 (some 27) HT_ ?_
  refine pu 12 (some 28) HT_ ?_
  refine pu 13 (some 29) HT_ ?_
  refine pu 14 (some 30) HT_ ?_
  refine pu 15 (some 31) HT_ ?_
  refine pu 16 (some 32) HT_ ?_
  refine pu 17 (some 33) HT_ ?_
  refine pu 18 (some 34) HT_ ?_
  refine pu 19 (some 35) HT_ ?_
  refine pz 20 (some 36) HT_ ?_
  refine on 21 (none) HT_ (fun K hK => ?_)
  have hs33 : w32.cell? ⟨gb138, 0, none⟩ = some (.int .i64 0) := (aC_ BK138.out 0).trans rfl
  have hfs33 := aE_ BK138.out 0
  have hs34 : w32.cell? ⟨gb138, 1, none⟩ = some (.string (⟨#[]⟩ : ByteArray)) := (aC_ BK138.out 1).trans rfl
  have hfs34 := aE_ BK138.out 1
  have hs35 : w32.cell? ⟨gb138, 2, none⟩ = some (.string (⟨#[]⟩ : ByteArray)) := (aC_ BK138.out 2).trans rfl
  have hfs35 := aE_ BK138.out 2
  have hs36 : w32.cell? ⟨gb138, 3, none⟩ = some (.slice none 0 0) := (aC_ BK138.out 3).trans rfl
  have hfs36 := aE_ BK138.out 3
  have hs37 : w32.cell? ⟨gb138, 4, none⟩ = some (.bool false) := (aC_ BK138.out 4).trans rfl
  have hfs37 := aE_ BK138.out 4
  refine skip_ (w1 := ?_) (by rfl) rfl ?_ ?_
  rotate_left
  ·go_simp
   rfl
  refine hK.out _ _ trivial (fun hHeld => ?_)
  clear hK K
  refine pz 22 (some 3) HT_ ?_
  refine done_ (dO_ HT_.out (by kernel_rfl)) ?_
  try go_wp2
  refine bodyPost_ret (b8_ rfl _ _ gb138 45 #[.int .i64 4, .string (⟨#[]⟩ : ByteArray), .string t139, .slice none 0 0, .bool false] (0, 0) _ rfl (bP BK138) Tryz.underlying45 rfl (by kernel_rfl)) rfl ?_
  exact ⟨_, by first | rfl | (simp [bL_, bK_] <;> rfl) | (simp [*, bL_, bK_] <;> rfl), by first | exact Kd.R_nil _ _ _ _ _ | exact Kd.N_nil _ _ _ _ _ | exact Kd.V_nil _ _ _ _ _ | exact Kd.Q_nil _ _ _ _ _ | exact Kd.S_nil _ _ _ _ _, r4a0_, r4b1_, r4d3_⟩
 rw [if_pos c5] at H
 have c5b0 := dT c5
 clear c5
 by_cases c6 : (t139.size : Int) = 0
 ·rw [if_pos c6] at H
  obtain ⟨c6b0, c6b1⟩ := eqT c6
  clear c6
  simp only [Option.some.injEq, Prod.mk.injEq] at H
  obtain ⟨rfl, rfl, rfl, rfl, rfl, rfl, rfl, rfl⟩ := H
  go_enter Tryz.func55, Tryz.ntmps55
  try go_wp2_with (first | ((with_reducible refine cV_ (N := 2) rfl ?_); (try (refine dN_ (by rfl) ?_; dsimp only)); refine be 2 #[.int .i64 0, .string (⟨#[]⟩ : ByteArray), .string (⟨#[]⟩ : ByteArray), .slice none 0 0, .bool false] 45 ?_; intro gb138 hg w7 hbox hb; replace HB := aA_.mk (bG_ (r4e4_) hb); have BK138 := aA_.mk (hbox); have GW138 := aA_.mk ((by rw [hg]; exact (bF_ (w := w) (g := g) (row := none) (r4f5_)) : w.heap.size ≤ gb138)); have GE138 := aA_.mk ((Nat.le_trans HW0.out (by rw [hg]; exact (bF_ (w := w) (g := g) (row := none) (r4f5_)) : w.heap.size ≤ gb138) : w0.heap.size ≤ gb138)); replace HK := aA_.mk (aJ_.trans (r4f5_) (aJ_.of_below hb g none) (.inl rfl)); have NB0_138 := aA_.mk ((by rw [hg]; exact Nat.ne_of_lt (aD_.lt (show aD_ w0 _ g s0_0 s0_1 from r4c2_)) : g ≠ gb138)); have NB138_0 := aA_.mk ((by rw [hg]; exact Nat.ne_of_gt (aD_.lt (show aD_ w0 _ g s0_0 s0_1 from r4c2_)) : gb138 ≠ g)); replace HI0 := aA_.mk (aD_.below (r4c2_) hb); clear hb hbox hg; obtain ⟨HGz8, hgz8⟩ := HI0.out; have hcz8_0 := a9_ HGz8; have hcz8_1 := bA_ HGz8; have hfz8_0 := aE_ HGz8 0; have hfz8_1 := aE_ HGz8 1; clear HGz8 hgz8) | (refine gl (some 13) Tryz.func56 #[.pointer (some ⟨g, 0, none⟩), .int .i64 (wrap64 (s0_1 + 4)), .string (⟨#[45, 45, 62]⟩ : ByteArray)] ?_; (with_reducible refine (a2_.calls k g s0_0 s0_1 (wrap64 (s0_1 + 4)) (⟨#[45, 45, 62]⟩ : ByteArray) t139 true t141 t142 w0 _ ?side1 ?side2 ?side3 A2.out).mono ?_); (case side1 => exact r4a0_); (case side2 => exact r4b1_); (case side3 => exact HG.out); rintro e w9 ⟨rfl, hi, hb, hk⟩; refine ⟨_, rfl, ?_⟩; replace BK138 := aA_.mk (aJ_.blk hk (g' := gb138) (o := .cells #[.int .i64 0, .string (⟨#[]⟩ : ByteArray), .string (⟨#[]⟩ : ByteArray), .slice none 0 0, .bool false] 45 (0, 0)) (bK BK138) NB138_0.out (by simp)); replace HK := aA_.mk (aJ_.trans (r4d3_) hk (.inl rfl)); replace HB := aA_.mk (hb); replace HI0 := aA_.mk (hi); (try clear hb); (try clear hk); (try clear hi)))
  replace BK138 := aA_.mk (a0_ BK138.out)
  replace HI0 := aA_.mk (aD_.drew HI0.out)
  replace HK := aA_.mk (aM_ HK.out)
  replace HB := aA_.mk (aI_ HB.out)
  refine start_ (n := 23) (S := fun w' => True) (ds := []) #[false, false, false, false, false, false, false, false, false, false, false, false, false, false, false, false, false, false, false, false, false, false, false] (by kernel_rfl) rfl rfl trivial (fun hHeld => ?_); refine cZ_ a4_.tab2 a4_.bits2 (fun HT_ HW_ => ?_)
  generalize w9.drew = w10 at BK138 HI0 HK HB hHeld ⊢
  refine pz 0 (some 16) HT_ ?_
  refine pz 1 (some 17) HT_ ?_
  refine pz 2 (some 18) HT_ ?_
  refine pz 3 (some 19) HT_ ?_
  refine pz 4 (some 20) HT_ ?_
  refine on 5 (some 21) HT_ (fun K hK => ?_)
  refine goes_ Tryz.func59 (by kernel_rfl) rfl #[.string t139, .string (⟨#[45, 45]⟩ : ByteArray), .int .i64 0] (by rfl) rfl rfl mA ?_
  with_reducible refine (aW_.calls k t139 (⟨#[45, 45]⟩ : ByteArray) 0 t143 _ ?side1 A4.out).mono ?_
  (case side1 => exact Glob.step HG.out (r4b1_))
  rintro e w' ⟨rfl, ⟨nd, rfl⟩⟩
  refine ⟨_, rfl, ?_⟩
  refine hK.out _ _ trivial (fun hHeld => ?_)
  clear hK K
  refine nz (some 21) ?_
  refine pz 6 (some 22) HT_ ?_
  refine pz 7 (some 23) HT_ ?_
  refine pz 8 (some 24) HT_ ?_
  refine pz 9 (some 25) HT_ ?_
  refine pz 10 (some 26) HT_ ?_
  refine pz 11 (some 27) HT_ ?_
  refine pz 12 (some 28) HT_ ?_
  refine pu 13 (some 29) HT_ ?_
  refine pu 14 (some 30) HT_ ?_
  refine pu 15 (some 31) HT_ ?_
  refine pu 16 (some 32) HT_ ?_
  refine pu 17 (some 33) HT_ ?_
  refine pu 18 (some 34) HT_ ?_
  refine pz 19 (some 35) HT_ ?_
  refine pz 20 (some 36) HT_ ?_
  refine on 21 (none) HT_ (fun K hK => ?_)
  have hs11 : w10.cell? ⟨gb138, 0, none⟩ = some (.int .i64 0) := (aC_ BK138.out 0).trans rfl
  have hfs11 := aE_ BK138.out 0
  have hs12 : w10.cell? ⟨gb138, 1, none⟩ = some (.string (⟨#[]⟩ : ByteArray)) := (aC_ BK138.out 1).trans rfl
  have hfs12 := aE_ BK138.out 1
  have hs13 : w10.cell? ⟨gb138, 2, none⟩ = some (.string (⟨#[]⟩ : ByteArray)) := (aC_ BK138.out 2).trans rfl
  have hfs13 := aE_ BK138.out 2
  have hs14 : w10.cell? ⟨gb138, 3, none⟩ = some (.slice none 0 0) := (aC_ BK138.out 3).trans rfl
  have hfs14 := aE_ BK138.out 3
  have hs15 : w10.cell? ⟨gb138, 4, none⟩ = some (.bool false) := (aC_ BK138.out 4).trans rfl
  have hfs15 := aE_ BK138.out 4
  refine skip_ (w1 := ?_) (by rfl) rfl ?_ ?_
  rotate_left
  ·go_simp
   rfl
  refine hK.out _ _ trivial (fun hHeld => ?_)
  clear hK K
  refine pz 22 (some 3) HT_ ?_
  refine done_ (dO_ HT_.out (by kernel_rfl)) ?_
  try go_wp2
  refine bodyPost_ret (b8_ rfl _ _ gb138 45 #[.int .i64 4, .string (⟨#[]⟩ : ByteArray), .string t139, .slice none 0 0, .bool false] (0, 0) _ rfl (bP BK138) Tryz.underlying45 rfl (by kernel_rfl)) rfl ?_
  exact ⟨_, by first | rfl | (simp [bL_, bK_] <;> rfl) | (simp [*, bL_, bK_] <;> rfl), by first | exact Kd.R_nil _ _ _ _ _ | exact Kd.N_nil _ _ _ _ _ | exact Kd.V_nil _ _ _ _ _ | exact Kd.Q_nil _ _ _ _ _ | exact Kd.S_nil _ _ _ _ _, r4a0_, r4b1_, r4d3_⟩
 rw [if_neg c6] at H
 obtain ⟨c6b0, c6b1⟩ := eqF c6
 obtain ⟨ji16, hji16⟩ : ∃ j_ : Int, (wrap64 ((t139.size : Int) - 1)) = j_ := ⟨_, rfl⟩
 rw [hji16] at H
 (try rw [hji16] at A2)
 (try rw [hji16] at A4)
 have hji16w : (IntKind.i64.wrap ((t139.size : Int) - 1)) = ji16 := (c6_ _).trans hji16
 obtain ⟨c17, H⟩ := gp H
 have c17b0 := dT c17
 clear c17
 obtain ⟨c18, H⟩ := gp H
 have c18b0 := dT c18
 clear c18
 simp only [Option.some.injEq, Prod.mk.injEq] at H
 obtain ⟨rfl, rfl, rfl, rfl, rfl, rfl, rfl, rfl⟩ := H
 go_enter Tryz.func55, Tryz.ntmps55
 try go_wp2_with (first | ((with_reducible refine cV_ (N := 2) rfl ?_); (try (refine dN_ (by rfl) ?_; dsimp only)); refine be 2 #[.int .i64 0, .string (⟨#[]⟩ : ByteArray), .string (⟨#[]⟩ : ByteArray), .slice none 0 0, .bool false] 45 ?_; intro gb138 hg w20 hbox hb; replace HB := aA_.mk (bG_ (r4e4_) hb); have BK138 := aA_.mk (hbox); have GW138 := aA_.mk ((by rw [hg]; exact (bF_ (w := w) (g := g) (row := none) (r4f5_)) : w.heap.size ≤ gb138)); have GE138 := aA_.mk ((Nat.le_trans HW0.out (by rw [hg]; exact (bF_ (w := w) (g := g) (row := none) (r4f5_)) : w.heap.size ≤ gb138) : w0.heap.size ≤ gb138)); replace HK := aA_.mk (aJ_.trans (r4f5_) (aJ_.of_below hb g none) (.inl rfl)); have NB0_138 := aA_.mk ((by rw [hg]; exact Nat.ne_of_lt (aD_.lt (show aD_ w0 _ g s0_0 s0_1 from r4c2_)) : g ≠ gb138)); have NB138_0 := aA_.mk ((by rw [hg]; exact Nat.ne_of_gt (aD_.lt (show aD_ w0 _ g s0_0 s0_1 from r4c2_)) : gb138 ≠ g)); replace HI0 := aA_.mk (aD_.below (r4c2_) hb); clear hb hbox hg; obtain ⟨HGz21, hgz21⟩ := HI0.out; have hcz21_0 := a9_ HGz21; have hcz21_1 := bA_ HGz21; have hfz21_0 := aE_ HGz21 0; have hfz21_1 := aE_ HGz21 1; clear HGz21 hgz21) | (refine gl (some 13) Tryz.func56 #[.pointer (some ⟨g, 0, none⟩), .int .i64 (wrap64 (s0_1 + 4)), .string (⟨#[45, 45, 62]⟩ : ByteArray)] ?_; (with_reducible refine (a2_.calls k g s0_0 s0_1 (wrap64 (s0_1 + 4)) (⟨#[45, 45, 62]⟩ : ByteArray) t139 true t141 t142 w0 _ ?side1 ?side2 ?side3 A2.out).mono ?_); (case side1 => exact r4a0_); (case side2 => exact r4b1_); (case side3 => exact HG.out); rintro e w22 ⟨rfl, hi, hb, hk⟩; refine ⟨_, rfl, ?_⟩; replace BK138 := aA_.mk (aJ_.blk hk (g' := gb138) (o := .cells #[.int .i64 0, .string (⟨#[]⟩ : ByteArray), .string (⟨#[]⟩ : ByteArray), .slice none 0 0, .bool false] 45 (0, 0)) (bK BK138) NB138_0.out (by simp)); replace HK := aA_.mk (aJ_.trans (r4d3_) hk (.inl rfl)); replace HB := aA_.mk (hb); replace HI0 := aA_.mk (hi); (try clear hb); (try clear hk); (try clear hi)))
 replace BK138 := aA_.mk (a0_ BK138.out)
 replace HI0 := aA_.mk (aD_.drew HI0.out)
 replace HK := aA_.mk (aM_ HK.out)
 replace HB := aA_.mk (aI_ HB.out)
 refine start_ (n := 23) (S := fun w' => True) (ds := []) #[false, false, false, false, false, false, false, false, false, false, false, false, false, false, false, false, false, false, false, false, false, false, false] (by kernel_rfl) rfl rfl trivial (fun hHeld => ?_); refine cZ_ a4_.tab2 a4_.bits2 (fun HT_ HW_ => ?_)
 generalize w22.drew = w23 at BK138 HI0 HK HB hHeld ⊢
 refine pz 0 (some 16) HT_ ?_
 refine pz 1 (some 17) HT_ ?_
 refine pz 2 (some 18) HT_ ?_
 refine pz 3 (some 19) HT_ ?_
 refine pz 4 (some 20) HT_ ?_
 refine on 5 (some 21) HT_ (fun K hK => ?_)
 refine goes_ Tryz.func59 (by kernel_rfl) rfl #[.string t139, .string (⟨#[45, 45]⟩ : ByteArray), .int .i64 0] (by rfl) rfl rfl mA ?_
 with_reducible refine (aW_.calls k t139 (⟨#[45, 45]⟩ : ByteArray) 0 t143 _ ?side1 A4.out).mono ?_
 (case side1 => exact Glob.step HG.out (r4b1_))
 rintro e w' ⟨rfl, ⟨nd, rfl⟩⟩
 refine ⟨_, rfl, ?_⟩
 have p19 : 0 ≤ ((ji16) : Int) := dA
 have q19 : (ji16) < (t139.size : Int) := dA
 have hx19 := dP_ t139 (ji16)
 replace p19 := eq_true p19
 replace q19 := eq_true q19
 refine hK.out _ _ trivial (fun hHeld => ?_)
 clear hK K
 refine nz (some 21) ?_
 refine pz 6 (some 22) HT_ ?_
 refine pz 7 (some 23) HT_ ?_
 refine pz 8 (some 24) HT_ ?_
 refine pz 9 (some 25) HT_ ?_
 refine pz 10 (some 26) HT_ ?_
 refine pz 11 (some 27) HT_ ?_
 refine pz 12 (some 28) HT_ ?_
 refine pz 13 (some 29) HT_ ?_
 refine pz 14 (some 30) HT_ ?_
 refine pz 15 (some 31) HT_ ?_
 refine pz 16 (some 32) HT_ ?_
 refine tk 17 (some 33) HT_ HW_ hHeld ?_
 refine pz 18 (some 34) HT_ ?_
 refine pz 19 (some 35) HT_ ?_
 refine pz 20 (some 36) HT_ ?_
 refine on 21 (none) HT_ (fun K hK => ?_)
 have hs24 : w23.cell? ⟨gb138, 0, none⟩ = some (.int .i64 0) := (aC_ BK138.out 0).trans rfl
 have hfs24 := aE_ BK138.out 0
 have hs25 : w23.cell? ⟨gb138, 1, none⟩ = some (.string (⟨#[]⟩ : ByteArray)) := (aC_ BK138.out 1).trans rfl
 have hfs25 := aE_ BK138.out 1
 have hs26 : w23.cell? ⟨gb138, 2, none⟩ = some (.string (⟨#[]⟩ : ByteArray)) := (aC_ BK138.out 2).trans rfl
 have hfs26 := aE_ BK138.out 2
 have hs27 : w23.cell? ⟨gb138, 3, none⟩ = some (.slice none 0 0) := (aC_ BK138.out 3).trans rfl
 have hfs27 := aE_ BK138.out 3
 have hs28 : w23.cell? ⟨gb138, 4, none⟩ = some (.bool false) := (aC_ BK138.out 4).trans rfl
 have hfs28 := aE_ BK138.out 4
 refine skip_ (w1 := ?_) (by rfl) rfl ?_ ?_
 rotate_left
 ·go_simp
  rfl
 refine hK.out _ _ trivial (fun hHeld => ?_)
 clear hK K
 refine pz 22 (some 3) HT_ ?_
 refine done_ (dO_ HT_.out (by kernel_rfl)) ?_
 try go_wp2
 refine bodyPost_ret (b8_ rfl _ _ gb138 45 #[.int .i64 4, .string (⟨#[]⟩ : ByteArray), .string t139, .slice none 0 0, .bool false] (0, 0) _ rfl (bP BK138) Tryz.underlying45 rfl (by kernel_rfl)) rfl ?_
 exact ⟨_, by first | rfl | (simp [bL_, bK_] <;> rfl) | (simp only [← hji16]; first | rfl | (simp [bL_, bK_] <;> rfl)) | (simp [*, bL_, bK_] <;> rfl), by first | exact Kd.R_nil _ _ _ _ _ | exact Kd.N_nil _ _ _ _ _ | exact Kd.V_nil _ _ _ _ _ | exact Kd.Q_nil _ _ _ _ _ | exact Kd.S_nil _ _ _ _ _, r4a0_, r4b1_, r4d3_⟩
def b7_.f (a0 : Int) : Option (Bool) := if a0 ≥ 97 then (if a0 ≤ 122 then (some true) else (if a0 ≥ 65 then (if a0 ≤ 90 then (some true) else (some (a0 == 95))) else (some (a0 == 95)))) else (if a0 ≥ 65 then (if a0 ≤ 90 then (some true) else (some (a0 == 95))) else (some (a0 == 95)))
theorem b7_.calls (a0 : Int) (r : Bool) (w : World) (hG : Glob w) (h : b7_.f a0 = some r) :
 Calls Tryz.prog 100 #[.int .u8 a0] w fun e w' => e = .returned (.bool r) ∧ aS_ w w' := by
 have HG := aA_.mk hG
 clear hG
 have H : (if a0 ≥ 97 then (if a0 ≤ 122 then (some true) else (if a0 ≥ 65 then (if a0 ≤ 90 then (some true) else (some (a0 == 95))) else (some (a0 == 95)))) else (if a0 ≥ 65 then (if a0 ≤ 90 then (some true) else (some (a0 == 95))) else (some (a0 == 95)))) = some r := h
 clear h
 by_cases c2 : a0 ≥ 97
 rotate_left
 ·rw [if_neg c2] at H
  have c2b0 := dF c2
  clear c2
  by_cases c6 : a0 ≥ 65
  rotate_left
  ·rw [if_neg c6] at H
   have c6b0 := dF c6
   clear c6
   obtain rfl := Option.some.inj H
   go_enter Tryz.func100, Tryz.ntmps100
   go_wp2
   go_ret
   exact ⟨by first | rfl | (simp; done) | (simp [*]; done), r4g6_⟩
  rw [if_pos c6] at H
  have c6b0 := dT c6
  clear c6
  by_cases c7 : a0 ≤ 90
  rotate_left
  ·rw [if_neg c7] at H
   have c7b0 := dF c7
   clear c7
   obtain rfl := Option.some.inj H
   go_enter Tryz.func100, Tryz.ntmps100
   go_wp2
   go_ret
   exact ⟨by first | rfl | (simp; done) | (simp [*]; done), r4g6_⟩
  rw [if_pos c7] at H
  have c7b0 := dT c7
  clear c7
  obtain rfl := Option.some.inj H
  go_enter Tryz.func100, Tryz.ntmps100
  go_wp2
  go_ret
  exact ⟨by first | rfl | (simp; done) | (simp [*]; done), r4g6_⟩
 rw [if_pos c2] at H
 have c2b0 := dT c2
 clear c2
 by_cases c3 : a0 ≤ 122
 ·rw [if_pos c3] at H
  have c3b0 := dT c3
  clear c3
  obtain rfl := Option.some.inj H
  go_enter Tryz.func100, Tryz.ntmps100
  go_wp2
  go_ret
  exact ⟨by first | rfl | (simp; done) | (simp [*]; done), r4g6_⟩
 rw [if_neg c3] at H
 have c3b0 := dF c3
 clear c3
 by_cases c4 : a0 ≥ 65
 rotate_left
 ·rw [if_neg c4] at H
  have c4b0 := dF c4
  clear c4
  obtain rfl := Option.some.inj H
  go_enter Tryz.func100, Tryz.ntmps100
  go_wp2
  go_ret
  exact ⟨by first | rfl | (simp; done) | (simp [*]; done), r4g6_⟩
 rw [if_pos c4] at H
 have c4b0 := dT c4
 clear c4
 by_cases c5 : a0 ≤ 90
 rotate_left
 ·rw [if_neg c5] at H
  have c5b0 := dF c5
  clear c5
  obtain rfl := Option.some.inj H
  go_enter Tryz.func100, Tryz.ntmps100
  go_wp2
  go_ret
  exact ⟨by first | rfl | (simp; done) | (simp [*]; done), r4g6_⟩
 rw [if_pos c5] at H
 have c5b0 := dT c5
 clear c5
 obtain rfl := Option.some.inj H
 go_enter Tryz.func100, Tryz.ntmps100
 go_wp2
 go_ret
 exact ⟨by first | rfl | (simp; done) | (simp [*]; done), r4g6_⟩
def b9_.f (a0 : Int) : Option (Bool) := if a0 ≥ 48 then (some (decide (a0 ≤ 57))) else (some false)
theorem b9_.calls (a0 : Int) (r : Bool) (w : World) (hG : Glob w) (h : b9_.f a0 = some r) :
 Calls Tryz.prog 101 #[.int .u8 a0] w fun e w' => e = .returned (.bool r) ∧ aS_ w w' := by
 have HG := aA_.mk hG
 clear hG
 have H : (if a0 ≥ 48 then (some (decide (a0 ≤ 57))) else (some false)) = some r := h
 clear h
 by_cases c2 : a0 ≥ 48
 rotate_left
 ·rw [if_neg c2] at H
  have c2b0 := dF c2
  clear c2
  obtain rfl := Option.some.inj H
  go_enter Tryz.func101, Tryz.ntmps101
  go_wp2
  go_ret
  exact ⟨by first | rfl | (simp; done) | (simp [*]; done), r4g6_⟩
 rw [if_pos c2] at H
 have c2b0 := dT c2
 clear c2
 obtain rfl := Option.some.inj H
 go_enter Tryz.func101, Tryz.ntmps101
 go_wp2
 go_ret
 exact ⟨by first | rfl | (simp; done) | (simp [*]; done), r4g6_⟩
def b1_.f (a0 : Int) : Option (Bool) := (b7_.f a0).bind fun t144 => (if t144 = true then (some true) else ((b9_.f a0).bind fun t145 => (if t145 = true then (some true) else (if a0 = 45 then (some true) else (if a0 = 46 then (some true) else (some (a0 == 58)))))))
theorem b1_.calls (a0 : Int) (r : Bool) (w : World) (hG : Glob w) (h : b1_.f a0 = some r) :
 Calls Tryz.prog 87 #[.int .u8 a0] w fun e w' => e = .returned (.bool r) ∧ aS_ w w' := by
 have HG := aA_.mk hG
 clear hG
 have H : ((b7_.f a0).bind fun t144 => (if t144 = true then (some true) else ((b9_.f a0).bind fun t145 => (if t145 = true then (some true) else (if a0 = 45 then (some true) else (if a0 = 46 then (some true) else (some (a0 == 58)))))))) = some r := h
 clear h
 replace H := bi H
 obtain ⟨t144, A20, H⟩ := H
 try dsimp only at H
 have A2 := aA_.mk A20
 clear A20
 by_cases c3 : t144 = true
 ·subst c3
  replace H : (some true) = some r := by rw [if_pos rfl] at H; exact H
  obtain rfl := Option.some.inj H
  go_enter Tryz.func87, Tryz.ntmps87
  go_wp2_with (first | (refine gl (some 4) Tryz.func100 #[.int .u8 a0] ?_; (with_reducible refine (b7_.calls a0 true _ ?side1 A2.out).mono ?_); (case side1 => exact Glob.drawn HG.out (r4g6_)); rintro e w' ⟨rfl, ⟨nd, rfl⟩⟩; refine ⟨_, rfl, ?_⟩))
  go_ret
  exact ⟨by first | rfl | (simp; done) | (simp [*]; done), r4g6_⟩
 replace c3 := Bool.eq_false_iff.mpr c3
 subst c3
 replace H : ((b9_.f a0).bind fun t145 => (if t145 = true then (some true) else (if a0 = 45 then (some true) else (if a0 = 46 then (some true) else (some (a0 == 58)))))) = some r := by rw [if_neg nF] at H; exact H
 replace H := bi H
 obtain ⟨t145, A40, H⟩ := H
 try dsimp only at H
 have A4 := aA_.mk A40
 clear A40
 by_cases c5 : t145 = true
 ·subst c5
  replace H : (some true) = some r := by rw [if_pos rfl] at H; exact H
  obtain rfl := Option.some.inj H
  go_enter Tryz.func87, Tryz.ntmps87
  go_wp2_with (first | (refine gl (some 4) Tryz.func100 #[.int .u8 a0] ?_; (with_reducible refine (b7_.calls a0 false _ ?side1 A2.out).mono ?_); (case side1 => exact Glob.drawn HG.out (r4g6_)); rintro e w' ⟨rfl, ⟨nd, rfl⟩⟩; refine ⟨_, rfl, ?_⟩) | (go_at_call 101; (with_reducible refine (b9_.calls a0 true _ ?side1 A4.out).mono ?_); (case side1 => exact Glob.drawn HG.out (r4g6_)); rintro e w' ⟨rfl, ⟨nd, rfl⟩⟩))
  go_ret
  exact ⟨by first | rfl | (simp; done) | (simp [*]; done), r4g6_⟩
 replace c5 := Bool.eq_false_iff.mpr c5
 subst c5
 replace H : (if a0 = 45 then (some true) else (if a0 = 46 then (some true) else (some (a0 == 58)))) = some r := by rw [if_neg nF] at H; exact H
 by_cases c6 : a0 = 45
 ·rw [if_pos c6] at H
  obtain ⟨c6b0, c6b1⟩ := eqT c6
  clear c6
  obtain rfl := Option.some.inj H
  go_enter Tryz.func87, Tryz.ntmps87
  go_wp2_with (first | (refine gl (some 4) Tryz.func100 #[.int .u8 a0] ?_; (with_reducible refine (b7_.calls a0 false _ ?side1 A2.out).mono ?_); (case side1 => exact Glob.drawn HG.out (r4g6_)); rintro e w' ⟨rfl, ⟨nd, rfl⟩⟩; refine ⟨_, rfl, ?_⟩) | (go_at_call 101; (with_reducible refine (b9_.calls a0 false _ ?side1 A4.out).mono ?_); (case side1 => exact Glob.drawn HG.out (r4g6_)); rintro e w' ⟨rfl, ⟨nd, rfl⟩⟩))
  go_ret
  exact ⟨by first | rfl | (simp; done) | (simp [*]; done), r4g6_⟩
 rw [if_neg c6] at H
 obtain ⟨c6b0, c6b1⟩ := eqF c6
 by_cases c7 : a0 = 46
 rotate_left
 ·rw [if_neg c7] at H
  obtain ⟨c7b0, c7b1⟩ := eqF c7
  obtain rfl := Option.some.inj H
  go_enter Tryz.func87, Tryz.ntmps87
  go_wp2_with (first | (refine gl (some 4) Tryz.func100 #[.int .u8 a0] ?_; (with_reducible refine (b7_.calls a0 false _ ?side1 A2.out).mono ?_); (case side1 => exact Glob.drawn HG.out (r4g6_)); rintro e w' ⟨rfl, ⟨nd, rfl⟩⟩; refine ⟨_, rfl, ?_⟩) | (go_at_call 101; (with_reducible refine (b9_.calls a0 false _ ?side1 A4.out).mono ?_); (case side1 => exact Glob.drawn HG.out (r4g6_)); rintro e w' ⟨rfl, ⟨nd, rfl⟩⟩))
  go_ret
  exact ⟨by first | rfl | (simp; done) | (simp [*]; done), r4g6_⟩
 rw [if_pos c7] at H
 obtain ⟨c7b0, c7b1⟩ := eqT c7
 clear c7
 obtain rfl := Option.some.inj H
 go_enter Tryz.func87, Tryz.ntmps87
 go_wp2_with (first | (refine gl (some 4) Tryz.func100 #[.int .u8 a0] ?_; (with_reducible refine (b7_.calls a0 false _ ?side1 A2.out).mono ?_); (case side1 => exact Glob.drawn HG.out (r4g6_)); rintro e w' ⟨rfl, ⟨nd, rfl⟩⟩; refine ⟨_, rfl, ?_⟩) | (go_at_call 101; (with_reducible refine (b9_.calls a0 false _ ?side1 A4.out).mono ?_); (case side1 => exact Glob.drawn HG.out (r4g6_)); rintro e w' ⟨rfl, ⟨nd, rfl⟩⟩))
 go_ret
 exact ⟨by first | rfl | (simp; done) | (simp [*]; done), r4g6_⟩
mutual
def a3_.j0 : Nat → ByteArray → Bool → Option (Bool)
 | 0, _, _ => none
 | k + 1, x0, x12 => if x12 = true then (some false) else (a3_.l0 k x0 0)
def a3_.l0 : Nat → ByteArray → Int → Option (Bool)
 | 0, _, _ => none
 | k + 1, x0, x3 => if x3 < (x0.size : Int) then (if 0 ≤ x3 then ((b1_.f (bt x0 x3)).bind fun t147 => (if t147 = true then (a3_.l0 k x0 (wrap64 (x3 + 1))) else (some false))) else (none)) else (some true)
end
def a3_.f (k : Nat) (a0 : ByteArray) : Option (Bool) := if (a0.size : Int) = 0 then (a3_.j0 k a0 true) else (if 0 < (a0.size : Int) then ((b7_.f (bt a0 0)).bind fun t146 => (a3_.j0 k a0 (!t146))) else (none))
theorem a3_.mono_l : ∀ k, (∀ y0 y1, LeO (a3_.j0 k y0 y1) (a3_.j0 (k + 1) y0 y1)) ∧ (∀ y0 y1, LeO (a3_.l0 k y0 y1) (a3_.l0 (k + 1) y0 y1))
 | 0 => ⟨fun _ _ r h => by simp [a3_.j0] at h, fun _ _ r h => by simp [a3_.l0] at h⟩
 | k + 1 => by
  obtain ⟨ih0, ih1⟩ := a3_.mono_l k
  refine ⟨?_, ?_⟩
  ·intro y0 y1
   unfold a3_.j0
   exact mo
  ·intro y0 y1
   unfold a3_.l0
   exact mo
theorem a3_.mono : ∀ a0 k, LeO (a3_.f k a0) (a3_.f (k + 1) a0) := by
 intro a0 k
 obtain ⟨ih0, ih1⟩ := a3_.mono_l k
 unfold a3_.f
 exact mo
theorem a3_.calls (k : Nat) (a0 : ByteArray) (r : Bool) (w : World) (hG : Glob w) (h : a3_.f k a0 = some r) :
 Calls Tryz.prog 88 #[.string a0] w fun e w' => e = .returned (.bool r) ∧ aS_ w w' := by
 have HG := aA_.mk hG
 clear hG
 have H : (if (a0.size : Int) = 0 then (a3_.j0 k a0 true) else (if 0 < (a0.size : Int) then ((b7_.f (bt a0 0)).bind fun t146 => (a3_.j0 k a0 (!t146))) else (none))) = some r := h
 clear h
 have HC2 := aA_.mk H
 clear H
 go_enter Tryz.func88, Tryz.ntmps88
 go_upto_region 1 with (fail)
 go_cut [12] (fun v12 wc => ∃ (kq : Nat) (x12_1 : Bool), v12 = .bool x12_1 ∧ aA_ (a3_.j0 kq a0 x12_1 = some r) ∧ aA_ (kq ≤ k) ∧ aS_ w wc)
 case first =>
  have H := HC2.out
  clear HC2
  by_cases c3 : (a0.size : Int) = 0
  ·rw [if_pos c3] at H
   obtain ⟨c3b0, c3b1⟩ := eqT c3
   clear c3
   (first | rw [c3b0] | (simp only [c6_, dY_]; rw [c3b0]) | skip)
   have H' := aA_.mk H
   clear H
   go_wp2
   go_meet
   case rel => exact ⟨_, (true), cA, H', ⟨by first | omega | exact Nat.le_refl _⟩, r4g6_⟩
  rw [if_neg c3] at H
  obtain ⟨c3b0, c3b1⟩ := eqF c3
  (first | rw [c3b0] | (simp only [c6_, dY_]; rw [c3b0]) | skip)
  obtain ⟨c4, H⟩ := gp H
  have c4b0 := dT c4
  have c4b1 : decide (0 < a0.size) = true := decide_eq_true (by omega)
  clear c4
  replace H := bi H
  obtain ⟨t146, A60, H⟩ := H
  try dsimp only at H
  have A6 := aA_.mk A60
  clear A60
  have H' := aA_.mk H
  clear H
  have p5 : 0 ≤ (0 : Int) := (by omega)
  have q5 : 0 < a0.size := (by have : (0 : Int) < (a0.size : Int) := dA; omega)
  have hx5 : ∀ h : 0 < a0.size, ((a0[0]'h).toNat : Int) = bt a0 0 := dP_ a0 0
  clear p5
  have qi5 : (0 < (a0.size : Int)) = True := eq_true (dA)
  replace q5 := eq_true q5
  go_wp2_with (first | (go_at_call 100; (with_reducible refine (b7_.calls (bt a0 0) t146 _ ?side1 A6.out).mono ?_); (case side1 => exact Glob.drawn HG.out (r4g6_)); rintro e w' ⟨rfl, ⟨nd, rfl⟩⟩))
  go_meet
  case rel => exact ⟨_, (!t146), cA, H', ⟨by first | omega | exact Nat.le_refl _⟩, r4g6_⟩
 clear HC2
 try clear p2
 try clear c3
 try clear c3b0
 try clear c3b1
 try clear c4
 try clear c4b0
 try clear c4b1
 try clear p5
 try clear q5
 try clear hx5
 try clear qi5
 try clear p5
 try clear q5
 obtain ⟨kq, x12_1, rfl, HA, HJ1, ⟨mc1, rfl⟩⟩ := hcut
 cases kq with
 | zero => exact absurd HA.out (by simp [a3_.j0])
 | succ kj1 =>
  have H := HA.out
  clear HA
  simp only [a3_.j0] at H
  by_cases c7 : x12_1 = true
  ·subst c7
   replace H : (some false) = some r := by rw [if_pos rfl] at H; exact H
   obtain rfl := Option.some.inj H
   go_wp2
   go_ret
   exact ⟨by first | rfl | (simp; done) | (simp [*]; done), r4g6_⟩
  replace c7 := Bool.eq_false_iff.mpr c7
  subst c7
  replace H : (a3_.l0 kj1 a0 0) = some r := by rw [if_neg nF] at H; exact H
  have H' := aA_.mk H
  clear H
  go_wp2
  go_loopg [3] kj1 (fun kq v3 w' => ∃ (x3_2 : Int), v3 = .int .i64 x3_2 ∧ aA_ (a3_.l0 kq a0 x3_2 = some r) ∧ aA_ (kq ≤ kj1) ∧ aS_ w w')
  case atStart => exact ⟨(0), cA, H', ⟨Nat.le_refl _⟩, r4g6_⟩
  clear H'
  try clear c1
  try clear p2
  try clear c3
  try clear c3b0
  try clear c3b1
  try clear c4
  try clear c4b0
  try clear c4b1
  try clear p5
  try clear q5
  try clear hx5
  try clear qi5
  try clear c7
  try clear p2
  try clear p5
  try clear q5
  obtain ⟨x3_2, rfl, HA, HK2, ⟨m2, rfl⟩⟩ := hrel
  cases gk with
  | zero => exact absurd HA.out (by simp [a3_.l0])
  | succ k2 =>
   have H := HA.out
   clear HA
   simp only [a3_.l0] at H
   by_cases c8 : x3_2 < (a0.size : Int)
   rotate_left
   ·rw [if_neg c8] at H
    have c8b0 := dF c8
    clear c8
    obtain rfl := Option.some.inj H
    go_wp2
    go_ret
    exact ⟨by first | rfl | (simp; done) | (simp [*]; done), r4g6_⟩
   rw [if_pos c8] at H
   have c8b0 := dT c8
   clear c8
   obtain ⟨c9, H⟩ := gp H
   have c9b0 := dT c9
   clear c9
   replace H := bi H
   obtain ⟨t147, A110, H⟩ := H
   try dsimp only at H
   have A11 := aA_.mk A110
   clear A110
   by_cases c12 : t147 = true
   rotate_left
   ·replace c12 := Bool.eq_false_iff.mpr c12
    subst c12
    replace H : (some false) = some r := by rw [if_neg nF] at H; exact H
    obtain rfl := Option.some.inj H
    have p10 : 0 ≤ (x3_2 : Int) := dA
    have q10 : x3_2 < (a0.size : Int) := dA
    have hx10 := dP_ a0 x3_2
    replace p10 := eq_true p10
    replace q10 := eq_true q10
    go_wp2_with (first | (refine gl (some 22) Tryz.func87 #[.int .u8 (bt a0 x3_2)] ?_; (with_reducible refine (b1_.calls (bt a0 x3_2) false _ ?side1 A11.out).mono ?_); (case side1 => exact Glob.drawn HG.out (r4g6_)); rintro e w' ⟨rfl, ⟨nd, rfl⟩⟩; refine ⟨_, rfl, ?_⟩))
    go_ret
    exact ⟨by first | rfl | (simp; done) | (simp [*]; done), r4g6_⟩
   subst c12
   replace H : (a3_.l0 k2 a0 (wrap64 (x3_2 + 1))) = some r := by rw [if_pos rfl] at H; exact H
   have H' := aA_.mk H
   clear H
   have p10 : 0 ≤ (x3_2 : Int) := dA
   have q10 : x3_2 < (a0.size : Int) := dA
   have hx10 := dP_ a0 x3_2
   replace p10 := eq_true p10
   replace q10 := eq_true q10
   go_wp2_with (first | (refine gl (some 22) Tryz.func87 #[.int .u8 (bt a0 x3_2)] ?_; (with_reducible refine (b1_.calls (bt a0 x3_2) true _ ?side1 A11.out).mono ?_); (case side1 => exact Glob.drawn HG.out (r4g6_)); rintro e w' ⟨rfl, ⟨nd, rfl⟩⟩; refine ⟨_, rfl, ?_⟩))
   go_roundg k2
   case measure => have := HJ1.out; have := HK2.out; omega
   case rel => exact ⟨(wrap64 (x3_2 + 1)), cA, H', ⟨by have := HJ1.out; have := HK2.out; omega⟩, r4g6_⟩
def aX_.l0 : Nat → Int → ByteArray → Int → Option (ByteArray × ByteArray × Int)
 | 0, _, _, _ => none
 | k + 1, x3, x1000, x1001 => if x1001 < (x1000.size : Int) then (if 0 ≤ x1001 then ((b1_.f (bt x1000 x1001)).bind fun t148 => (if t148 = true then (aX_.l0 k x3 x1000 (wrap64 (x1001 + 1))) else (if 0 ≤ x3 then (if x3 ≤ x1001 then (if x1001 ≤ (x1000.size : Int) then ((a3_.f k (x1000.extract (x3 : Int).toNat (x1001 : Int).toNat)).bind fun t149 => (if t149 = true then (some (x1000.extract (x3 : Int).toNat (x1001 : Int).toNat, x1000, x1001)) else (some ((⟨#[]⟩ : ByteArray), x1000, x1001)))) else (none)) else (none)) else (none)))) else (none)) else (if 0 ≤ x3 then (if x3 ≤ x1001 then (if x1001 ≤ (x1000.size : Int) then ((a3_.f k (x1000.extract (x3 : Int).toNat (x1001 : Int).toNat)).bind fun t150 => (if t150 = true then (some (x1000.extract (x3 : Int).toNat (x1001 : Int).toNat, x1000, x1001)) else (some ((⟨#[]⟩ : ByteArray), x1000, x1001)))) else (none)) else (none)) else (none))
def aX_.f (k : Nat) (s0_0 : ByteArray) (s0_1 : Int) : Option (ByteArray × ByteArray × Int) := aX_.l0 k s0_1 s0_0 s0_1
theorem aX_.mono_l : ∀ k, (∀ y0 y1 y2, LeO (aX_.l0 k y0 y1 y2) (aX_.l0 (k + 1) y0 y1 y2))
 | 0 => fun _ _ _ r h => by simp [aX_.l0] at h
 | k + 1 => by
  have ih0 := aX_.mono_l k
  ·intro y0 y1 y2
   unfold aX_.l0
   have m0 := @a3_.mono
   exact mo
theorem aX_.mono : ∀ a0 a1 k, LeO (aX_.f k a0 a1) (aX_.f (k + 1) a0 a1) := by
 intro a0 a1 k
 have ih0 := aX_.mono_l k
 unfold aX_.f
 have m0 := @a3_.mono
 exact mo
theorem aX_.calls (k : Nat) (g : Nat) (s0_0 : ByteArray) (s0_1 : Int) (r1 : ByteArray) (r2 : ByteArray) (r3 : Int) (w0 w : World) (hI : aD_ w0 w g s0_0 s0_1) (hB : Below w0.heap.size w0 w) (hG : Glob w0) (h : aX_.f k s0_0 s0_1 = some (r1, r2, r3)) :
 Calls Tryz.prog 74 #[.pointer (some ⟨g, 0, none⟩)] w fun e w' => e = .returned (.string r1) ∧ aD_ w0 w' g r2 r3 ∧ Below w0.heap.size w0 w' ∧ aJ_ w w' g none := by
 have HG := aA_.mk hG
 clear hG
 have HI0 := aA_.mk hI
 have HK := aA_.mk (aJ_.refl w g none)
 have HL := aA_.mk hB.size
 clear hI
 have HW0 := aA_.mk hB.size
 have HB := aA_.mk hB
 clear hB
 have H : (aX_.l0 k s0_1 s0_0 s0_1) = some (r1, r2, r3) := h
 clear h
 have H' := aA_.mk H
 clear H
 obtain ⟨HGz2, hgz2⟩ := HI0.out
 have hcz2_0 := a9_ HGz2
 have hcz2_1 := bA_ HGz2
 have hfz2_0 := aE_ HGz2 0
 have hfz2_1 := aE_ HGz2 1
 clear HGz2 hgz2
 go_enter Tryz.func74, Tryz.ntmps74
 go_wp2
 repeat (go_quiet (fail); try go_wp2)
 go_loopg [] k (fun kq w' => ∃ (x1001_1 : Int), aA_ (aX_.l0 kq s0_1 s0_0 x1001_1 = some (r1, r2, r3)) ∧ aA_ (kq ≤ k) ∧ aA_ (aD_ w0 w' g s0_0 x1001_1) ∧ aA_ (aJ_ w w' g none) ∧ aA_ (Below w0.heap.size w0 w'))
 case atStart => exact ⟨(s0_1), H', ⟨Nat.le_refl _⟩, ⟨r4c2_⟩, ⟨r4f5_⟩, ⟨r4e4_⟩⟩
 clear H'
 try clear p2
 try clear hcz2_0
 try clear hcz2_1
 try clear hfz2_0
 try clear hfz2_1
 obtain ⟨x1001_1, HA, HK1, HI0, HK, HB⟩ := hrel
 cases gk with
 | zero => exact absurd HA.out (by simp [aX_.l0])
 | succ k1 =>
  have H := HA.out
  clear HA
  simp only [aX_.l0] at H
  (try simp only [toList_lit] at H)
  by_cases c3 : x1001_1 < (s0_0.size : Int)
  rotate_left
  ·rw [if_neg c3] at H
   have c3b0 := dF c3
   clear c3
   obtain ⟨c19, H⟩ := gp H
   have c19b0 := eq_true c19
   have c19b1 := dT c19
   clear c19
   obtain ⟨c20, H⟩ := gp H
   have c20b0 := eq_true c20
   have c20b1 := dT c20
   clear c20
   obtain ⟨c21, H⟩ := gp H
   have c21b0 := eq_true c21
   have c21b1 := dT c21
   clear c21
   replace H := bi H
   obtain ⟨t150, A220, H⟩ := H
   try dsimp only at H
   have A22 := aA_.mk A220
   clear A220
   by_cases c23 : t150 = true
   rotate_left
   ·replace c23 := Bool.eq_false_iff.mpr c23
    subst c23
    replace H : (some ((⟨#[]⟩ : ByteArray), s0_0, x1001_1)) = some (r1, r2, r3) := by rw [if_neg nF] at H; exact H
    simp only [Option.some.injEq, Prod.mk.injEq] at H
    obtain ⟨rfl, rfl, rfl⟩ := H
    obtain ⟨HGz28, hgz28⟩ := HI0.out
    have hcz28_0 := a9_ HGz28
    have hcz28_1 := bA_ HGz28
    have hfz28_0 := aE_ HGz28 0
    have hfz28_1 := aE_ HGz28 1
    clear HGz28 hgz28
    go_wp2_with (first | (go_at_call 88; (with_reducible refine (a3_.calls k1 (s0_0.extract (s0_1 : Int).toNat (x1001_1 : Int).toNat) false _ ?side1 A22.out).mono ?_); (case side1 => exact Glob.step HG.out (r4e4_)); rintro e w' ⟨rfl, ⟨nd, rfl⟩⟩; (try first | exact ⟨rfl, _, World.drewN_drewN _ _ _⟩ | exact ⟨rfl, _, Eq.trans (World.drewN_drewN _ _ _) (congrArg (World.drewN _) (Nat.add_assoc _ _ _))⟩)))
    repeat (go_quiet (first | (go_at_call 88; (with_reducible refine (a3_.calls k1 (s0_0.extract (s0_1 : Int).toNat (x1001_1 : Int).toNat) false _ ?side1 A22.out).mono ?_); (case side1 => exact Glob.step HG.out (r4e4_)); rintro e w' ⟨rfl, ⟨nd, rfl⟩⟩; (try first | exact ⟨rfl, _, World.drewN_drewN _ _ _⟩ | exact ⟨rfl, _, Eq.trans (World.drewN_drewN _ _ _) (congrArg (World.drewN _) (Nat.add_assoc _ _ _))⟩))); try go_wp2_with (first | (go_at_call 88; (with_reducible refine (a3_.calls k1 (s0_0.extract (s0_1 : Int).toNat (x1001_1 : Int).toNat) false _ ?side1 A22.out).mono ?_); (case side1 => exact Glob.step HG.out (r4e4_)); rintro e w' ⟨rfl, ⟨nd, rfl⟩⟩; (try first | exact ⟨rfl, _, World.drewN_drewN _ _ _⟩ | exact ⟨rfl, _, Eq.trans (World.drewN_drewN _ _ _) (congrArg (World.drewN _) (Nat.add_assoc _ _ _))⟩))))
    go_ret
    exact ⟨eA, r4c2_, r4e4_, r4f5_⟩
   subst c23
   replace H : (some (s0_0.extract (s0_1 : Int).toNat (x1001_1 : Int).toNat, s0_0, x1001_1)) = some (r1, r2, r3) := by rw [if_pos rfl] at H; exact H
   have c24b0 := eq_true (dA : 0 ≤ s0_1)
   have c25b0 := eq_true (dA : s0_1 ≤ x1001_1)
   have c26b0 := eq_true (dA : x1001_1 ≤ (s0_0.size : Int))
   simp only [Option.some.injEq, Prod.mk.injEq] at H
   obtain ⟨rfl, rfl, rfl⟩ := H
   obtain ⟨HGz27, hgz27⟩ := HI0.out
   have hcz27_0 := a9_ HGz27
   have hcz27_1 := bA_ HGz27
   have hfz27_0 := aE_ HGz27 0
   have hfz27_1 := aE_ HGz27 1
   clear HGz27 hgz27
   go_wp2_with (first | (go_at_call 88; (with_reducible refine (a3_.calls k1 (s0_0.extract (s0_1 : Int).toNat (x1001_1 : Int).toNat) true _ ?side1 A22.out).mono ?_); (case side1 => exact Glob.step HG.out (r4e4_)); rintro e w' ⟨rfl, ⟨nd, rfl⟩⟩; (try first | exact ⟨rfl, _, World.drewN_drewN _ _ _⟩ | exact ⟨rfl, _, Eq.trans (World.drewN_drewN _ _ _) (congrArg (World.drewN _) (Nat.add_assoc _ _ _))⟩)))
   repeat (go_quiet (first | (go_at_call 88; (with_reducible refine (a3_.calls k1 (s0_0.extract (s0_1 : Int).toNat (x1001_1 : Int).toNat) true _ ?side1 A22.out).mono ?_); (case side1 => exact Glob.step HG.out (r4e4_)); rintro e w' ⟨rfl, ⟨nd, rfl⟩⟩; (try first | exact ⟨rfl, _, World.drewN_drewN _ _ _⟩ | exact ⟨rfl, _, Eq.trans (World.drewN_drewN _ _ _) (congrArg (World.drewN _) (Nat.add_assoc _ _ _))⟩))); try go_wp2_with (first | (go_at_call 88; (with_reducible refine (a3_.calls k1 (s0_0.extract (s0_1 : Int).toNat (x1001_1 : Int).toNat) true _ ?side1 A22.out).mono ?_); (case side1 => exact Glob.step HG.out (r4e4_)); rintro e w' ⟨rfl, ⟨nd, rfl⟩⟩; (try first | exact ⟨rfl, _, World.drewN_drewN _ _ _⟩ | exact ⟨rfl, _, Eq.trans (World.drewN_drewN _ _ _) (congrArg (World.drewN _) (Nat.add_assoc _ _ _))⟩))))
   go_ret
   exact ⟨eA, r4c2_, r4e4_, r4f5_⟩
  rw [if_pos c3] at H
  have c3b0 := dT c3
  clear c3
  obtain ⟨c4, H⟩ := gp H
  have c4b0 := dT c4
  clear c4
  replace H := bi H
  obtain ⟨t148, A60, H⟩ := H
  try dsimp only at H
  have A6 := aA_.mk A60
  clear A60
  by_cases c7 : t148 = true
  ·subst c7
   replace H : (aX_.l0 k1 s0_1 s0_0 (wrap64 (x1001_1 + 1))) = some (r1, r2, r3) := by rw [if_pos rfl] at H; exact H
   have H' := aA_.mk H
   clear H
   obtain ⟨HGz8, hgz8⟩ := HI0.out
   have hcz8_0 := a9_ HGz8
   have hcz8_1 := bA_ HGz8
   have hfz8_0 := aE_ HGz8 0
   have hfz8_1 := aE_ HGz8 1
   clear HGz8 hgz8
   have p5 : 0 ≤ (x1001_1 : Int) := dA
   have q5 : x1001_1 < (s0_0.size : Int) := dA
   have hx5 := dP_ s0_0 x1001_1
   replace p5 := eq_true p5
   replace q5 := eq_true q5
   go_wp2_with (first | (go_at_call 87; (with_reducible refine (b1_.calls (bt s0_0 x1001_1) true _ ?side1 A6.out).mono ?_); (case side1 => exact Glob.step HG.out (r4e4_)); rintro e w' ⟨rfl, ⟨nd, rfl⟩⟩; (try first | exact ⟨rfl, _, World.drewN_drewN _ _ _⟩ | exact ⟨rfl, _, Eq.trans (World.drewN_drewN _ _ _) (congrArg (World.drewN _) (Nat.add_assoc _ _ _))⟩)))
   repeat (go_quiet (first | (go_at_call 87; (with_reducible refine (b1_.calls (bt s0_0 x1001_1) true _ ?side1 A6.out).mono ?_); (case side1 => exact Glob.step HG.out (r4e4_)); rintro e w' ⟨rfl, ⟨nd, rfl⟩⟩; (try first | exact ⟨rfl, _, World.drewN_drewN _ _ _⟩ | exact ⟨rfl, _, Eq.trans (World.drewN_drewN _ _ _) (congrArg (World.drewN _) (Nat.add_assoc _ _ _))⟩))); try go_wp2_with (first | (go_at_call 87; (with_reducible refine (b1_.calls (bt s0_0 x1001_1) true _ ?side1 A6.out).mono ?_); (case side1 => exact Glob.step HG.out (r4e4_)); rintro e w' ⟨rfl, ⟨nd, rfl⟩⟩; (try first | exact ⟨rfl, _, World.drewN_drewN _ _ _⟩ | exact ⟨rfl, _, Eq.trans (World.drewN_drewN _ _ _) (congrArg (World.drewN _) (Nat.add_assoc _ _ _))⟩))))
   go_roundg k1
   case measure => have := HK1.out; omega
   case rel => exact ⟨(wrap64 (x1001_1 + 1)), H', ⟨by have := HK1.out; omega⟩, ⟨r4c2_⟩, ⟨r4f5_⟩, ⟨r4e4_⟩⟩
  replace c7 := Bool.eq_false_iff.mpr c7
  subst c7
  replace H : (if 0 ≤ s0_1 then (if s0_1 ≤ x1001_1 then (if x1001_1 ≤ (s0_0.size : Int) then ((a3_.f k1 (s0_0.extract (s0_1 : Int).toNat (x1001_1 : Int).toNat)).bind fun t149 => (if t149 = true then (some (s0_0.extract (s0_1 : Int).toNat (x1001_1 : Int).toNat, s0_0, x1001_1)) else (some ((⟨#[]⟩ : ByteArray), s0_0, x1001_1)))) else (none)) else (none)) else (none)) = some (r1, r2, r3) := by rw [if_neg nF] at H; exact H
  obtain ⟨c9, H⟩ := gp H
  have c9b0 := eq_true c9
  have c9b1 := dT c9
  clear c9
  obtain ⟨c10, H⟩ := gp H
  have c10b0 := eq_true c10
  have c10b1 := dT c10
  clear c10
  obtain ⟨c11, H⟩ := gp H
  have c11b0 := eq_true c11
  have c11b1 := dT c11
  clear c11
  replace H := bi H
  obtain ⟨t149, A120, H⟩ := H
  try dsimp only at H
  have A12 := aA_.mk A120
  clear A120
  by_cases c13 : t149 = true
  rotate_left
  ·replace c13 := Bool.eq_false_iff.mpr c13
   subst c13
   replace H : (some ((⟨#[]⟩ : ByteArray), s0_0, x1001_1)) = some (r1, r2, r3) := by rw [if_neg nF] at H; exact H
   simp only [Option.some.injEq, Prod.mk.injEq] at H
   obtain ⟨rfl, rfl, rfl⟩ := H
   obtain ⟨HGz18, hgz18⟩ := HI0.out
   have hcz18_0 := a9_ HGz18
   have hcz18_1 := bA_ HGz18
   have hfz18_0 := aE_ HGz18 0
   have hfz18_1 := aE_ HGz18 1
   clear HGz18 hgz18
   have p5 : 0 ≤ (x1001_1 : Int) := dA
   have q5 : x1001_1 < (s0_0.size : Int) := dA
   have hx5 := dP_ s0_0 x1001_1
   replace p5 := eq_true p5
   replace q5 := eq_true q5
   go_wp2_with (first | (go_at_call 87; (with_reducible refine (b1_.calls (bt s0_0 x1001_1) false _ ?side1 A6.out).mono ?_); (case side1 => exact Glob.step HG.out (r4e4_)); rintro e w' ⟨rfl, ⟨nd, rfl⟩⟩; (try first | exact ⟨rfl, _, World.drewN_drewN _ _ _⟩ | exact ⟨rfl, _, Eq.trans (World.drewN_drewN _ _ _) (congrArg (World.drewN _) (Nat.add_assoc _ _ _))⟩)) | (go_at_call 88; (with_reducible refine (a3_.calls k1 (s0_0.extract (s0_1 : Int).toNat (x1001_1 : Int).toNat) false _ ?side1 A12.out).mono ?_); (case side1 => exact Glob.step HG.out (r4e4_)); rintro e w' ⟨rfl, ⟨nd, rfl⟩⟩; (try first | exact ⟨rfl, _, World.drewN_drewN _ _ _⟩ | exact ⟨rfl, _, Eq.trans (World.drewN_drewN _ _ _) (congrArg (World.drewN _) (Nat.add_assoc _ _ _))⟩)))
   repeat (go_quiet (first | (go_at_call 87; (with_reducible refine (b1_.calls (bt s0_0 x1001_1) false _ ?side1 A6.out).mono ?_); (case side1 => exact Glob.step HG.out (r4e4_)); rintro e w' ⟨rfl, ⟨nd, rfl⟩⟩; (try first | exact ⟨rfl, _, World.drewN_drewN _ _ _⟩ | exact ⟨rfl, _, Eq.trans (World.drewN_drewN _ _ _) (congrArg (World.drewN _) (Nat.add_assoc _ _ _))⟩)) | (go_at_call 88; (with_reducible refine (a3_.calls k1 (s0_0.extract (s0_1 : Int).toNat (x1001_1 : Int).toNat) false _ ?side1 A12.out).mono ?_); (case side1 => exact Glob.step HG.out (r4e4_)); rintro e w' ⟨rfl, ⟨nd, rfl⟩⟩; (try first | exact ⟨rfl, _, World.drewN_drewN _ _ _⟩ | exact ⟨rfl, _, Eq.trans (World.drewN_drewN _ _ _) (congrArg (World.drewN _) (Nat.add_assoc _ _ _))⟩))); try go_wp2_with (first | (go_at_call 87; (with_reducible refine (b1_.calls (bt s0_0 x1001_1) false _ ?side1 A6.out).mono ?_); (case side1 => exact Glob.step HG.out (r4e4_)); rintro e w' ⟨rfl, ⟨nd, rfl⟩⟩; (try first | exact ⟨rfl, _, World.drewN_drewN _ _ _⟩ | exact ⟨rfl, _, Eq.trans (World.drewN_drewN _ _ _) (congrArg (World.drewN _) (Nat.add_assoc _ _ _))⟩)) | (go_at_call 88; (with_reducible refine (a3_.calls k1 (s0_0.extract (s0_1 : Int).toNat (x1001_1 : Int).toNat) false _ ?side1 A12.out).mono ?_); (case side1 => exact Glob.step HG.out (r4e4_)); rintro e w' ⟨rfl, ⟨nd, rfl⟩⟩; (try first | exact ⟨rfl, _, World.drewN_drewN _ _ _⟩ | exact ⟨rfl, _, Eq.trans (World.drewN_drewN _ _ _) (congrArg (World.drewN _) (Nat.add_assoc _ _ _))⟩))))
   go_ret
   exact ⟨eA, r4c2_, r4e4_, r4f5_⟩
  subst c13
  replace H : (some (s0_0.extract (s0_1 : Int).toNat (x1001_1 : Int).toNat, s0_0, x1001_1)) = some (r1, r2, r3) := by rw [if_pos rfl] at H; exact H
  have c14b0 := eq_true (dA : 0 ≤ s0_1)
  have c15b0 := eq_true (dA : s0_1 ≤ x1001_1)
  have c16b0 := eq_true (dA : x1001_1 ≤ (s0_0.size : Int))
  simp only [Option.some.injEq, Prod.mk.injEq] at H
  obtain ⟨rfl, rfl, rfl⟩ := H
  obtain ⟨HGz17, hgz17⟩ := HI0.out
  have hcz17_0 := a9_ HGz17
  have hcz17_1 := bA_ HGz17
  have hfz17_0 := aE_ HGz17 0
  have hfz17_1 := aE_ HGz17 1
  clear HGz17 hgz17
  have p5 : 0 ≤ (x1001_1 : Int) := dA
  have q5 : x1001_1 < (s0_0.size : Int) := dA
  have hx5 := dP_ s0_0 x1001_1
  replace p5 := eq_true p5
  replace q5 := eq_true q5
  go_wp2_with (first | (go_at_call 87; (with_reducible refine (b1_.calls (bt s0_0 x1001_1) false _ ?side1 A6.out).mono ?_); (case side1 => exact Glob.step HG.out (r4e4_)); rintro e w' ⟨rfl, ⟨nd, rfl⟩⟩; (try first | exact ⟨rfl, _, World.drewN_drewN _ _ _⟩ | exact ⟨rfl, _, Eq.trans (World.drewN_drewN _ _ _) (congrArg (World.drewN _) (Nat.add_assoc _ _ _))⟩)) | (go_at_call 88; (with_reducible refine (a3_.calls k1 (s0_0.extract (s0_1 : Int).toNat (x1001_1 : Int).toNat) true _ ?side1 A12.out).mono ?_); (case side1 => exact Glob.step HG.out (r4e4_)); rintro e w' ⟨rfl, ⟨nd, rfl⟩⟩; (try first | exact ⟨rfl, _, World.drewN_drewN _ _ _⟩ | exact ⟨rfl, _, Eq.trans (World.drewN_drewN _ _ _) (congrArg (World.drewN _) (Nat.add_assoc _ _ _))⟩)))
  repeat (go_quiet (first | (go_at_call 87; (with_reducible refine (b1_.calls (bt s0_0 x1001_1) false _ ?side1 A6.out).mono ?_); (case side1 => exact Glob.step HG.out (r4e4_)); rintro e w' ⟨rfl, ⟨nd, rfl⟩⟩; (try first | exact ⟨rfl, _, World.drewN_drewN _ _ _⟩ | exact ⟨rfl, _, Eq.trans (World.drewN_drewN _ _ _) (congrArg (World.drewN _) (Nat.add_assoc _ _ _))⟩)) | (go_at_call 88; (with_reducible refine (a3_.calls k1 (s0_0.extract (s0_1 : Int).toNat (x1001_1 : Int).toNat) true _ ?side1 A12.out).mono ?_); (case side1 => exact Glob.step HG.out (r4e4_)); rintro e w' ⟨rfl, ⟨nd, rfl⟩⟩; (try first | exact ⟨rfl, _, World.drewN_drewN _ _ _⟩ | exact ⟨rfl, _, Eq.trans (World.drewN_drewN _ _ _) (congrArg (World.drewN _) (Nat.add_assoc _ _ _))⟩))); try go_wp2_with (first | (go_at_call 87; (with_reducible refine (b1_.calls (bt s0_0 x1001_1) false _ ?side1 A6.out).mono ?_); (case side1 => exact Glob.step HG.out (r4e4_)); rintro e w' ⟨rfl, ⟨nd, rfl⟩⟩; (try first | exact ⟨rfl, _, World.drewN_drewN _ _ _⟩ | exact ⟨rfl, _, Eq.trans (World.drewN_drewN _ _ _) (congrArg (World.drewN _) (Nat.add_assoc _ _ _))⟩)) | (go_at_call 88; (with_reducible refine (a3_.calls k1 (s0_0.extract (s0_1 : Int).toNat (x1001_1 : Int).toNat) true _ ?side1 A12.out).mono ?_); (case side1 => exact Glob.step HG.out (r4e4_)); rintro e w' ⟨rfl, ⟨nd, rfl⟩⟩; (try first | exact ⟨rfl, _, World.drewN_drewN _ _ _⟩ | exact ⟨rfl, _, Eq.trans (World.drewN_drewN _ _ _) (congrArg (World.drewN _) (Nat.add_assoc _ _ _))⟩))))
  go_ret
  exact ⟨eA, r4c2_, r4e4_, r4f5_⟩
def aP_.l0 : Nat → Int → ByteArray → Int → Option (Int × ByteArray × Int)
 | 0, _, _, _ => none
 | k + 1, x3, x1000, x1001 => if x1001 < (x1000.size : Int) then (if 0 ≤ x1001 then ((bS_.f (bt x1000 x1001)).bind fun t151 => (if t151 = true then (aP_.l0 k x3 x1000 (wrap64 (x1001 + 1))) else (some (wrap64 (x1001 - x3), x1000, x1001)))) else (none)) else (some (wrap64 (x1001 - x3), x1000, x1001))
def aP_.f (k : Nat) (s0_0 : ByteArray) (s0_1 : Int) : Option (Int × ByteArray × Int) := aP_.l0 k s0_1 s0_0 s0_1
theorem aP_.mono_l : ∀ k, (∀ y0 y1 y2, LeO (aP_.l0 k y0 y1 y2) (aP_.l0 (k + 1) y0 y1 y2))
 | 0 => fun _ _ _ r h => by simp [aP_.l0] at h
 | k + 1 => by
  have ih0 := aP_.mono_l k
  ·intro y0 y1 y2
   unfold aP_.l0
   exact mo
theorem aP_.mono : ∀ a0 a1 k, LeO (aP_.f k a0 a1) (aP_.f (k + 1) a0 a1) := by
 intro a0 a1 k
 have ih0 := aP_.mono_l k
 unfold aP_.f
 exact mo
theorem aP_.calls (k : Nat) (g : Nat) (s0_0 : ByteArray) (s0_1 : Int) (r1 : Int) (r2 : ByteArray) (r3 : Int) (w0 w : World) (hI : aD_ w0 w g s0_0 s0_1) (hB : Below w0.heap.size w0 w) (hG : Glob w0) (h : aP_.f k s0_0 s0_1 = some (r1, r2, r3)) :
 Calls Tryz.prog 75 #[.pointer (some ⟨g, 0, none⟩)] w fun e w' => e = .returned (.int .i64 r1) ∧ aD_ w0 w' g r2 r3 ∧ Below w0.heap.size w0 w' ∧ aJ_ w w' g none := by
 have HG := aA_.mk hG
 clear hG
 have HI0 := aA_.mk hI
 have HK := aA_.mk (aJ_.refl w g none)
 have HL := aA_.mk hB.size
 clear hI
 have HW0 := aA_.mk hB.size
 have HB := aA_.mk hB
 clear hB
 have H : (aP_.l0 k s0_1 s0_0 s0_1) = some (r1, r2, r3) := h
 clear h
 have H' := aA_.mk H
 clear H
 obtain ⟨HGz2, hgz2⟩ := HI0.out
 have hcz2_0 := a9_ HGz2
 have hcz2_1 := bA_ HGz2
 have hfz2_0 := aE_ HGz2 0
 have hfz2_1 := aE_ HGz2 1
 clear HGz2 hgz2
 go_enter Tryz.func75, Tryz.ntmps75
 go_wp2
 repeat (go_quiet (fail); try go_wp2)
 go_loopg [] k (fun kq w' => ∃ (x1001_1 : Int), aA_ (aP_.l0 kq s0_1 s0_0 x1001_1 = some (r1, r2, r3)) ∧ aA_ (kq ≤ k) ∧ aA_ (aD_ w0 w' g s0_0 x1001_1) ∧ aA_ (aJ_ w w' g none) ∧ aA_ (Below w0.heap.size w0 w'))
 case atStart => exact ⟨(s0_1), H', ⟨Nat.le_refl _⟩, ⟨r4c2_⟩, ⟨r4f5_⟩, ⟨r4e4_⟩⟩
 clear H'
 try clear p2
 try clear hcz2_0
 try clear hcz2_1
 try clear hfz2_0
 try clear hfz2_1
 obtain ⟨x1001_1, HA, HK1, HI0, HK, HB⟩ := hrel
 cases gk with
 | zero => exact absurd HA.out (by simp [aP_.l0])
 | succ k1 =>
  have H := HA.out
  clear HA
  simp only [aP_.l0] at H
  by_cases c3 : x1001_1 < (s0_0.size : Int)
  rotate_left
  ·rw [if_neg c3] at H
   have c3b0 := dF c3
   clear c3
   simp only [Option.some.injEq, Prod.mk.injEq] at H
   obtain ⟨rfl, rfl, rfl⟩ := H
   obtain ⟨HGz10, hgz10⟩ := HI0.out
   have hcz10_0 := a9_ HGz10
   have hcz10_1 := bA_ HGz10
   have hfz10_0 := aE_ HGz10 0
   have hfz10_1 := aE_ HGz10 1
   clear HGz10 hgz10
   go_wp2
   repeat (go_quiet (fail); try go_wp2)
   go_ret
   exact ⟨eA, r4c2_, r4e4_, r4f5_⟩
  rw [if_pos c3] at H
  have c3b0 := dT c3
  clear c3
  obtain ⟨c4, H⟩ := gp H
  have c4b0 := dT c4
  clear c4
  replace H := bi H
  obtain ⟨t151, A60, H⟩ := H
  try dsimp only at H
  have A6 := aA_.mk A60
  clear A60
  by_cases c7 : t151 = true
  rotate_left
  ·replace c7 := Bool.eq_false_iff.mpr c7
   subst c7
   replace H : (some (wrap64 (x1001_1 - s0_1), s0_0, x1001_1)) = some (r1, r2, r3) := by rw [if_neg nF] at H; exact H
   simp only [Option.some.injEq, Prod.mk.injEq] at H
   obtain ⟨rfl, rfl, rfl⟩ := H
   obtain ⟨HGz9, hgz9⟩ := HI0.out
   have hcz9_0 := a9_ HGz9
   have hcz9_1 := bA_ HGz9
   have hfz9_0 := aE_ HGz9 0
   have hfz9_1 := aE_ HGz9 1
   clear HGz9 hgz9
   have p5 : 0 ≤ (x1001_1 : Int) := dA
   have q5 : x1001_1 < (s0_0.size : Int) := dA
   have hx5 := dP_ s0_0 x1001_1
   replace p5 := eq_true p5
   replace q5 := eq_true q5
   go_wp2_with (first | (go_at_call 43; (with_reducible refine (bS_.calls (bt s0_0 x1001_1) false _ ?side1 A6.out).mono ?_); (case side1 => exact Glob.step HG.out (r4e4_)); rintro e w' ⟨rfl, ⟨nd, rfl⟩⟩; (try first | exact ⟨rfl, _, World.drewN_drewN _ _ _⟩ | exact ⟨rfl, _, Eq.trans (World.drewN_drewN _ _ _) (congrArg (World.drewN _) (Nat.add_assoc _ _ _))⟩)))
   repeat (go_quiet (first | (go_at_call 43; (with_reducible refine (bS_.calls (bt s0_0 x1001_1) false _ ?side1 A6.out).mono ?_); (case side1 => exact Glob.step HG.out (r4e4_)); rintro e w' ⟨rfl, ⟨nd, rfl⟩⟩; (try first | exact ⟨rfl, _, World.drewN_drewN _ _ _⟩ | exact ⟨rfl, _, Eq.trans (World.drewN_drewN _ _ _) (congrArg (World.drewN _) (Nat.add_assoc _ _ _))⟩))); try go_wp2_with (first | (go_at_call 43; (with_reducible refine (bS_.calls (bt s0_0 x1001_1) false _ ?side1 A6.out).mono ?_); (case side1 => exact Glob.step HG.out (r4e4_)); rintro e w' ⟨rfl, ⟨nd, rfl⟩⟩; (try first | exact ⟨rfl, _, World.drewN_drewN _ _ _⟩ | exact ⟨rfl, _, Eq.trans (World.drewN_drewN _ _ _) (congrArg (World.drewN _) (Nat.add_assoc _ _ _))⟩))))
   go_ret
   exact ⟨eA, r4c2_, r4e4_, r4f5_⟩
  subst c7
  replace H : (aP_.l0 k1 s0_1 s0_0 (wrap64 (x1001_1 + 1))) = some (r1, r2, r3) := by rw [if_pos rfl] at H; exact H
  have H' := aA_.mk H
  clear H
  obtain ⟨HGz8, hgz8⟩ := HI0.out
  have hcz8_0 := a9_ HGz8
  have hcz8_1 := bA_ HGz8
  have hfz8_0 := aE_ HGz8 0
  have hfz8_1 := aE_ HGz8 1
  clear HGz8 hgz8
  have p5 : 0 ≤ (x1001_1 : Int) := dA
  have q5 : x1001_1 < (s0_0.size : Int) := dA
  have hx5 := dP_ s0_0 x1001_1
  replace p5 := eq_true p5
  replace q5 := eq_true q5
  go_wp2_with (first | (go_at_call 43; (with_reducible refine (bS_.calls (bt s0_0 x1001_1) true _ ?side1 A6.out).mono ?_); (case side1 => exact Glob.step HG.out (r4e4_)); rintro e w' ⟨rfl, ⟨nd, rfl⟩⟩; (try first | exact ⟨rfl, _, World.drewN_drewN _ _ _⟩ | exact ⟨rfl, _, Eq.trans (World.drewN_drewN _ _ _) (congrArg (World.drewN _) (Nat.add_assoc _ _ _))⟩)))
  repeat (go_quiet (first | (go_at_call 43; (with_reducible refine (bS_.calls (bt s0_0 x1001_1) true _ ?side1 A6.out).mono ?_); (case side1 => exact Glob.step HG.out (r4e4_)); rintro e w' ⟨rfl, ⟨nd, rfl⟩⟩; (try first | exact ⟨rfl, _, World.drewN_drewN _ _ _⟩ | exact ⟨rfl, _, Eq.trans (World.drewN_drewN _ _ _) (congrArg (World.drewN _) (Nat.add_assoc _ _ _))⟩))); try go_wp2_with (first | (go_at_call 43; (with_reducible refine (bS_.calls (bt s0_0 x1001_1) true _ ?side1 A6.out).mono ?_); (case side1 => exact Glob.step HG.out (r4e4_)); rintro e w' ⟨rfl, ⟨nd, rfl⟩⟩; (try first | exact ⟨rfl, _, World.drewN_drewN _ _ _⟩ | exact ⟨rfl, _, Eq.trans (World.drewN_drewN _ _ _) (congrArg (World.drewN _) (Nat.add_assoc _ _ _))⟩))))
  go_roundg k1
  case measure => have := HK1.out; omega
  case rel => exact ⟨(wrap64 (x1001_1 + 1)), H', ⟨by have := HK1.out; omega⟩, ⟨r4c2_⟩, ⟨r4f5_⟩, ⟨r4e4_⟩⟩
end Go.Proofs.YtkoogebfdinbnaaGreat.Q
